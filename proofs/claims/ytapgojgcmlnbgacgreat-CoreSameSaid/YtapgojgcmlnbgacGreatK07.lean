/- Parts of a proof. -/
import Derived.Test.YtapgojgcmlnbgacGreatK06
import Derived.Test.YtapgojgcmlnbgacGreatK04
import Derived.Test.YtapgojgcmlnbgacGreatK05
import Derived.WalkLawsBesides
import Derived.Lib.Hide
import Derived.Test.YtapgojgcmlnbgacGreatProg
import Derived.Test.YtapgojgcmlnbgacGreatK00
import Derived.WalkSpells
import Derived.Outline
import Derived.Deep.Cut
set_option linter.unusedSimpArgs false
set_option linter.unusedVariables false
set_option maxRecDepth 100000
set_option maxHeartbeats 16000000
namespace Go.Proofs.YtapgojgcmlnbgacGreat
open Go
def F7 (C:Core):Prop:=C.still=true→∃ L u,C.ops=L++[u]∧Eu u=true
theorem Zf {u u':Uop} (hi:u'.ins=u.ins) (hc:u'.cause=u.cause) (h0:u.state≠2) (h:Eu u=true):Eu u'=true:=by
 unfold Eu Cz at h ⊢
 rw [decide_eq_false h0] at h
 rw [hi,hc]
 simp only [Bool.false_and,Bool.or_false] at h
 rcases ha:Be u.ins with _ | _
 ·rw [ha,Bool.false_or] at h
  rw [h]
  rfl
 ·rfl
theorem Z6 {L R:List Uop} {u u':Uop} (hi:u'.ins=u.ins) (hc:u'.cause=u.cause) (h0:u.state≠2) (h:∃ L' w,L++u::R=L'++[w]∧Eu w=true):∃ L' w,L++u'::R=L'++[w]∧Eu w=true:=by
 obtain⟨L',w,e,hl⟩:=h
 rcases Uo e.symm with⟨R0,rfl,_⟩ | ⟨rfl,rfl,_⟩
 ·exact⟨L++u'::R0,w,by simp,hl⟩
 ·exact⟨L,u',rfl,Zf hi hc h0 hl⟩
theorem Om (c:Core) (k:Nat):(Fc c k).still=true→c.still=true∧(Fc c k).ops=c.ops:=by
 unfold Fc
 dsimp only
 split
 ·intro h
  have h:false=true:=h
  cases h
 ·intro h
  exact⟨h,rfl⟩
theorem M5 {C:Core} (h:Inv C) (hs:F7 C) {L R:List Uop} {u:Uop} (ho:C.ops=L++u::R) (h1:u.state=1):F7 (B9 C L.length):=by
 have hsq:=h.seqs
 rw [ho] at hsq
 obtain⟨hlt,hgt⟩:=Dz hsq
 rw [M4 h ho h1]
 dsimp only
 have h2:(Cc C L R u (Ad C L u) (uD u (Ad C L u)) (Ck C u (Ad C L u))).still=true→∃ L' w,L++uD u (Ad C L u)::R=L'++[w]∧Eu w=true:=fun hh=>
  Z6 (u:=u) rfl rfl (by omega) (by rw [←ho];exact hs hh)
 split
 ·rename_i h0
  intro _
  refine⟨L,uD u (Ad C L u),?_,?_⟩
  ·show(L++uD u (Ad C L u)::R).filter (fun v=>!decide (u.seq+1≤v.seq))=L++[uD u (Ad C L u)]
   have e:L++uD u (Ad C L u)::R=(L++[uD u (Ad C L u)])++R:=by simp
   rw [e]
   refine filter_lt (fun v hv=>?_) (fun v hv=>by have:=hgt v hv;omega)
   rcases List.mem_append.1 hv with hv | hv
   ·have:=hlt v hv;omega
   ·rw [List.mem_singleton.1 hv];show u.seq<u.seq+1;omega
  ·unfold Eu Cz uD
   simp [h0]
 ·rcases hm:Oi C L u with _ | _
  ·simp only [Bool.false_eq_true,if_false]
   split
   ·intro hh
    obtain⟨g1,g2⟩:=Om _ _ hh
    rw [g2]
    exact h2 g1
   ·exact h2
  ·simp only [if_true]
   split
   ·intro hh
    have:=(Om _ _ hh).1
    have:false=true:=this
    cases this
   ·intro hh
    have hh:false=true:=hh
    cases hh
theorem Yy {C:Core} (h:Inv C) (hs:F7 C):F7 (Bz C).2:=by
 rcases Nt h with⟨e,_⟩ | ⟨_,hfr,hw,⟨h0,hin,e⟩ | ⟨i,hf,his,e⟩⟩
 ·rw [e];exact hs
 ·rw [e]
  intro _
  refine⟨C.ops,_,rfl,?_⟩
  unfold Eu Cz
  rw [decide_eq_true (show(Xn C (Ds (known C.ops) C.mem C.seq C.pc)).cause≠0 by show(Ds (known C.ops) C.mem C.seq C.pc).2≠0;omega)]
  simp
 ·rw [e]
  intro hh
  have hh:Be i=true:=hh
  refine⟨C.ops,_,rfl,?_⟩
  unfold Eu
  rw [show Be (Ht C i).ins=Be i from rfl,hh]
  rfl
theorem Tt {C:Core} (hs:F7 C) {R:List Uop} {u:Uop} (ho:C.ops=u::R) (hst:Cz u=false):F7 (Bq C):=by
 intro hh
 rw [Ep ho] at hh ⊢
 have hh:(if Be u.ins=true then false else C.still)=true:=hh
 rcases ha:Be u.ins with _ | _
 ·rw [ha] at hh
  obtain⟨L,w,e,hl⟩:=hs hh
  rw [ho] at e
  show ∃ L' w,R=L'++[w]∧Eu w=true
  cases L with
  |nil=>
   have e:u::R=[w]:=e
   injection e with e1 e2
   rw [←e1] at hl
   unfold Eu at hl
   rw [ha,hst] at hl
   cases hl
  |cons x L=>
   rw [List.cons_append] at e
   injection e with e1 e2
   exact⟨L,w,e2,hl⟩
 ·rw [ha] at hh
  cases hh
structure Ajp (C C':Core) (k:Nat) (now:Int):Prop where
 same:C'={ C with ops:=C'.ops,script:=C'.script,words:=C'.words,there:=C'.there }
 ops:C'.ops=C.ops∨((C.op k).state=0∧∃ r g,r≤now+9∧C'.ops=C.ops.set k { C.op k with state:=1,ready:=r,guessed:=g })
theorem Kj (C:Core) (k:Nat) (now head:Int):Ajp C (Cf C k now head).2 k now:=by
 unfold Cf
 dsimp only
 split
 ·exact⟨rfl,Or.inl rfl⟩
 rename_i hn
 have h0:(C.op k).state=0:=by rcases Decidable.em ((C.op k).state=0) with e | e;exact e;exact absurd (Or.inl e) hn
 split
 ·exact⟨rfl,Or.inr ⟨h0,now+3,(C.op k).guessed,by omega,rfl⟩⟩
 split
 ·split
  ·refine⟨?_,Or.inr ⟨h0,now+1+H3 C.script%9,true,by omega,rfl⟩⟩
   unfold Dk
   split<;>rfl
  ·exact⟨rfl,Or.inr ⟨h0,now+1+H3 C.script%9,(C.op k).guessed,by omega,rfl⟩⟩
 ·exact⟨rfl,Or.inr ⟨h0,now+1,(C.op k).guessed,by omega,rfl⟩⟩
theorem X7 {C:Core} (hs:F7 C) {L R:List Uop} {u:Uop} (ho:C.ops=L++u::R) (now head:Int):F7 (Cf C L.length now head).2:=by
 obtain⟨hsame,hops⟩:=Kj C L.length now head
 intro hh
 have hst:(Cf C L.length now head).2.still=C.still:=by rw [hsame]
 rw [hst] at hh
 rcases hops with e | ⟨h0,r,g,_,e⟩
 ·rw [e];exact hs hh
 ·have hu:C.op L.length=u:=Core.op_at ho
  rw [hu] at h0 e
  rw [e,ho,Gi]
  exact Z6 (u:=u) rfl rfl (by omega) (by rw [←ho];exact hs hh)
theorem Aam {C:Core} (h:Inv C) {R:List Uop} {u:Uop} (ho:C.ops=u::R) (h0:u.state=0) (now:Int) :
  (Cf C 0 now (C.op 0).seq).1=true∧∃ u',(Cf C 0 now (C.op 0).seq).2.ops=u'::R∧u'.state=1∧u'.ready≤now+9:=by
 have hu:C.op 0=u:=Core.op_at (L:=[]) ho
 obtain⟨N,hgN,_,hcN,hvN⟩:=h.names
 have hO:=h.ops [] u R ho
 rw [ho] at hcN
 have hc:u.cause=0:=by
  rcases Decidable.em (u.cause=0) with e | e
  ·exact e
  ·have:=(hO.fault e).1;omega
 have hi:=Iu (Inv.insOk hO hc)
 obtain⟨s1,s2⟩:=hcN.1.src hc
 have ha:C.has u.a=true:=by rw [s1];exact(hvN _ (by omega)).1
 have hb:C.has u.b=true:=by rw [s2];exact(hvN _ (by omega)).1
 have hno:¬ (u.state≠0∨C.has u.a=false∨C.has u.b=false∨(Be u.ins=true∧u.seq≠u.seq)):=by
  rw [ha,hb]
  rintro(hh | hh | hh | ⟨_,hh⟩)
  ·exact hh h0
  ·cases hh
  ·cases hh
  ·exact hh rfl
 have h1:(Cf C 0 now (C.op 0).seq).1=true:=by
  unfold Cf
  rw [hu]
  dsimp only
  rw [if_neg hno]
  (repeat' split)<;>rfl
 refine⟨h1,?_⟩
 unfold Cf
 rw [hu]
 dsimp only
 rw [if_neg hno,ho]
 split
 ·exact⟨_,rfl,rfl,by show now+3≤_;omega⟩
 split
 ·split
  ·exact⟨_,rfl,rfl,by show now+1+_%9≤_;omega⟩
  ·exact⟨_,rfl,rfl,by show now+1+_%9≤_;omega⟩
 ·exact⟨_,rfl,rfl,by show now+1≤_;omega⟩
structure Mid (C C':Core):Prop where
 hart:C'.hart=C.hart
 mem:C'.mem=C.mem
 commits:C'.commits=C.commits
 wide:C'.wide=C.wide
 cycles:C'.cycles=C.cycles
 taken:C.taken≤C'.taken
 backs:C.backs≤C'.backs
theorem Mid.refl (C:Core):Mid C C:=⟨rfl,rfl,rfl,rfl,rfl,Int.le_refl _,Int.le_refl _⟩
theorem Mid.trans {A B C:Core} (h:Mid A B) (k:Mid B C):Mid A C:=
 ⟨k.hart.trans h.hart,k.mem.trans h.mem,k.commits.trans h.commits,k.wide.trans h.wide,k.cycles.trans h.cycles,Int.le_trans h.taken k.taken,Int.le_trans h.backs k.backs⟩
structure Good (C:Core):Prop where
 inv:Inv C
 still:F7 C
def Ac6 (T:Int) (C:Core):Prop:=∀ u∈C.ops,u.state=1→u.ready≤T
structure Part (C C':Core) (T:Int) (L:List Uop):Prop where
 good:Good C'
 mid:Mid C C'
 soon:Ac6 T C→Ac6 T C'
 ops:∃ R',C'.ops=L++R'
theorem Part.refl {C:Core} (h:Good C) (T:Int) {L R:List Uop} (ho:C.ops=L++R):Part C C T L:=⟨h,Mid.refl C,id,R,ho⟩
theorem Gf (now T:Int):∀ (n:Nat) (C:Core) (L R:List Uop),Good C→C.ops=L++R→Part C (finishAll n L.length now C) T L
 |0,C,L,R,h,ho=>Part.refl h T ho
 |n+1,C,L,[],h,ho=>by
  show Part C (if L.length<C.ops.length then _ else C) T L
  rw [if_neg (by rw [ho];simp)]
  exact Part.refl h T ho
 |n+1,C,L,u::R,h,ho=>by
  show Part C (if L.length<C.ops.length then finishAll n (L.length+1) now (if (C.op L.length).state=1∧(C.op L.length).ready≤now then B9 C L.length else C) else C) T L
  rw [if_pos (by rw [ho];simp)]
  have hu:C.op L.length=u:=Core.op_at ho
  rw [hu]
  have hlen:L.length+1=(L++[u]).length:=by simp
  split
  ·rename_i hc
   have K:=N9 h.inv ho hc.1
   obtain⟨u',X,Y,hR,hops,hst,_⟩:=K.ops
   have hlen':L.length+1=(L++[u']).length:=by simp
   have hgood:Good (B9 C L.length):=⟨K.inv,M5 h.inv h.still ho hc.1⟩
   have P:=Gf now T n (B9 C L.length) (L++[u']) X hgood (by rw [hops];simp)
   rw [hlen']
   refine⟨P.good,Mid.trans ⟨K.hart,K.mem,K.commits,K.cfg.1,K.cycles,by rw [K.taken];exact Int.le_refl _,K.backs.1⟩ P.mid,fun hs=>P.soon fun v hv hv1=>?_,?_⟩
   ·rw [hops] at hv
    rcases List.mem_append.1 hv with hv | hv
    ·exact hs v (by rw [ho];simp [hv]) hv1
    ·rcases List.mem_cons.1 hv with rfl | hv
     ·omega
     ·exact hs v (by rw [ho,hR];simp [hv]) hv1
   ·obtain⟨R',e⟩:=P.ops
    exact⟨u'::R',by rw [e];simp⟩
  ·have P:=Gf now T n C (L++[u]) R h (by rw [ho];simp)
   rw [hlen]
   refine⟨P.good,P.mid,P.soon,?_⟩
   obtain⟨R',e⟩:=P.ops
   exact⟨u::R',by rw [e];simp⟩
theorem Y2 (now T:Int) (n:Nat) {C:Core} {u:Uop} {R:List Uop} (h:Good C) (ho:C.ops=u::R) :
  ∃ u' R',(finishAll (n+1) 0 now C).ops=u'::R'∧(u'.state=2∨(u'=u∧¬ (u.state=1∧u.ready≤now))):=by
 show ∃ u' R',(if 0<C.ops.length then finishAll n 1 now (if (C.op 0).state=1∧(C.op 0).ready≤now then B9 C 0 else C) else C).ops=u'::R'∧_
 rw [if_pos (by rw [ho];simp)]
 have hu:C.op 0=u:=Core.op_at (L:=[]) ho
 rw [hu]
 split
 ·rename_i hc
  have K:=N9 h.inv (L:=[]) ho hc.1
  obtain⟨u',X,Y,hR,hops,hst,_⟩:=K.ops
  have hgood:Good (B9 C 0):=⟨K.inv,M5 h.inv h.still (L:=[]) ho hc.1⟩
  obtain⟨R',e⟩:=(Gf now T n (B9 C 0) [u'] X hgood (by rw [show B9 C 0=B9 C [].length from rfl,hops];rfl)).ops
  exact⟨u',R',e,Or.inl hst⟩
 ·rename_i hc
  obtain⟨R',e⟩:=(Gf now T n C [u] R h (by rw [ho];rfl)).ops
  exact⟨u,R',e,Or.inr ⟨rfl,hc⟩⟩
theorem Y3 (now:Int) (n k:Nat) {C:Core} (ho:C.ops=[]):finishAll n k now C=C:=by
 cases n with
 |zero=>rfl
 |succ n=>
  show(if k<C.ops.length then _ else C)=C
  rw [if_neg (by rw [ho];simp)]
theorem Ou {C:Core} (h:Good C) {L R:List Uop} {u:Uop} (ho:C.ops=L++u::R) (now:Int):Good (Cf C L.length now (C.op 0).seq).2:=
 ⟨Adg h.inv ho now,X7 h.still ho now _⟩
theorem Adh (C:Core) (k:Nat) (now head:Int):Mid C (Cf C k now head).2:=by
 obtain⟨hs,_⟩:=Kj C k now head
 rw [hs]
 exact⟨rfl,rfl,rfl,rfl,rfl,Int.le_refl _,Int.le_refl _⟩
theorem Lr (now:Int):∀ (n:Nat) (some_:Int) (C:Core) (L R:List Uop),Good C→C.ops=L++R→Part C (beginAll n L.length some_ now C) (now+9) L
 |0,_,C,L,R,h,ho=>Part.refl h _ ho
 |n+1,some_,C,L,[],h,ho=>by
  show Part C (if L.length<C.ops.length∧some_<C.wide then _ else C) _ L
  rw [if_neg (by rw [ho];simp)]
  exact Part.refl h _ ho
 |n+1,some_,C,L,u::R,h,ho=>by
  show Part C (if L.length<C.ops.length∧some_<C.wide then beginAll n (L.length+1) (if (Cf C L.length now (C.op 0).seq).1=true then some_+1 else some_) now (Cf C L.length now (C.op 0).seq).2 else C) _ L
  split
  ·have hu:C.op L.length=u:=Core.op_at ho
   obtain⟨_,hops⟩:=Kj C L.length now (C.op 0).seq
   have hg:=Ou h ho now
   have hm:=Adh C L.length now (C.op 0).seq
   generalize (Cf C L.length now (C.op 0).seq).1=b
   generalize hC':(Cf C L.length now (C.op 0).seq).2=C' at hops hg hm ⊢
   obtain⟨u',e,hst⟩:∃ u',C'.ops=L++u'::R∧(u'=u∨(u'.state=1∧u'.ready≤now+9)):=by
    rcases hops with e | ⟨_,r,g,hr,e⟩
    ·exact⟨u,by rw [e,ho],Or.inl rfl⟩
    ·exact⟨_,by rw [e,ho,Gi],Or.inr ⟨rfl,hr⟩⟩
   have hlen:L.length+1=(L++[u']).length:=by simp
   have P:=Lr now n (if b=true then some_+1 else some_) C' (L++[u']) R hg (by rw [e];simp)
   rw [hlen]
   refine⟨P.good,hm.trans P.mid,fun hs=>P.soon fun v hv hv1=>?_,?_⟩
   ·rw [e] at hv
    rcases List.mem_append.1 hv with hv | hv
    ·exact hs v (by rw [ho];simp [hv]) hv1
    ·rcases List.mem_cons.1 hv with rfl | hv
     ·rcases hst with rfl | hst
      ·exact hs _ (by rw [ho];simp) hv1
      ·exact hst.2
     ·exact hs v (by rw [ho];simp [hv]) hv1
   ·obtain⟨R',e⟩:=P.ops
    exact⟨u'::R',by rw [e];simp⟩
  ·exact Part.refl h _ ho
theorem Sc (now:Int) (n:Nat) {C:Core} {u:Uop} {R:List Uop} (h:Good C) (ho:C.ops=u::R) :
  ∃ u' R',(beginAll (n+1) 0 0 now C).ops=u'::R'∧(if u.state=0 then u'.state=1∧u'.ready≤now+9 else u'=u):=by
 show ∃ u' R',(if 0<C.ops.length∧0<C.wide then beginAll n 1 (if (Cf C 0 now (C.op 0).seq).1=true then 0+1 else 0) now (Cf C 0 now (C.op 0).seq).2 else C).ops=u'::R'∧_
 rw [if_pos ⟨by rw [ho];simp,by have:=h.inv.cfg.2.1;omega⟩]
 have hu:C.op 0=u:=Core.op_at (L:=[]) ho
 have hg:=Ou h (L:=[]) ho now
 have hg:Good (Cf C 0 now (C.op 0).seq).2:=hg
 obtain⟨u',e,hst⟩:∃ u',(Cf C 0 now (C.op 0).seq).2.ops=u'::R∧(if u.state=0 then u'.state=1∧u'.ready≤now+9 else u'=u):=by
  by_cases h0:u.state=0
  ·obtain⟨_,u',e,h1,h2⟩:=Aam h.inv ho h0 now
   exact⟨u',e,by rw [if_pos h0];exact⟨h1,h2⟩⟩
  ·refine⟨u,?_,by rw [if_neg h0]⟩
   rcases(Kj C 0 now (C.op 0).seq).ops with e | ⟨e0,_⟩
   ·rw [e,ho]
   ·rw [hu] at e0
    exact absurd e0 h0
 obtain⟨R',e'⟩:=(Lr now n (if (Cf C 0 now (C.op 0).seq).1=true then 0+1 else 0) _ [u'] R hg (by rw [e];rfl)).ops
 exact⟨u',R',e',hst⟩
theorem Aao (now:Int) (n k:Nat) (s:Int) {C:Core} (ho:C.ops=[]):beginAll n k s now C=C:=by
 cases n with
 |zero=>rfl
 |succ n=>
  show(if k<C.ops.length∧s<C.wide then _ else C)=C
  rw [if_neg (by rw [ho];simp)]
theorem J0 {C:Core} (h:Good C) (T:Int):Part C (Bz C).2 T C.ops:=by
 have hg:Good (Bz C).2:=⟨Ad7 h.inv,Yy h.inv h.still⟩
 rcases Nt h.inv with⟨e,_⟩ | ⟨_,hfr,hw,⟨h0,hin,e⟩ | ⟨i,hf,his,e⟩⟩
 ·rw [e];exact Part.refl h T (R:=[]) (by simp)
 ·rw [e] at hg ⊢
  refine⟨hg,⟨rfl,rfl,rfl,rfl,rfl,by show C.taken≤C.taken+1;omega,Int.le_refl _⟩,fun hs v hv h1=>?_,[_],rfl⟩
  rcases List.mem_append.1 hv with hv | hv
  ·exact hs v hv h1
  ·rw [List.mem_singleton.1 hv] at h1
   have h1:(2:Int)=1:=h1
   cases h1
 ·rw [e] at hg ⊢
  refine⟨hg,⟨rfl,rfl,rfl,rfl,rfl,by show C.taken≤C.taken+1;omega,Int.le_refl _⟩,fun hs v hv h1=>?_,[_],rfl⟩
  rcases List.mem_append.1 hv with hv | hv
  ·exact hs v hv h1
  ·rw [List.mem_singleton.1 hv] at h1
   have h1:(0:Int)=1:=h1
   cases h1
theorem Kv (T:Int):∀ (n:Nat) (C:Core),Good C→Part C (fetchAll n C) T C.ops
 |0,C,h=>Part.refl h T (R:=[]) (by simp)
 |n+1,C,h=>by
  have P:=J0 h T
  show Part C (if (Bz C).1=true then fetchAll n (Bz C).2 else (Bz C).2) T C.ops
  split
  ·have Q:=Kv T n (Bz C).2 P.good
   obtain⟨R1,e1⟩:=P.ops
   obtain⟨R2,e2⟩:=Q.ops
   exact⟨Q.good,P.mid.trans Q.mid,fun hs=>Q.soon (P.soon hs),R1++R2,by rw [e2,e1];simp⟩
  ·exact P
theorem Yw {C:Core} (h:Good C) (ho:C.ops=[]):∃ u,(Bz C).2.ops=[u]∧(u.state=0∨u.state=2):=by
 rcases Nt h.inv with⟨_,hc⟩ | ⟨_,hfr,hw,⟨h0,hin,e⟩ | ⟨i,hf,his,e⟩⟩
 ·exfalso
  rcases hc with hc | hc | hc
  ·obtain⟨L,u,e,_⟩:=h.still hc
   rw [ho] at e
   cases L<;>cases e
  ·obtain⟨N,hgN,hlN,hcN,_⟩:=h.inv.names
   rw [ho] at hcN
   have hcN:N=C.names:=hcN
   have hp:=hgN.phys
   have hl:=hgN.len
   unfold A1.all at hlN
   rw [List.length_append,hl,hcN,hc] at hlN
   rw [hcN] at hp
   simp at hlN
   omega
  ·have:=h.inv.cfg.1.1
   rw [ho] at hc
   simp at hc
   omega
 ·rw [e]
  exact⟨_,by show C.ops++[_]=_;rw [ho];rfl,Or.inr rfl⟩
 ·rw [e]
  exact⟨_,by show C.ops++[_]=_;rw [ho];rfl,Or.inl rfl⟩
theorem Tl (n:Nat) {C:Core} (h:Good C) (ho:C.ops=[]):∃ u R,(fetchAll (n+1) C).ops=u::R∧(u.state=0∨u.state=2):=by
 obtain⟨u,e,hst⟩:=Yw h ho
 show ∃ u R,(if (Bz C).1=true then fetchAll n (Bz C).2 else (Bz C).2).ops=u::R∧_
 split
 ·obtain⟨R,e2⟩:=(Kv 0 n (Bz C).2 (J0 h 0).good).ops
  rw [e] at e2
  exact⟨u,R,e2,hst⟩
 ·exact⟨u,[],e,hst⟩
structure Ran (k:Nat) (C C':Core):Prop where
 run:(Dr k C.hart C.mem).2=(C'.hart,C'.mem)
 commits:C'.commits=C.commits++(Dr k C.hart C.mem).1
 len:(Dr k C.hart C.mem).1.length=k
 wide:C'.wide=C.wide
 cycles:C'.cycles=C.cycles
 taken:C'.taken=C.taken
 backs:C'.backs=C.backs
theorem Ran.refl (C:Core):Ran 0 C C:=⟨rfl,by simp [Dr],rfl,rfl,rfl,rfl,rfl⟩
theorem Ran.trans {a b:Nat} {A B C:Core} (h:Ran a A B) (k:Ran b B C):Ran (a+b) A C:=by
 have e:=Z1 a b A.hart A.mem
 have h1:(Dr a A.hart A.mem).2.1=B.hart:=by rw [h.run]
 have h2:(Dr a A.hart A.mem).2.2=B.mem:=by rw [h.run]
 rw [h1,h2] at e
 refine⟨by rw [e];exact k.run,by rw [e,k.commits,h.commits,List.append_assoc],by rw [e,List.length_append,h.len,k.len],k.wide.trans h.wide,k.cycles.trans h.cycles,k.taken.trans h.taken,k.backs.trans h.backs⟩
theorem Ran.mid {k:Nat} {A B C:Core} (h:Ran k A B) (m:Mid B C):(Dr k A.hart A.mem).2=(C.hart,C.mem)∧C.commits=A.commits++(Dr k A.hart A.mem).1:=by
 rw [m.hart,m.mem,m.commits]
 exact⟨h.run,h.commits⟩
def own (C:Core):Core:={ C with slots:=C.ops.map B6 }
theorem Ts {C:Core} (h:Inv (own C)) {u:Uop} {R:List Uop} (ho:C.ops=u::R) (h2:u.state=2):Ran 1 C (Bq C)∧(Bq C).ops=R∧(Bq C).slots=C.slots:=by
 have H:Afo C u R:=by
  have H:=Abd h (R:=R) (u:=u) ho h2
  exact⟨H.com,H.pc,H.wf,H.fits,H.hart,H.mem⟩
 have hr:C.hart.state=0:=h.runs
 rw [Ep ho]
 refine⟨⟨?_,?_,?_,rfl,rfl,rfl,rfl⟩,rfl,rfl⟩
 ·rw [Gq hr]
  show(goH C.hart C.mem,goM C.hart C.mem)=(Cq u.commit C.hart,Cs u.commit C.mem)
  rw [H.hart,H.mem]
 ·rw [Gq hr,H.com]
  rfl
 ·rw [Gq hr]
  rfl
theorem V5:∀ (n:Nat) (C:Core),Inv (own C)→F7 C→(∃ L R,C.ops=L++R∧L.length=n∧∀ u∈L,u.state=2) →
  ∃ k,k≤n∧(0<n→0<k)∧Ran k C (goneP n C)∧(goneP n C).slots=C.slots∧((goneP n C).hart.state≠0∨(Inv (own (goneP n C))∧F7 (goneP n C)∧(goneP n C).ops=C.ops.drop n))
 |0,C,h,hs,_=>⟨0,Nat.le_refl _,fun hh=>hh,Ran.refl C,rfl,Or.inr ⟨h,hs,rfl⟩⟩
 |n+1,C,h,hs,⟨[],R,ho,hl,hd⟩=>by cases hl
 |n+1,C,h,hs,⟨u::L,R,ho,hl,hd⟩=>by
  have h2:=hd u (by simp)
  obtain⟨hr,hops,hsl⟩:=Ts h (u:=u) (R:=L++R) ho h2
  have hO:=h.ops [] u (L++R) ho
  show ∃ k,k≤n+1∧(0<n+1→0<k)∧Ran k C (if (Bq C).hart.state≠0 then Bq C else goneP n (Bq C))∧_∧_
  by_cases h0:(Bq C).hart.state=0
  ·have e:goneP (n+1) C=goneP n (Bq C):=by
    show(if (Bq C).hart.state≠0 then Bq C else goneP n (Bq C))=_
    rw [if_neg (fun hh=>hh h0)]
   rw [e,if_neg (fun hh=>hh h0)]
   have hgo:(Bq C).hart=goH C.hart C.mem:=by
    have:=hr.run
    rw [Gq (show C.hart.state=0 from h.runs)] at this
    have:=congrArg Prod.fst this
    exact this.symm
   have hi1:Inv (own (Bq C)):=by
    have:=Y8 h (u:=u) (R:=L++R) ho h2 (by show(goH C.hart C.mem).state=0;rw [←hgo];exact h0)
    rw [Ep (C:=own C) (u:=u) (R:=L++R) ho] at this
    rw [Ep ho]
    exact this
   have hstop:Cz u=false:=by
    have hcs:u.commit.state=0:=by
     have:(Bq C).hart=Cq u.commit C.hart:=by rw [Ep ho]
     rw [this] at h0
     exact h0
    unfold Cz
    rw [hcs]
    rcases Decidable.em (u.cause=0) with hc | hc
    ·rw [hc];simp
    ·have:=(hO.fault hc).2.1
     rw [this] at hcs
     cases hcs
   have hs1:=Tt hs ho hstop
   obtain⟨k,k1,k2,k3,k4,k5⟩:=V5 n (Bq C) hi1 hs1 ⟨L,R,hops,by simpa using hl,fun v hv=>hd v (by simp [hv])⟩
   refine⟨1+k,by omega,fun _=>by omega,hr.trans k3,k4.trans hsl,?_⟩
   rcases k5 with k5 | ⟨k5,k6,k7⟩
   ·exact Or.inl k5
   ·refine Or.inr ⟨k5,k6,?_⟩
    rw [k7,hops,ho]
    rfl
  ·have e:goneP (n+1) C=Bq C:=by
    show(if (Bq C).hart.state≠0 then Bq C else goneP n (Bq C))=_
    rw [if_pos h0]
   rw [e,if_pos h0]
   exact⟨1,by omega,fun _=>by omega,hr,hsl,Or.inl h0⟩
theorem Q8:∀ (ops:List Uop) (most:Int),∃ L R,ops=L++R∧L.length=Dx (ops.map B6) most∧∀ u∈L,u.state=2
 |[],_=>⟨[],[],rfl,rfl,fun u hu=>by cases hu⟩
 |u::ops,most=>by
  show ∃ L R,u::ops=L++R∧L.length=(if 0<most∧(B6 u).done=true then 1+Dx (ops.map B6) (most - 1) else 0)∧_
  split
  ·rename_i hc
   obtain⟨L,R,e,hl,hd⟩:=Q8 ops (most - 1)
   refine⟨u::L,R,by rw [e];rfl,by simp [hl];omega,fun v hv=>?_⟩
   rcases List.mem_cons.1 hv with rfl | hv
   ·exact of_decide_eq_true hc.2
   ·exact hd v hv
  ·exact⟨[],u::ops,rfl,rfl,fun u hu=>by cases hu⟩
theorem Oy {C:Core} (h:Good C):∃ k:Nat,(k:Int)≤C.wide∧Ran k C (B0 C)∧((B0 C).hart.state≠0∨Good (B0 C)) ∧
  (k=0→(B0 C).ops=C.ops∧∀ u R,C.ops=u::R→u.state≠2)∧(∀ u∈(B0 C).ops,(B0 C).hart.state=0→u∈C.ops):=by
 have hK:Dx C.slots C.wide=Dx (C.ops.map B6) C.wide:=by rw [h.inv.slots]
 have hown:own { C with slots:=C.slots.drop (Dx C.slots C.wide) }=C:=by
  unfold own
  show { C with slots:=C.ops.map B6 }=C
  rw [←h.inv.slots]
 obtain⟨k,k1,k2,k3,k4,k5⟩:=V5 (Dx C.slots C.wide) { C with slots:=C.slots.drop (Dx C.slots C.wide) } (by rw [hown];exact h.inv) h.still (by rw [hK];exact Q8 C.ops C.wide)
 have hw:=h.inv.cfg.2
 have hm:=N1 C.slots C.wide (by omega)
 refine⟨k,by omega,⟨k3.run,k3.commits,k3.len,k3.wide,k3.cycles,k3.taken,k3.backs⟩,?_,fun h0=>?_,fun u hu h0=>?_⟩
 ·rcases k5 with k5 | ⟨k5,k6,k7⟩
  ·exact Or.inl k5
  ·right
   have e:own (B0 C)=B0 C:=by
    have hs:(B0 C).slots=C.slots.drop (Dx C.slots C.wide):=k4
    have ho:(B0 C).ops=C.ops.drop (Dx C.slots C.wide):=k7
    unfold own
    have:(B0 C).ops.map B6=(B0 C).slots:=by rw [hs,ho,List.map_drop,←h.inv.slots]
    rw [this]
   refine⟨?_,k6⟩
   rw [←e]
   exact k5
 ·have hz:Dx C.slots C.wide=0:=by
   rcases Nat.eq_zero_or_pos (Dx C.slots C.wide) with e | e
   ·exact e
   ·have:=k2 e;omega
  refine⟨?_,fun u R ho h2=>?_⟩
  ·unfold B0
   rw [hz]
   rfl
  ·rw [hK,ho] at hz
   have:(if 0<C.wide∧(B6 u).done=true then 1+Dx (R.map B6) (C.wide - 1) else 0)=0:=hz
   rw [if_pos ⟨by omega,decide_eq_true h2⟩] at this
   omega
 ·rcases k5 with k5 | ⟨_,_,k7⟩
  ·exact absurd h0 k5
  ·have ho:(B0 C).ops=C.ops.drop (Dx C.slots C.wide):=k7
   rw [ho] at hu
   exact List.mem_of_mem_drop hu
def Aiv (T D:Int):List Uop→Prop
 |[]=>T+11≤D
 |u::_=>(u.state=2∧T≤D)∨(u.state=1∧T+1≤D∧u.ready+1≤D)∨(u.state=0∧T+10≤D)
theorem Af1 {T:Int} {C:Core} (h:Inv C) (hs:Ac6 (T+9) C):Aiv (T+1) (T+12) C.ops:=by
 cases ho:C.ops with
 |nil=>show T+1+11≤T+12;omega
 |cons u R=>
  rcases(h.ops [] u R ho).st with e | e | e
  ·exact Or.inr (Or.inr ⟨e,by omega⟩)
  ·refine Or.inr (Or.inl ⟨e,by omega,?_⟩)
   have:=hs u (by rw [ho];simp) e
   omega
  ·exact Or.inl ⟨e,by omega⟩
structure Lp (C:Core) (D:Int):Prop where
 good:Good C
 soon:Ac6 (C.cycles+8) C
 due:Aiv C.cycles D C.ops
theorem Acw {T D:Int} {l:List Uop} (h:Aiv T D l):T≤D:=by
 cases l with
 |nil=>have h:T+11≤D:=h;omega
 |cons u R=>
  have h:(u.state=2∧T≤D)∨(u.state=1∧T+1≤D∧u.ready+1≤D)∨(u.state=0∧T+10≤D):=h
  omega
theorem Uc {n:Nat} (h:0<n):∃ m,n=m+1:=⟨n - 1,by omega⟩
structure Afn (C C':Core) (k:Nat):Prop where
 run:(Dr k C.hart C.mem).2=(C'.hart,C'.mem)
 commits:C'.commits=C.commits++(Dr k C.hart C.mem).1
 len:(Dr k C.hart C.mem).1.length=k
 few:(k:Int)≤C.wide
 wide:C'.wide=C.wide
 cycles:C'.cycles=C.cycles+1
 taken:C.taken≤C'.taken
 backs:C.backs≤C'.backs
theorem Rc {C:Core} (h:Good C):Good { C with cycles:=C.cycles+1 }:=by
 obtain⟨h,hs⟩:=h
 refine⟨⟨h.cfg,h.hart,h.may,h.runs,h.bytes,h.room,h.tab,h.words,h.there,h.slots,h.seqs,h.access,h.names,h.pcs,h.len,h.seq0,h.pc,fun L v R e=>?_⟩,hs⟩
 have:=h.ops L v R e
 exact⟨this.seq,this.st,this.fault,this.cause,this.fetch,this.pc,this.next,this.nextS,this.src,this.gs,this.d1,this.d2,this.com,this.nx,this.lone,this.last⟩
theorem Tg {C:Core} {D:Int} (h:Lp C D):∃ k,Afn C (Ci C) k∧((0<k∧(Ci C).hart.state≠0)∨(0<k∧Lp (Ci C) (C.cycles+12))∨(k=0∧Lp (Ci C) D)):=by
 obtain⟨k,kw,kr,kg,k0,kin⟩:=Oy (Rc h.good)
 have e:Ci C=(let c1:=B0 { C with cycles:=C.cycles+1 }
   if c1.hart.state≠0 then c1
   else
    let c2:=finishAll c1.ops.length 0 C.cycles c1
    let c3:=beginAll c2.ops.length 0 0 C.cycles c2
    fetchAll c3.wide.toNat c3):=rfl
 rw [e]
 dsimp only
 generalize hc1:B0 { C with cycles:=C.cycles+1 }=c1 at kr kg k0 kin ⊢
 have hcyc1:c1.cycles=C.cycles+1:=kr.cycles
 by_cases h0:c1.hart.state=0
 ·rw [if_neg (fun hh=>hh h0)]
  have g1:Good c1:=by
   rcases kg with kg | kg
   ·exact absurd h0 kg
   ·exact kg
  have hs1:Ac6 (C.cycles+8) c1:=fun u hu h1=>h.soon u (kin u hu h0) h1
  have P2:=Gf C.cycles (C.cycles+8) c1.ops.length c1 [] c1.ops g1 rfl
  have P2:Part c1 (finishAll c1.ops.length 0 C.cycles c1) (C.cycles+8) []:=P2
  generalize hc2:finishAll c1.ops.length 0 C.cycles c1=c2 at P2 ⊢
  have P3:=Lr C.cycles c2.ops.length 0 c2 [] c2.ops P2.good rfl
  have P3:Part c2 (beginAll c2.ops.length 0 0 C.cycles c2) (C.cycles+9) []:=P3
  generalize hc3:beginAll c2.ops.length 0 0 C.cycles c2=c3 at P3 ⊢
  have P4:=Kv (C.cycles+9) c3.wide.toNat c3 P3.good
  have hs2:=P2.soon hs1
  have hs4:=P4.soon (P3.soon fun u hu h1=>by have:=hs2 u hu h1;omega)
  have hm:=P2.mid.trans (P3.mid.trans P4.mid)
  obtain⟨r1,r2⟩:=kr.mid hm
  have hcyc:(fetchAll c3.wide.toNat c3).cycles=C.cycles+1:=by rw [hm.cycles,hcyc1]
  have hCy:Afn C (fetchAll c3.wide.toNat c3) k:=⟨r1,r2,kr.len,kw,by rw [hm.wide];exact kr.wide,hcyc,by have:=hm.taken;rw [kr.taken] at this;exact this,by have:=hm.backs;rw [kr.backs] at this;exact this⟩
  refine⟨k,hCy,Or.inr ?_⟩
  have hs5:Ac6 ((fetchAll c3.wide.toNat c3).cycles+8) (fetchAll c3.wide.toNat c3):=by rw [hcyc];intro u hu h1;have:=hs4 u hu h1;omega
  rcases Nat.eq_zero_or_pos k with hk | hk
  ·right
   refine⟨hk,P4.good,hs5,?_⟩
   rw [hcyc]
   obtain⟨q1,q2⟩:=k0 hk
   have q1:c1.ops=C.ops:=q1
   have hdue:=h.due
   obtain⟨R4,e4⟩:=P4.ops
   cases ho:C.ops with
   |nil=>
    rw [ho] at hdue q1
    have hdue:C.cycles+11≤D:=hdue
    have e2:c2=c1:=by rw [←hc2];exact Y3 _ _ _ q1
    have e3:c3=c2:=by rw [←hc3];exact Aao _ _ _ _ (by rw [e2];exact q1)
    have ho3:c3.ops=[]:=by rw [e3,e2];exact q1
    have hw3:=P3.good.inv.cfg.2
    obtain⟨n,hn⟩:=Uc (n:=c3.wide.toNat) (by omega)
    obtain⟨u,R,eu,hst⟩:=Tl n P3.good ho3
    rw [hn,eu]
    rcases hst with hst | hst
    ·exact Or.inr (Or.inr ⟨hst,by omega⟩)
    ·exact Or.inl ⟨hst,by omega⟩
   |cons u R=>
    rw [ho] at hdue q1
    have hdue:(u.state=2∧C.cycles≤D)∨(u.state=1∧C.cycles+1≤D∧u.ready+1≤D)∨(u.state=0∧C.cycles+10≤D):=hdue
    have hn2:=q2 u R ho
    have hst:=(h.good.inv.ops [] u R ho).st
    obtain⟨n1,hn1⟩:=Uc (n:=c1.ops.length) (by rw [q1];simp)
    obtain⟨u2,R2,e2,s2⟩:=Y2 C.cycles 0 n1 g1 q1
    rw [←hn1,hc2] at e2
    obtain⟨n3,hn3⟩:=Uc (n:=c2.ops.length) (by rw [e2];simp)
    obtain⟨u3,R3,e3,s3⟩:=Sc C.cycles n3 P2.good e2
    rw [←hn3,hc3] at e3
    rw [e4,e3]
    show(u3.state=2∧_)∨(u3.state=1∧_∧_)∨(u3.state=0∧_)
    rcases s2 with s2 | ⟨rfl,s2⟩
    ·rw [if_neg (by omega)] at s3
     subst s3
     exact Or.inl ⟨s2,by omega⟩
    ·rcases hst with hst | hst | hst
     ·rw [if_pos hst] at s3
      exact Or.inr (Or.inl ⟨s3.1,by omega,by omega⟩)
     ·rw [if_neg (by omega)] at s3
      subst s3
      refine Or.inr (Or.inl ⟨hst,?_,by omega⟩)
      have:¬ (u3.ready≤C.cycles):=fun hh=>s2 ⟨hst,hh⟩
      omega
     ·exact absurd hst hn2
  ·left
   refine⟨hk,P4.good,hs5,?_⟩
   rw [hcyc]
   exact Af1 P4.good.inv hs4
 ·rw [if_pos h0]
  have hk:0<k:=by
   rcases Nat.eq_zero_or_pos k with hk | hk
   ·exfalso
    have:=kr.run
    rw [hk] at this
    have:C.hart=c1.hart:=congrArg Prod.fst this
    rw [←this] at h0
    exact h0 h.good.inv.runs
   ·exact hk
  exact⟨k,⟨kr.run,kr.commits,kr.len,kw,kr.wide,hcyc1,by rw [kr.taken];exact Int.le_refl _,by rw [kr.backs];exact Int.le_refl _⟩,Or.inl ⟨hk,h0⟩⟩
theorem Aha:∀ k,k<16→Vh[k*2]? = some (.int .i64 0)∧Vh[k*2+1]? = some (.int .u32 0)
 |0,_ | 1,_ | 2,_ | 3,_ | 4,_ | 5,_ | 6,_ | 7,_ | 8,_ | 9,_ | 10,_ | 11,_ | 12,_ | 13,_ | 14,_ | 15,_=>⟨rfl,rfl⟩
 |n+16,h=>by omega
theorem Aim:∀ k,k<8→Vh[32+k*4]? = some (.int .u32 0)∧Vh[32+k*4+1]? = some (.int .u32 0)∧Vh[32+k*4+2]? = some (.int .u32 0)∧Vh[32+k*4+3]? = some (.int .i64 0)
 |0,_ | 1,_ | 2,_ | 3,_ | 4,_ | 5,_ | 6,_ | 7,_=>⟨rfl,rfl,rfl,rfl⟩
 |n+8,h=>by omega
theorem Ail:Fe Vh:=by
 refine⟨rfl,fun k hk=>⟨⟨0,0⟩,?_,?_⟩,fun k hk=>⟨⟨0,0,0,0⟩,?_,?_⟩⟩
 ·constructor<;>decide
 ·obtain⟨h1,h2⟩:=Aha k hk
  exact⟨h1,h2⟩
 ·constructor<;>decide
 ·obtain⟨h1,h2,h3,h4⟩:=Aim k hk
  exact⟨h1,h2,h3,h4⟩
theorem Ae2 (r:Nat) (hr:r<32):Il.getD r 0=(r:Int):=by
 unfold Il
 simp [List.getD,List.getElem?_range hr]
theorem Ab9 (r:Nat) (hr:r<32):(List.replicate 32 true++List.replicate 64 false).getD r false=true:=by
 simp only [List.getD]
 rw [List.getElem?_append_left (by rw [List.length_replicate];exact hr),List.getElem?_replicate,if_pos hr]
 rfl
theorem Ak1 (phys:Int) (h1:33≤phys) (h2:phys≤96):Dp ((Ve phys).getD A1.zero)∧((Ve phys).getD A1.zero).all.length=((Ve phys).getD A1.zero).phys.toNat∧((Ve phys).getD A1.zero).regs=Il:=by
 have e:(Ve phys).getD A1.zero=⟨phys,Il,Ig (phys - 32).toNat⟩:=by
  unfold Ve
  rw [if_pos ⟨h1,h2⟩]
  rfl
 rw [e]
 have hm:=Ah6 (phys - 32).toNat (by omega) (by omega)
 refine⟨⟨by simp [Il],?_,rfl⟩,?_,rfl⟩
 ·unfold A1.may A1.all
  rw [show((32+(phys - 32).toNat:Nat):Int)=phys by omega] at hm
  exact hm
 ·show(Il++Ig (phys - 32).toNat).length=phys.toNat
  rw [Abj]
  simp
  omega
structure Xu (window phys wide:Int) (h:Al) (m:List Int):Prop where
 window:1≤window∧window≤32
 phys:33≤phys∧phys≤96
 wide:1≤wide∧wide≤4
 hart:h.Wf
 may:Ir h=true
 bytes:Bytes m
 room:m.length≤4096
theorem Ob {window phys wide:Int} {h:Al} {m:List Int} (a:Xu window phys wide h m) (hs:h.state=0) (script:List Int):Lp (Kl window phys wide h m script) 11:=by
 obtain⟨n1,n2,n3⟩:=Ak1 phys a.phys.1 a.phys.2
 refine⟨⟨⟨⟨a.window,a.wide.1,a.wide.2⟩,a.hart,a.may,hs,a.bytes,a.room,Ail,⟨?_,fun x hx=>?_⟩,?_,rfl,List.Pairwise.nil,rfl,⟨_,n1,n2,rfl,fun r hr=>?_⟩,rfl,?_,Int.le_refl _,⟨a.hart.pc0,a.hart.pc1⟩,fun L v R e=>?_⟩,fun hh=>by cases hh⟩,fun u hu=>(by cases hu),by show(0:Int)+11≤11;omega⟩
 ·show(h.regs++List.replicate 64 0).length=96
  rw [List.length_append,a.hart.len]
  simp
 ·rcases List.mem_append.1 hx with hx | hx
  ·exact a.hart.word x hx
  ·rw [List.eq_of_mem_replicate hx];omega
 ·show(List.replicate 32 true++List.replicate 64 false).length=96
  simp
 ·rw [n3,Ae2 r hr]
  refine⟨Ab9 r hr,?_⟩
  show(h.regs++List.replicate 64 0).getD ((r:Int)).toNat 0=h.regs.getD r 0
  rw [Int.toNat_natCast]
  simp only [List.getD]
  rw [List.getElem?_append_left (by rw [a.hart.len];exact hr)]
 ·show(0:Int)≤window
  have:=a.window
  omega
 ·have e:[]=L++v::R:=e
  cases L<;>cases e
structure Aaj (C C':Core) (n:Nat) (k:Nat):Prop where
 run:(Dr k C.hart C.mem).2=(C'.hart,C'.mem)
 commits:C'.commits=C.commits++(Dr k C.hart C.mem).1
 len:(Dr k C.hart C.mem).1.length=k
 few:(k:Int)≤(C'.cycles - C.cycles)*C.wide
 wide:C'.wide=C.wide
 cycles:C.cycles≤C'.cycles∧C'.cycles≤C.cycles+n
 all:C'.cycles<C.cycles+n→C'.hart.state≠0
 taken:C.taken≤C'.taken
 backs:C.backs≤C'.backs
theorem Aaj.refl {n:Nat} (C:Core) (h:C.hart.state≠0∨n=0):Aaj C C n 0:=
 ⟨rfl,by simp [Dr],rfl,by simp,rfl,⟨Int.le_refl _,by omega⟩,fun hh=>by rcases h with h | h;exact h;omega,Int.le_refl _,Int.le_refl _⟩
theorem M7:∀ (n:Nat) (C:Core) (D:Int),Lp C D→D≤12*(C.commits.length:Int)+11→∃ k,Aaj C (Dh n C) n k∧(Dh n C).cycles≤12*((Dh n C).commits.length:Int)+11
 |0,C,D,h,hd=>⟨0,Aaj.refl C (Or.inr rfl),by have:=Acw h.due;show C.cycles≤12*(C.commits.length:Int)+11;omega⟩
 |n+1,C,D,h,hd=>by
  have hr:=h.good.inv.runs
  have e:Dh (n+1) C=Dh n (Ci C):=by
   show(if C.hart.state=0 then Dh n (Ci C) else C)=_
   rw [if_pos hr]
  rw [e]
  obtain⟨k,hk,hcase⟩:=Tg h
  have hT:=Acw h.due
  have hlen:((Ci C).commits.length:Int)=C.commits.length+k:=by rw [hk.commits,List.length_append,hk.len];omega
  have hw:1≤C.wide:=h.good.inv.cfg.2.1
  have step:∀ k2,Aaj (Ci C) (Dh n (Ci C)) n k2→Aaj C (Dh n (Ci C)) (n+1) (k+k2):=by
   intro k2 w
   have ea:=Z1 k k2 C.hart C.mem
   have h1:(Dr k C.hart C.mem).2.1=(Ci C).hart:=by rw [hk.run]
   have h2:(Dr k C.hart C.mem).2.2=(Ci C).mem:=by rw [hk.run]
   rw [h1,h2] at ea
   have hc:=hk.cycles
   have wc:=w.cycles
   refine⟨by rw [ea];exact w.run,by rw [ea,w.commits,hk.commits,List.append_assoc],by rw [ea,List.length_append,hk.len,w.len],?_,w.wide.trans hk.wide,⟨by omega,by omega⟩,fun hh=>w.all (by omega),Int.le_trans hk.taken w.taken,Int.le_trans hk.backs w.backs⟩
   have f1:=hk.few
   have f2:=w.few
   rw [hk.wide] at f2
   have:((Dh n (Ci C)).cycles - C.cycles)*C.wide=((Dh n (Ci C)).cycles - (Ci C).cycles)*C.wide+C.wide:=by
    rw [show(Dh n (Ci C)).cycles - C.cycles=((Dh n (Ci C)).cycles - (Ci C).cycles)+1 by omega,Int.add_mul,Int.one_mul]
   rw [this]
   omega
  rcases hcase with⟨hk0,hst⟩ | ⟨hk0,hb⟩ | ⟨hk0,hb⟩
  ·have e2:Dh n (Ci C)=Ci C:=by
    cases n with
    |zero=>rfl
    |succ n=>
     show(if (Ci C).hart.state=0 then Dh n (Ci (Ci C)) else Ci C)=_
     rw [if_neg hst]
   refine⟨k,?_,?_⟩
   ·have:=step 0 (by rw [e2];exact Aaj.refl _ (Or.inl hst))
    simpa using this
   ·rw [e2,hk.cycles,hlen]
    omega
  ·obtain⟨k2,w,q⟩:=M7 n (Ci C) _ hb (by rw [hlen];omega)
   exact⟨k+k2,step k2 w,q⟩
  ·obtain⟨k2,w,q⟩:=M7 n (Ci C) _ hb (by rw [hlen];omega)
   exact⟨k+k2,step k2 w,q⟩
structure Shown (C:Core) (wide:Int) (h:Al) (m:List Int) (n:Nat):Prop where
 run:Dr C.commits.length h m=(C.commits,C.hart,C.mem)
 few:(C.commits.length:Int)≤C.cycles*wide
 many:C.cycles / 60≤C.commits.length
 cycles:0≤C.cycles∧C.cycles≤n
 all:C.cycles<n→C.hart.state≠0
 taken:0≤C.taken
 backs:0≤C.backs
theorem Ae4 {window phys wide:Int} {h:Al} {m:List Int} (a:Xu window phys wide h m) (script:List Int) (n:Nat):Shown (Qj window phys wide h m script n) wide h m n:=by
 unfold Qj
 by_cases hs:h.state=0
 ·obtain⟨k,w,q⟩:=M7 n _ 11 (Ob a hs script) (by show(11:Int)≤12*((0:Nat):Int)+11;omega)
  have hc:(Dh n (Kl window phys wide h m script)).commits=(Dr k h m).1:=by
   have:=w.commits
   exact this
  have hl:(Dh n (Kl window phys wide h m script)).commits.length=k:=by rw [hc];exact w.len
  have h0:(Kl window phys wide h m script).cycles=0:=rfl
  have hcy:=w.cycles
  have hf:=w.few
  have hall:=w.all
  rw [h0] at hcy hf hall
  rw [hl] at q
  refine⟨?_,?_,?_,by omega,fun hh=>hall (by omega),w.taken,w.backs⟩
  ·rw [hl,hc]
   have:=w.run
   have this:(Dr k h m).2=_:=this
   rw [←this]
  ·rw [hl]
   have:((Dh n (Kl window phys wide h m script)).cycles - 0)*wide=(Dh n (Kl window phys wide h m script)).cycles*wide:=by rw [Int.sub_zero]
   rw [←this]
   exact hf
  ·rw [hl]
   omega
 ·have e:Dh n (Kl window phys wide h m script)=Kl window phys wide h m script:=by
   cases n with
   |zero=>rfl
   |succ n=>
    show(if h.state=0 then _ else Kl window phys wide h m script)=_
    rw [if_neg hs]
  rw [e]
  refine⟨rfl,?_,?_,⟨Int.le_refl _,by show(0:Int)≤n;omega⟩,fun _=>hs,Int.le_refl _,Int.le_refl _⟩
  ·show((0:Nat):Int)≤0*wide
   simp
  ·show(0:Int) / 60≤((0:Nat):Int)
   decide
end Go.Proofs.YtapgojgcmlnbgacGreat
namespace Go.Proofs.YtapgojgcmlnbgacGreat
open Go.RowKit
def Ie (k:Nat):List Int:=(List.range 32).map fun i=>if i<k then (i:Int) else 0
theorem Gz (k:Nat):(Ie k).length=32:=by simp [Ie]
theorem Agn {k:Nat} (h:k<32):(Ie k).set k (k:Int)=Ie (k+1):=by
 apply List.ext_getElem?
 intro i
 rw [List.getElem?_set]
 unfold Ie
 by_cases hi:i<32
 ·simp only [List.length_map,List.length_range,h,if_true,List.getElem?_map,List.getElem?_range hi,Option.map_some]
  by_cases hk:k=i
  ·subst hk
   simp
  ·rw [if_neg hk]
   congr 1
   by_cases h1:i<k
   ·rw [if_pos h1,if_pos (by omega)]
   ·rw [if_neg h1,if_neg (by omega)]
 ·rw [List.getElem?_eq_none (by simp;omega),List.getElem?_eq_none (by simp;omega),if_neg (by omega)]
theorem T6 {k:Nat} (h:32≤k):Ie k=Il:=by
 unfold Ie Il
 apply List.map_congr_left
 intro i hi
 have:=List.mem_range.1 hi
 rw [if_pos (by omega)]
 rfl
theorem Aes:Ie 0=List.replicate 32 0:=by decide
theorem Aa7 (j:Nat):Ig (j+1)=Ig j++[((32+j:Nat):Int)]:=by
 unfold Ig
 rw [List.range_succ,List.map_append]
 rfl
theorem grownBy_setCell (w:World) (p:Addr) (u:Value):w.grownBy (w.setCell p u) (some p.block):=
 ⟨rfl,rfl,rfl,by simp,fun k _ hne=>Below.heap_setCell w p u k (fun e=>hne (by rw [e]))⟩
def Ni (phys:Int):A1:=(Ve phys).getD A1.zero
theorem Aia (phys:Int) (w:World) (hp0 : -9223372036854775808≤phys) (hp1:phys≤9223372036854775807) :
  Calls Tryz.prog 12 #[.int .i64 phys] w fun e w'=>∃ v',e = .returned (.tuple #[v', .int .i64 (if 33≤phys∧phys≤96 then 0 else 3)])∧Below w.heap.size w w'∧Mu w' w.heap.size (Ni phys) v':=by
 by_cases hok:33≤phys∧phys≤96
 ·rw [if_pos hok]
  obtain⟨N,rfl⟩:=Int.eq_ofNat_of_zero_le (show 0≤phys by omega)
  have hnd:Ni (N:Int)=⟨N,Il,Ig (N - 32)⟩:=by
   unfold Ni Ve
   rw [if_pos hok]
   show A1.mk _ _ _=_
   congr 2
   omega
  rw [hnd]
  obtain⟨h1,h2⟩:=hok
  have h33:33≤N:=by omega
  have h96:N≤96:=by omega
  clear hnd hp0 hp1
  have built1:Tryz.prog.built 55 [(0, .int .i64 N)]=some (Ag N (List.replicate 32 0) none 0 0):=by kernel_rfl
  go_enter Tryz.func12,Tryz.ntmps12
  go_upto_region 3 with(fail)
  go_simp
  refine Au fun wa hq=>?_
  have hR:Blk wa w.heap.size 55 (Ag 0 (List.replicate 32 0) none 0 0):=by rw [hq];exact Blk.new w 55 _
  have hb:Below w.heap.size w wa:=by rw [hq];exact(Below.refl w.heap.size w).alloc (Nat.le_refl _) _
  have hz:wa.heap.size=w.heap.size+1:=by rw [hq];simp
  clear hq
  have hB0:=Blk.newAt wa 55 (Ag 0 (List.replicate 32 0) none 0 0) (g:=w.heap.size+1) hz.symm
  have hR0:=hR.alloc (.cells (Ag 0 (List.replicate 32 0) none 0 0) 55)
  have hb0:=hb.alloc hb.size (.cells (Ag 0 (List.replicate 32 0) none 0 0) 55)
  go_upto_region 5 with(first
   |(refine Ao rfl 55 _ rfl [(0, .int .i64 N)] rfl _ built1 ?_)
   |(refine Ab rfl 55 _ _ rfl (w.heap.size+1) (Ag N (List.replicate 32 0) none 0 0) (by simp [Act.eval,Act.put,hz]) rfl 55 _ hB0 (D7 rfl) rfl (E6 _ _ _ _ _) ?_;intro w5 hB5 hg5))
  have hR5:=hR0.grown hg5 (by simp)
  have hb5:=below_grown hb0 hg5 (by simp;omega) (Nat.le_succ _)
  have hz5:=hg5.size
  simp only [World.size_alloc] at hz5
  obtain⟨i0,hi,hz0,hz1,hz2⟩:=info_parts Nx
  have hs5:w.heap.size+2≤w5.heap.size:=by omega
  have hB6:Blk w5 (w.heap.size+1) 55 (Ag N (Ie 0) none (0 - 32) 0):=by rw [Aes];exact hB5
  clear hg5 hB0 hR0 hb0 hR hb hz hz5 hB5
  go_loopw [16] (fun v wr=>∃ (k:Nat) (A:Option Addr) (cap:Nat),v = .int .i64 k∧k≤N∧Below w.heap.size w wr∧Blk wr w.heap.size 55 (Ag 0 (List.replicate 32 0) none 0 0)∧Blk wr (w.heap.size+1) 55 (Ag N (Ie k) A (k - 32) cap)∧wr.ownsRow (w.heap.size+2) 3 1 (.slice A (k - 32) cap) (k - 32) ((Ig (k - 32)).map (.int .i64))∧w.heap.size+2≤wr.heap.size) (fun v _=>N+1 - (intOf v).toNat)
  case atStart=>exact⟨0,none,0,rfl,by omega,hb5,hR5,hB6,World.ownsRow_nil _ _ _ _,hs5⟩
  case round=>
   clear hb5 hR5 hB6 hs5
   obtain⟨k,A,cap,rfl,hk,hb,hR,hB,hown,hs⟩:=hrel
   have hlt0:(k:Int)≤N:=by omega
   by_cases hlt:k<N
   ·by_cases h32:k<32
    ·have ck:=hB.cell (1+k)
     rw [Ek _ _ _ _ _ (by rw [Gz];exact h32)] at ck
     have fk:=hB.frozen (1+k)
     have hB9:=hB.set (1+k) (.int .i64 k)
     have hc9:(Ag N (Ie k) A (k - 32) cap).setIfInBounds (1+k) (.int .i64 k)=Ag N (Ie (k+1)) A (k+1 - 32) cap:=by
      have h1:=Gm N (Ie k) A A (k - 32) cap (k - 32) cap k k (Gz k) h32
      rw [Agn h32] at h1
      have h2:((Ag N (Ie k) A (k - 32) cap).setIfInBounds (1+k) (.int .i64 k))[33]? = some (.slice A (k - 32) cap):=by rw [Array.getElem?_setIfInBounds_ne (by omega)];exact D4 _ _ _ _ _ (Gz k)
      have h3:((Ag N (Ie k) A (k - 32) cap).setIfInBounds (1+k) (.int .i64 k)).setIfInBounds 33 (.slice A (k - 32) cap)=(Ag N (Ie k) A (k - 32) cap).setIfInBounds (1+k) (.int .i64 k):=by
       apply Array.ext_getElem?
       intro i
       rw [Array.getElem?_setIfInBounds]
       split
       ·rename_i e;subst e;rw [h2,if_pos (by rw [Array.size_setIfInBounds,B5 _ _ _ _ _ (Gz k)];omega)]
       ·rfl
      rw [←h3,h1]
      congr 1
      omega
     rw [hc9] at hB9
     have hR9:=hR.far (p:=⟨w.heap.size+1,1+k,none⟩) (Nat.ne_of_lt (Nat.lt_succ_self _)) (.int .i64 k)
     have hb9:=hb.setCell (p:=⟨w.heap.size+1,1+k,none⟩) (Nat.le_succ _) (.int .i64 k)
     have hown9:=hown.kept (grownBy_setCell wr ⟨w.heap.size+1,1+k,none⟩ (.int .i64 k)) (by
      rcases hv:(Value.slice A (k - 32) cap).ownBlock with _ | b
      ·exact Or.inl rfl
      ·right;intro e;injection e with e;have:=(hown.lt b hv).1;simp at e;omega)
     have hs9:w.heap.size+2≤(wr.setCell ⟨w.heap.size+1,1+k,none⟩ (.int .i64 k)).heap.size:=by simpa using hs
     have e0:k - 32=k+1 - 32:=by omega
     rw [e0] at hown9
     have HH:=Lib.hid (And.intro hb9 (And.intro hR9 (And.intro hB9 (And.intro hown9 hs9))))
     clear hb9 hR9 hB9 hown9 hs9 hc9 hown hR hb e0
     go_wp2_with(fail)
     go_roundw
     case rel=>exact⟨k+1,A,cap,by go_num,by omega,HH.out.1,HH.out.2.1,HH.out.2.2.1,by have:=HH.out.2.2.2.1;exact this,HH.out.2.2.2.2⟩
     case measure=>simp [intOf];omega
    ·have c33:=hB.cell 33
     rw [D4 _ _ _ _ _ (Gz k)] at c33
     have f33:=hB.frozen 33
     have hgt:decide ((k:Int)<32)=false:=by simp;omega
     have hRl:=hR.lt
     clear hlt0
     go_wp2_with(refine E7 rfl (.tmp 26) (.tmp 28) 29 rfl (w.heap.size+2) 3 i0 _ 1 8 Tryz.underlying29 hi hz0 hz1 hz2 rfl (by decide) (.slice A (k - 32) cap) (k - 32) _ rfl (hown.alloc _) (some ⟨wr.heap.size,0,none⟩) 1 1 [.int .i64 k] rfl rfl (fun h=>by cases h) (Sl wr _ _) (by simp;rfl) (by unfold maxLen;omega) (by omega) (by simp;omega) ?_;intro v7 w7 hown7 hg7;have hB7:=(hB.alloc (.cells #[.int .i64 k] 3)).grown hg7 (fun h=>by have:=(hown.lt _ h.symm).1;omega);have hR7:=(hR.alloc (.cells #[.int .i64 k] 3)).grown hg7 (fun h=>by have:=(hown.lt _ h.symm).1;omega);have hb7:=(hb.alloc hb.size (.cells #[.int .i64 k] 3)).grown hg7 (by have:=hb.size;simp;omega) (fun j hj=>by have:=(hown.lt _ hj).1;omega);have hs7:=hg7.size;simp only [World.size_alloc] at hs7;have c7:=hB7.cell 33;rw [D4 _ _ _ _ _ (Gz k)] at c7;have f7:=hB7.frozen 33;rw [show(Ig (k - 32)).map (Value.int .i64)++[.int .i64 (k:Int)]=(Ig (k+1 - 32)).map (Value.int .i64) by rw [show k+1 - 32=(k - 32)+1 by omega,Aa7,List.map_append];congr 3;omega,show k - 32+1=k+1 - 32 by omega] at hown7;obtain⟨A7,cap7,rfl⟩:=Bb hown7;clear c33 f33 hg7)
     have hB9:=hB7.set 33 (.slice A7 (k+1 - 32) cap7)
     have hb9:=hb7.setCell (p:=⟨w.heap.size+1,33,none⟩) (Nat.le_succ _) (.slice A7 (k+1 - 32) cap7)
     have hR9:=hR7.far (p:=⟨w.heap.size+1,33,none⟩) (Nat.ne_of_lt (Nat.lt_succ_self _)) (.slice A7 (k+1 - 32) cap7)
     have hown9:=hown7.kept (grownBy_setCell w7 ⟨w.heap.size+1,33,none⟩ (.slice A7 (k+1 - 32) cap7)) (by
      rcases hv:(Value.slice A7 (k+1 - 32) cap7).ownBlock with _ | b
      ·exact Or.inl rfl
      ·right;intro e;injection e with e;have:=(hown7.lt b hv).1;simp at e;omega)
     have hs9:w.heap.size+2≤(w7.setCell ⟨w.heap.size+1,33,none⟩ (.slice A7 (k+1 - 32) cap7)).heap.size:=by simp;omega
     have hc9:(Ag N (Ie k) A (k - 32) cap).setIfInBounds 33 (.slice A7 (k+1 - 32) cap7)=Ag N (Ie (k+1)) A7 (k+1 - 32) cap7:=by
      have h1:=Gm N (Ie k) A A7 (k - 32) cap (k+1 - 32) cap7 0 ((Ie k).getD 0 0) (Gz k) (by omega)
      have e1:(Ie k).set 0 ((Ie k).getD 0 0)=Ie k:=by
       have hl0:0<(Ie k).length:=by rw [Gz];omega
       have:(Ie k).getD 0 0=(Ie k)[0]'hl0:=by simp [List.getD,List.getElem?_eq_getElem hl0]
       rw [this,List.set_getElem_self]
      have e2:(Ag N (Ie k) A (k - 32) cap).setIfInBounds (1+0) (.int .i64 ((Ie k).getD 0 0))=Ag N (Ie k) A (k - 32) cap:=by
       have hr0:=Ek N (Ie k) A (k - 32) cap (i:=0) (by rw [Gz];omega)
       apply Array.ext_getElem?
       intro i
       rw [Array.getElem?_setIfInBounds]
       split
       ·rename_i e;subst e;rw [hr0,if_pos (by rw [B5 _ _ _ _ _ (Gz k)];omega)]
       ·rfl
      rw [e1,e2] at h1
      rw [h1,T6 (by omega),T6 (by omega)]
     rw [hc9] at hB9
     go_roundw
     case rel=>exact⟨k+1,A7,cap7,by go_num,by omega,hb9,hR9,hB9,hown9,hs9⟩
     case measure=>simp [intOf];omega
   ·obtain rfl:k=N:=by omega
    rw [T6 (by omega)] at hB
    have hl0:Il.length=32:=by decide
    have hs9:=D7 (phys:=k) (A:=A) (n:=k - 32) (cap:=cap) hl0
    have h19:=E6 k Il A (k - 32) cap
    obtain⟨cs9,h9⟩:∃ cs9,cs9=Ag k Il A (k - 32) cap:=⟨_,rfl⟩
    have Hv9:=Lib.hid h9
    have hsz9:(Ag k Il A (k - 32) cap).size=(Ag 0 (List.replicate 32 0) none 0 0).size:=by rw [B5 _ _ _ _ _ hl0];rfl
    rw [←h9] at hsz9 hs9 h19 hB
    have hno:decide ((k:Int)<k)=false:=by simp
    clear h9
    go_wp2_with(first
     |(refine Ac rfl 55 _ rfl (w.heap.size+1) rfl 55 cs9 _ hB Tryz.underlying55 rfl hs9 ?_)
     |(refine Ab rfl 55 _ _ rfl w.heap.size cs9 rfl rfl 55 _ hR hs9 hsz9 h19 ?_;intro wx hBx hgx;have hld:=Fv hBx hs9))
    refine bodyPost_ret (Ed Tryz.results12 rfl rfl hld) rfl ?_
    have hl1:(Ig (k - 32)).length=k - 32:=by simp [Ig]
    obtain⟨A',cap',he,_,hn',hA',hc',hg'⟩:=Fw hown
    cases he
    refine⟨_,rfl,below_grown hb hgx hb.size (Nat.le_refl _),A,cap,by rw [Hv9.out];show _=Value.agg (Ag k Il A (Ig (k - 32)).length cap);rw [hl1],?_,fun ad h=>by have:=hg' ad h;omega⟩
    have hA10:=(hA'.grown (Nat.le_refl _) hgx (fun ad h=>by have:=hg' ad h;omega)).mono hgx.size
    refine⟨by show _≤(k:Int);omega,by show(k:Int)≤_;omega,hl0,by show(Ig (k - 32)).length≤_;omega,by show(Ig (k - 32)).length≤_;omega,hA10,hn',fun x hx=>?_⟩
    have hx':x∈Il++Ig (k - 32):=hx
    rw [Abj] at hx'
    obtain⟨j,hj,rfl⟩:=List.mem_map.1 hx'
    have:=List.mem_range.1 hj
    show _≤(j:Int)∧(j:Int)≤_
    omega
 ·rw [if_neg hok]
  have hnd:Ni phys=A1.zero:=by unfold Ni Ve;rw [if_neg hok];rfl
  have hok':phys<33∨(33≤phys∧96<phys):=by omega
  rw [hnd]
  clear hok hnd
  rcases hok' with h1 | ⟨h1,h2⟩
  ·
   go_enter Tryz.func12,Tryz.ntmps12
   go_upto_region 1 with(fail)
   go_simp
   refine Au fun wa hq=>?_
   have hb2:Below w.heap.size w wa:=by rw [hq];exact(Below.refl w.heap.size w).alloc (Nat.le_refl _) _
   have hR:Blk wa w.heap.size 55 (Ag 0 (List.replicate 32 0) none 0 0):=by rw [hq];exact Blk.new w 55 _
   clear hq
   go_wp2_with(first
    |(refine Ao rfl 55 _ rfl [] rfl _ G8 ?_)
    |(refine Ab rfl 55 _ _ rfl w.heap.size (Ag 0 (List.replicate 32 0) none 0 0) rfl rfl 55 _ hR Ec rfl (E6 _ _ _ _ _) ?_;intro w5 hB5 hg5;have hld:=Fv hB5 Ec))
   refine bodyPost_ret (Ed Tryz.results12 rfl rfl hld) rfl ?_
   exact⟨_,rfl,below_grown hb2 hg5 hb2.size (Nat.le_refl _),Mu.zero _ _⟩
  ·
   go_enter Tryz.func12,Tryz.ntmps12
   go_upto_region 1 with(fail)
   go_simp
   refine Au fun wa hq=>?_
   have hb2:Below w.heap.size w wa:=by rw [hq];exact(Below.refl w.heap.size w).alloc (Nat.le_refl _) _
   have hR:Blk wa w.heap.size 55 (Ag 0 (List.replicate 32 0) none 0 0):=by rw [hq];exact Blk.new w 55 _
   clear hq
   go_wp2_with(first
    |(refine Ao rfl 55 _ rfl [] rfl _ G8 ?_)
    |(refine Ab rfl 55 _ _ rfl w.heap.size (Ag 0 (List.replicate 32 0) none 0 0) rfl rfl 55 _ hR Ec rfl (E6 _ _ _ _ _) ?_;intro w5 hB5 hg5;have hld:=Fv hB5 Ec))
   refine bodyPost_ret (Ed Tryz.results12 rfl rfl hld) rfl ?_
   exact⟨_,rfl,below_grown hb2 hg5 hb2.size (Nat.le_refl _),Mu.zero _ _⟩
theorem V8 {w w':World} {B:Nat} {k:IntKind} {A:Option Addr} {l:List Int} {row:Option Nat} (h:Aq w B k A l) (hB:B≤w.heap.size) (hg:w.grownBy w' row) (hne:l≠[]→∀ ad,A=some ad→some ad.block≠row):Aq w' B k A l:=fun hl=>by
 obtain⟨b,o,hA,hb,hc⟩:=h hl
 have hbg:=hne hl _ hA
 refine⟨b,o,hA,hb,fun i v hi=>?_⟩
 rw [World.cell?_of_block (hg.block b (Nat.lt_of_lt_of_le hb hB) hbg)]
 exact hc i v hi
theorem Kh.step {w w':World} {m:A1} {A:Option Addr} {cap:Nat} {row:Option Nat} (h:Kh w m A cap) (hg:w.grownBy w' row) (hne:m.free≠[]→∀ ad,A=some ad→some ad.block≠row):Kh w' m A cap:=
 ⟨h.p0,h.p1,h.len,h.few,h.room,(V8 h.free (Nat.le_refl _) hg hne).mono hg.size,h.nil,h.wf⟩
theorem Kh.free_lt {w:World} {m:A1} {A:Option Addr} {cap:Nat} (h:Kh w m A cap) (hf:m.free≠[]):∀ ad,A=some ad→ad.block<w.heap.size:=by
 intro ad e
 obtain⟨b,o,e',hb,_⟩:=h.free hf
 rw [e] at e'
 cases e'
 exact hb
structure Cv (B:Nat) (w:World) (g:Nat) (L:Lay) (ps:List Nat) (cms:List Com) (mm:List Int) (sl:List Slt) (al:List Acc) (us:List Uop) (nm:A1) (sc:List Int):Prop where
 base:B≤g
 commits:w.ownsRow B 67 11 L.commits cms.length (Eo cms)
 mem:w.ownsRow B 5 1 L.mem mm.length (mm.map (.int .u8))
 slots:w.ownsRow B 132 2 L.slots sl.length (A8 sl)
 access:w.ownsRow B 101 7 L.access al.length (Dq al)
 ptrs:Cb w B L.ops ps
 uops:Df w B us ps
 names:Kh w nm L.freeA L.freeCap
 free:nm.free≠[]→∀ ad,L.freeA=some ad→ad.block≠g∧L.commits.ownBlock≠some ad.block∧L.mem.ownBlock≠some ad.block∧L.access.ownBlock≠some ad.block∧L.ops.ownBlock≠some ad.block∧ad.block ∉ ps
 script:∃ A cap,L.script = .slice A sc.length cap∧sc.length≤cap∧cap≤9223372036854775807∧Aq w B .i64 A sc∧(A=none→sc=[]∧cap=0)
section
variable {B:Nat} {w w':World} {g:Nat} {L:Lay} {ps:List Nat} {cms:List Com} {mm:List Int} {sl:List Slt} {al:List Acc} {us:List Uop} {nm:A1} {sc:List Int}
theorem Cv.scr_step (h:Cv B w g L ps cms mm sl al us nm sc) (hB:B≤w.heap.size) {row:Option Nat} (hg:w.grownBy w' row) (hr:∀ k,row=some k→B≤k) :
  ∃ A cap,L.script = .slice A sc.length cap∧sc.length≤cap∧cap≤9223372036854775807∧Aq w' B .i64 A sc∧(A=none→sc=[]∧cap=0):=by
 obtain⟨A,cap,h1,h2,h2',h3,h4⟩:=h.script
 refine⟨A,cap,h1,h2,h2',V8 h3 hB hg (fun hne ad e hh=>?_),h4⟩
 obtain⟨b,o,e',hb,_⟩:=h3 hne
 rw [e] at e'
 cases e'
 have:=hr _ hh.symm
 have hbb:b<B:=hb
 simp only at this
 omega
theorem Cv.step (h:Cv B w g L ps cms mm sl al us nm sc) (hB:B≤w.heap.size) {row:Option Nat} (hg:w.grownBy w' row) (hr:∀ k,row=some k→B≤k)
  (c1:L.commits.ownBlock=none∨L.commits.ownBlock≠row) (c2:L.mem.ownBlock=none∨L.mem.ownBlock≠row) (c3:L.slots.ownBlock=none∨L.slots.ownBlock≠row) (c4:L.access.ownBlock=none∨L.access.ownBlock≠row)
  (c5:L.ops.ownBlock=none∨L.ops.ownBlock≠row) (c6:∀ p∈ps,some p≠row) (c7:nm.free≠[]→∀ ad,L.freeA=some ad→some ad.block≠row):Cv B w' g L ps cms mm sl al us nm sc:=
 ⟨h.base,h.commits.kept hg c1,h.mem.kept hg c2,h.slots.kept hg c3,h.access.kept hg c4,h.ptrs.kept hg c5,h.uops.kept hg c6,h.names.step hg c7,h.free,h.scr_step hB hg hr⟩
theorem Cv.ext (h:Cv B w g L ps cms mm sl al us nm sc) (hB:B≤w.heap.size) (hb:Below w.heap.size w w'):Cv B w' g L ps cms mm sl al us nm sc:=by
 refine h.step hB (Cp hb) (fun k hk=>by cases hk) ?_ ?_ ?_ ?_ ?_ (fun p _=>by simp) (fun _ _ _=>by simp)
 all_goals exact Classical.em _
theorem Cv.core (h:Cv B w g L ps cms mm sl al us nm sc) (hB:B≤w.heap.size) {cs:Array Value} (hk:Blk w g 62 cs) (hg:w.grownBy w' (some g)):Cv B w' g L ps cms mm sl al us nm sc:=
 h.step hB hg (fun k hk=>by cases hk;exact h.base) (Bw h.commits hk (by decide)) (Bw h.mem hk (by decide)) (Bw h.slots hk (by decide)) (Bw h.access hk (by decide)) (h.ptrs.other hk (by decide))
  (fun p hp e=>by
   injection e with e
   obtain⟨u,hu,_⟩:=h.uops.mem hp
   exact Bo hu hk (by decide) e)
  (fun hf ad e hh=>(h.free hf ad e).1 (by injection hh))
theorem Cv.uop (h:Cv B w g L ps cms mm sl al us nm sc) (hB:B≤w.heap.size) {i p:Nat} (hp:ps[i]? = some p) (hg:w.grownBy w' (some p)) {u':Uop} (hB':Blk w' p 75 u'.cells) :
  Cv B w' g L ps cms mm sl al (us.set i u') nm sc:=by
 have hpm:=List.mem_of_getElem? hp
 obtain⟨u,hk,hbp⟩:=h.uops.mem hpm
 exact⟨h.base,h.commits.kept hg (Bw h.commits hk (by decide)),h.mem.kept hg (Bw h.mem hk (by decide)),h.slots.kept hg (Bw h.slots hk (by decide)),h.access.kept hg (Bw h.access hk (by decide)),
  h.ptrs.kept hg (h.ptrs.other hk (by decide)),h.uops.set hp hg hB',h.names.step hg (fun hf ad e hh=>(h.free hf ad e).2.2.2.2.2 (by injection hh with hh;rw [hh];exact hpm)),h.free,h.scr_step hB hg (fun k hk=>by cases hk;exact hbp)⟩
theorem Ub {base:Nat} {e:TypeId} {size:Nat} {v:Value} {n:Nat} {xs:List Value} (h:w.ownsRow base e size v n xs):∀ k,v.ownBlock=some k→base≤k:=fun k hk=>(h.lt k hk).1
theorem Cv.memory (h:Cv B w g L ps cms mm sl al us nm sc) (hB:B≤w.heap.size) (hg:w.grownBy w' L.mem.ownBlock) {m':List Int} (hown:w'.ownsRow B 5 1 L.mem m'.length (m'.map (.int .u8))) :
  Cv B w' g L ps cms m' sl al us nm sc:=
 ⟨h.base,h.commits.kept hg (E4 h.commits h.mem (by decide)),hown,h.slots.kept hg (E4 h.slots h.mem (by decide)),h.access.kept hg (E4 h.access h.mem (by decide)),h.ptrs.kept hg (h.ptrs.apart h.mem (by decide)),
  h.uops.kept hg (fun p hp=>by obtain⟨u,hu,_⟩:=h.uops.mem hp;exact Fb hu h.mem (by decide)),h.names.step hg (fun hf ad e hh=>(h.free hf ad e).2.2.1 hh.symm),h.free,h.scr_step hB hg (Ub h.mem)⟩
theorem Cv.acc (h:Cv B w g L ps cms mm sl al us nm sc) (hB:B≤w.heap.size) (hg:w.grownBy w' L.access.ownBlock) {v':Value} {acc':List Acc} (hown:w'.ownsRow B 101 7 v' acc'.length (Dq acc'))
  (hv:v'.ownBlock=L.access.ownBlock∨∀ k,v'.ownBlock=some k→w.heap.size≤k):Cv B w' g { L with access:=v' } ps cms mm sl acc' us nm sc:=
 ⟨h.base,h.commits.kept hg (E4 h.commits h.access (by decide)),h.mem.kept hg (E4 h.mem h.access (by decide)),h.slots.kept hg (E4 h.slots h.access (by decide)),hown,h.ptrs.kept hg (h.ptrs.apart h.access (by decide)),
  h.uops.kept hg (fun p hp=>by obtain⟨u,hu,_⟩:=h.uops.mem hp;exact Fb hu h.access (by decide)),h.names.step hg (fun hf ad e hh=>(h.free hf ad e).2.2.2.1 hh.symm),
  fun hf ad e=>by
   obtain⟨f1,f2,f3,f4,f5,f6⟩:=h.free hf ad e
   refine⟨f1,f2,f3,fun hh=>?_,f5,f6⟩
   rcases hv with hv | hv
   ·exact f4 (by rw [←hv];exact hh)
   ·have:=hv _ hh
    have:=h.names.free_lt hf ad e
    omega,
  h.scr_step hB hg (Ub h.access)⟩
theorem Cv.coms (h:Cv B w g L ps cms mm sl al us nm sc) (hB:B≤w.heap.size) (hg:w.grownBy w' L.commits.ownBlock) {v':Value} {coms':List Com} (hown:w'.ownsRow B 67 11 v' coms'.length (Eo coms'))
  (hv:v'.ownBlock=L.commits.ownBlock∨∀ k,v'.ownBlock=some k→w.heap.size≤k):Cv B w' g { L with commits:=v' } ps coms' mm sl al us nm sc:=
 ⟨h.base,hown,h.mem.kept hg (E4 h.mem h.commits (by decide)),h.slots.kept hg (E4 h.slots h.commits (by decide)),h.access.kept hg (E4 h.access h.commits (by decide)),h.ptrs.kept hg (h.ptrs.apart h.commits (by decide)),
  h.uops.kept hg (fun p hp=>by obtain⟨u,hu,_⟩:=h.uops.mem hp;exact Fb hu h.commits (by decide)),h.names.step hg (fun hf ad e hh=>(h.free hf ad e).2.1 hh.symm),
  fun hf ad e=>by
   obtain⟨f1,f2,f3,f4,f5,f6⟩:=h.free hf ad e
   refine⟨f1,fun hh=>?_,f3,f4,f5,f6⟩
   rcases hv with hv | hv
   ·exact f2 (by rw [←hv];exact hh)
   ·have:=hv _ hh
    have:=h.names.free_lt hf ad e
    omega,
  h.scr_step hB hg (Ub h.commits)⟩
theorem Kq {v:Value} {ps:List Nat} (h:Cb w B v ps) {k:Nat} (hk:v.ownBlock=some k):∃ cur,Blk w k 71 cur:=by
 rcases h with⟨rfl,_⟩ | ⟨go,oo,cap,cur,rfl,_,hB,_⟩
 ·cases hk
 ·cases hk
  exact⟨cur,hB⟩
theorem Kp {base:Nat} {e:TypeId} {size:Nat} {v v2:Value} {n:Nat} {xs:List Value} {ps:List Nat} (h:w.ownsRow base e size v n xs) (h2:Cb w B v2 ps) (he:e≠71):v.ownBlock=none∨v.ownBlock≠v2.ownBlock:=by
 rcases hv:v2.ownBlock with _ | k
 ·rcases v.ownBlock with _ | _<;>simp
 ·obtain⟨cur,hk⟩:=Kq h2 hv
  exact Bw h hk he
theorem Cv.ptr (h:Cv B w g L ps cms mm sl al us nm sc) (hB:B≤w.heap.size) (hg:w.grownBy w' L.ops.ownBlock) {v':Value} {ps':List Nat} {ops':List Uop} (hrow:Cb w' B v' ps') (hu:Df w' B ops' ps')
  (hv:v'.ownBlock=L.ops.ownBlock∨∀ k,v'.ownBlock=some k→w.heap.size≤k) (hp:∀ p∈ps',p∈ps∨(nm.free≠[]→∀ ad,L.freeA=some ad→ad.block≠p)):Cv B w' g { L with ops:=v' } ps' cms mm sl al ops' nm sc:=
 ⟨h.base,h.commits.kept hg (Kp h.commits h.ptrs (by decide)),h.mem.kept hg (Kp h.mem h.ptrs (by decide)),h.slots.kept hg (Kp h.slots h.ptrs (by decide)),h.access.kept hg (Kp h.access h.ptrs (by decide)),hrow,hu,
  h.names.step hg (fun hf ad e hh=>(h.free hf ad e).2.2.2.2.1 hh.symm),
  fun hf ad e=>by
   obtain⟨f1,f2,f3,f4,f5,f6⟩:=h.free hf ad e
   refine⟨f1,f2,f3,f4,fun hh=>?_,fun hm=>?_⟩
   ·rcases hv with hv | hv
    ·exact f5 (by rw [←hv];exact hh)
    ·have:=hv _ hh
     have:=h.names.free_lt hf ad e
     omega
   ·rcases hp _ hm with hm | hm
    ·exact f6 hm
    ·exact hm hf ad e rfl,
  h.scr_step hB hg (fun k hk=>(h.ptrs.lt k hk).1)⟩
theorem Cv.slot (h:Cv B w g L ps cms mm sl al us nm sc) {v':Value} {slots':List Slt} (hown:w.ownsRow B 132 2 v' slots'.length (A8 slots')):Cv B w g { L with slots:=v' } ps cms mm slots' al us nm sc:=
 ⟨h.base,h.commits,h.mem,hown,h.access,h.ptrs,h.uops,h.names,h.free,h.script⟩
theorem Cv.name (h:Cv B w g L ps cms mm sl al us nm sc) (hgl:g<w.heap.size) {m':A1} {A':Option Addr} {c':Nat} (hm:Kh w' m' A' c') (hf:∀ ad,A'=some ad→w.heap.size≤ad.block) (hB:B≤w.heap.size) (hb:Below w.heap.size w w') :
  Cv B w' g { L with freeA:=A',freeCap:=c' } ps cms mm sl al us m' sc:=by
 have h2:=h.ext hB hb
 refine⟨h2.base,h2.commits,h2.mem,h2.slots,h2.access,h2.ptrs,h2.uops,hm,fun _ ad e=>?_,h2.script⟩
 have hl:=hf ad e
 refine⟨by omega,fun hh=>?_,fun hh=>?_,fun hh=>?_,fun hh=>?_,fun hh=>?_⟩
 ·have:=(h.commits.lt _ hh).2;omega
 ·have:=(h.mem.lt _ hh).2;omega
 ·have:=(h.access.lt _ hh).2;omega
 ·have:=(h.ptrs.lt _ hh).2;omega
 ·have:=h.uops.lt hh;omega
theorem Cv.scr (h:Cv B w g L ps cms mm sl al us nm sc) {v':Value} {script':List Int} (hs:∃ A cap,v' = .slice A script'.length cap∧script'.length≤cap∧cap≤9223372036854775807∧Aq w B .i64 A script'∧(A=none→script'=[]∧cap=0)) :
  Cv B w g { L with script:=v' } ps cms mm sl al us nm script':=
 ⟨h.base,h.commits,h.mem,h.slots,h.access,h.ptrs,h.uops,h.names,h.free,hs⟩
end
structure Af (B:Nat) (w:World) (g:Nat) (C:Core) (L:Lay) (ps:List Nat) (cs:Array Value):Prop where
 low:B≤w.heap.size
 blk:Blk w g 62 cs
 cells:Ak cs C L
 rows:Cv B w g L ps C.commits C.mem C.slots C.access C.ops C.names C.script
theorem Af.ext {B:Nat} {w w':World} {g:Nat} {C:Core} {L:Lay} {ps:List Nat} {cs:Array Value} (h:Af B w g C L ps cs) (hb:Below w.heap.size w w'):Af B w' g C L ps cs:=
 ⟨Nat.le_trans h.low hb.size,h.blk.ext hb,h.cells,h.rows.ext h.low hb⟩
theorem Af.set {B:Nat} {w:World} {g:Nat} {C C':Core} {L L':Lay} {ps:List Nat} {cs:Array Value} (h:Af B w g C L ps cs) (k:Nat) (v:Value) (hc:Ak (cs.setIfInBounds k v) C' L')
  (hr:Cv B w g L' ps C'.commits C'.mem C'.slots C'.access C'.ops C'.names C'.script):Af B (w.setCell ⟨g,k,none⟩ v) g C' L' ps (cs.setIfInBounds k v):=
 ⟨by simpa using h.low,h.blk.set k v,hc,hr.core h.low h.blk (grownBy_setCell w ⟨g,k,none⟩ v)⟩
end Go.Proofs.YtapgojgcmlnbgacGreat
namespace Go.Proofs.YtapgojgcmlnbgacGreat
open Go Go.RowKit
def Ku (a b c:Int) (sv:Value) (pc:Int):Array Value:=
 ([Value.int .i64 a,Value.int .i64 b,Value.int .i64 c,Value.slice none 0 0]++List.replicate 32 (Value.int .u32 0)++[Value.int .u32 0,Value.int .i64 0,Value.int .i64 0]++[Value.slice none 0 0,Value.int .i64 0,Value.int .i64 0,Value.int .i64 0,sv] ++
  ((List.replicate 16 [Value.int .i64 0,Value.int .u32 0]).flatten++(List.replicate 8 [Value.int .u32 0,Value.int .u32 0,Value.int .u32 0,Value.int .i64 0]).flatten)++[Value.int .i64 0]++List.replicate 32 (Value.int .i64 0)++[Value.slice none 0 0] ++
  List.replicate 96 (Value.int .u32 0)++List.replicate 96 (Value.bool false)++[Value.slice none 0 0,Value.slice none 0 0,Value.slice none 0 0,Value.int .i64 0,Value.int .u32 pc,Value.bool false]).toArray
def Oc (a b c:Int) (sc:List Int) (pc:Int):Core:=⟨a,b,c,[],⟨List.replicate 32 0,0,0,0⟩,[],0,0,0,sc,Vh,A1.zero,List.replicate 96 0,List.replicate 96 false,[],[],[],0,pc,false⟩
def Ah0 (sv:Value):Lay:=⟨.slice none 0 0, .slice none 0 0,sv, .slice none 0 0, .slice none 0 0, .slice none 0 0,none,0⟩
theorem Yc (a b c:Int) (A:Option Addr) (n cap:Nat) (pc:Int):Tryz.prog.built 62 [(0, .agg #[.int .i64 a, .int .i64 b, .int .i64 c]),(2, .slice A n cap),(11, .int .u32 pc)]=some (Ku a b c (.slice A n cap) pc):=by kernel_rfl
theorem Yk (a b c:Int) (sv:Value) (pc:Int):∀ i,i<35→(Ku a b c sv pc)[4+i]? = (Al.cells ⟨List.replicate 32 0,0,0,0⟩)[i]?
 |0,_=>by kernel_rfl
 |1,_=>by kernel_rfl
 |2,_=>by kernel_rfl
 |3,_=>by kernel_rfl
 |4,_=>by kernel_rfl
 |5,_=>by kernel_rfl
 |6,_=>by kernel_rfl
 |7,_=>by kernel_rfl
 |8,_=>by kernel_rfl
 |9,_=>by kernel_rfl
 |10,_=>by kernel_rfl
 |11,_=>by kernel_rfl
 |12,_=>by kernel_rfl
 |13,_=>by kernel_rfl
 |14,_=>by kernel_rfl
 |15,_=>by kernel_rfl
 |16,_=>by kernel_rfl
 |17,_=>by kernel_rfl
 |18,_=>by kernel_rfl
 |19,_=>by kernel_rfl
 |20,_=>by kernel_rfl
 |21,_=>by kernel_rfl
 |22,_=>by kernel_rfl
 |23,_=>by kernel_rfl
 |24,_=>by kernel_rfl
 |25,_=>by kernel_rfl
 |26,_=>by kernel_rfl
 |27,_=>by kernel_rfl
 |28,_=>by kernel_rfl
 |29,_=>by kernel_rfl
 |30,_=>by kernel_rfl
 |31,_=>by kernel_rfl
 |32,_=>by kernel_rfl
 |33,_=>by kernel_rfl
 |34,_=>by kernel_rfl
 |i+35,h=>by omega
theorem Aaw (a b c:Int) (sv:Value) (pc:Int):∀ i,i<64→(Ku a b c sv pc)[44+i]? = Vh[i]?
 |0,_=>by kernel_rfl
 |1,_=>by kernel_rfl
 |2,_=>by kernel_rfl
 |3,_=>by kernel_rfl
 |4,_=>by kernel_rfl
 |5,_=>by kernel_rfl
 |6,_=>by kernel_rfl
 |7,_=>by kernel_rfl
 |8,_=>by kernel_rfl
 |9,_=>by kernel_rfl
 |10,_=>by kernel_rfl
 |11,_=>by kernel_rfl
 |12,_=>by kernel_rfl
 |13,_=>by kernel_rfl
 |14,_=>by kernel_rfl
 |15,_=>by kernel_rfl
 |16,_=>by kernel_rfl
 |17,_=>by kernel_rfl
 |18,_=>by kernel_rfl
 |19,_=>by kernel_rfl
 |20,_=>by kernel_rfl
 |21,_=>by kernel_rfl
 |22,_=>by kernel_rfl
 |23,_=>by kernel_rfl
 |24,_=>by kernel_rfl
 |25,_=>by kernel_rfl
 |26,_=>by kernel_rfl
 |27,_=>by kernel_rfl
 |28,_=>by kernel_rfl
 |29,_=>by kernel_rfl
 |30,_=>by kernel_rfl
 |31,_=>by kernel_rfl
 |32,_=>by kernel_rfl
 |33,_=>by kernel_rfl
 |34,_=>by kernel_rfl
 |35,_=>by kernel_rfl
 |36,_=>by kernel_rfl
 |37,_=>by kernel_rfl
 |38,_=>by kernel_rfl
 |39,_=>by kernel_rfl
 |40,_=>by kernel_rfl
 |41,_=>by kernel_rfl
 |42,_=>by kernel_rfl
 |43,_=>by kernel_rfl
 |44,_=>by kernel_rfl
 |45,_=>by kernel_rfl
 |46,_=>by kernel_rfl
 |47,_=>by kernel_rfl
 |48,_=>by kernel_rfl
 |49,_=>by kernel_rfl
 |50,_=>by kernel_rfl
 |51,_=>by kernel_rfl
 |52,_=>by kernel_rfl
 |53,_=>by kernel_rfl
 |54,_=>by kernel_rfl
 |55,_=>by kernel_rfl
 |56,_=>by kernel_rfl
 |57,_=>by kernel_rfl
 |58,_=>by kernel_rfl
 |59,_=>by kernel_rfl
 |60,_=>by kernel_rfl
 |61,_=>by kernel_rfl
 |62,_=>by kernel_rfl
 |63,_=>by kernel_rfl
 |i+64,h=>by omega
theorem Wx (a b c:Int) (sv:Value) (pc:Int):∀ i,i<34→(Ku a b c sv pc)[108+i]? = (Ag A1.zero.phys A1.zero.regs none A1.zero.free.length 0)[i]?
 |0,_=>by kernel_rfl
 |1,_=>by kernel_rfl
 |2,_=>by kernel_rfl
 |3,_=>by kernel_rfl
 |4,_=>by kernel_rfl
 |5,_=>by kernel_rfl
 |6,_=>by kernel_rfl
 |7,_=>by kernel_rfl
 |8,_=>by kernel_rfl
 |9,_=>by kernel_rfl
 |10,_=>by kernel_rfl
 |11,_=>by kernel_rfl
 |12,_=>by kernel_rfl
 |13,_=>by kernel_rfl
 |14,_=>by kernel_rfl
 |15,_=>by kernel_rfl
 |16,_=>by kernel_rfl
 |17,_=>by kernel_rfl
 |18,_=>by kernel_rfl
 |19,_=>by kernel_rfl
 |20,_=>by kernel_rfl
 |21,_=>by kernel_rfl
 |22,_=>by kernel_rfl
 |23,_=>by kernel_rfl
 |24,_=>by kernel_rfl
 |25,_=>by kernel_rfl
 |26,_=>by kernel_rfl
 |27,_=>by kernel_rfl
 |28,_=>by kernel_rfl
 |29,_=>by kernel_rfl
 |30,_=>by kernel_rfl
 |31,_=>by kernel_rfl
 |32,_=>by kernel_rfl
 |33,_=>by kernel_rfl
 |i+34,h=>by omega
theorem Wz (a b c:Int) (sv:Value) (pc:Int):∀ i,i<96→(Ku a b c sv pc)[142+i]? = some (.int .u32 ((List.replicate 96 (0:Int)).getD i 0))
 |0,_=>by kernel_rfl
 |1,_=>by kernel_rfl
 |2,_=>by kernel_rfl
 |3,_=>by kernel_rfl
 |4,_=>by kernel_rfl
 |5,_=>by kernel_rfl
 |6,_=>by kernel_rfl
 |7,_=>by kernel_rfl
 |8,_=>by kernel_rfl
 |9,_=>by kernel_rfl
 |10,_=>by kernel_rfl
 |11,_=>by kernel_rfl
 |12,_=>by kernel_rfl
 |13,_=>by kernel_rfl
 |14,_=>by kernel_rfl
 |15,_=>by kernel_rfl
 |16,_=>by kernel_rfl
 |17,_=>by kernel_rfl
 |18,_=>by kernel_rfl
 |19,_=>by kernel_rfl
 |20,_=>by kernel_rfl
 |21,_=>by kernel_rfl
 |22,_=>by kernel_rfl
 |23,_=>by kernel_rfl
 |24,_=>by kernel_rfl
 |25,_=>by kernel_rfl
 |26,_=>by kernel_rfl
 |27,_=>by kernel_rfl
 |28,_=>by kernel_rfl
 |29,_=>by kernel_rfl
 |30,_=>by kernel_rfl
 |31,_=>by kernel_rfl
 |32,_=>by kernel_rfl
 |33,_=>by kernel_rfl
 |34,_=>by kernel_rfl
 |35,_=>by kernel_rfl
 |36,_=>by kernel_rfl
 |37,_=>by kernel_rfl
 |38,_=>by kernel_rfl
 |39,_=>by kernel_rfl
 |40,_=>by kernel_rfl
 |41,_=>by kernel_rfl
 |42,_=>by kernel_rfl
 |43,_=>by kernel_rfl
 |44,_=>by kernel_rfl
 |45,_=>by kernel_rfl
 |46,_=>by kernel_rfl
 |47,_=>by kernel_rfl
 |48,_=>by kernel_rfl
 |49,_=>by kernel_rfl
 |50,_=>by kernel_rfl
 |51,_=>by kernel_rfl
 |52,_=>by kernel_rfl
 |53,_=>by kernel_rfl
 |54,_=>by kernel_rfl
 |55,_=>by kernel_rfl
 |56,_=>by kernel_rfl
 |57,_=>by kernel_rfl
 |58,_=>by kernel_rfl
 |59,_=>by kernel_rfl
 |60,_=>by kernel_rfl
 |61,_=>by kernel_rfl
 |62,_=>by kernel_rfl
 |63,_=>by kernel_rfl
 |64,_=>by kernel_rfl
 |65,_=>by kernel_rfl
 |66,_=>by kernel_rfl
 |67,_=>by kernel_rfl
 |68,_=>by kernel_rfl
 |69,_=>by kernel_rfl
 |70,_=>by kernel_rfl
 |71,_=>by kernel_rfl
 |72,_=>by kernel_rfl
 |73,_=>by kernel_rfl
 |74,_=>by kernel_rfl
 |75,_=>by kernel_rfl
 |76,_=>by kernel_rfl
 |77,_=>by kernel_rfl
 |78,_=>by kernel_rfl
 |79,_=>by kernel_rfl
 |80,_=>by kernel_rfl
 |81,_=>by kernel_rfl
 |82,_=>by kernel_rfl
 |83,_=>by kernel_rfl
 |84,_=>by kernel_rfl
 |85,_=>by kernel_rfl
 |86,_=>by kernel_rfl
 |87,_=>by kernel_rfl
 |88,_=>by kernel_rfl
 |89,_=>by kernel_rfl
 |90,_=>by kernel_rfl
 |91,_=>by kernel_rfl
 |92,_=>by kernel_rfl
 |93,_=>by kernel_rfl
 |94,_=>by kernel_rfl
 |95,_=>by kernel_rfl
 |i+96,h=>by omega
theorem Wy (a b c:Int) (sv:Value) (pc:Int):∀ i,i<96→(Ku a b c sv pc)[238+i]? = some (.bool ((List.replicate 96 false).getD i false))
 |0,_=>by kernel_rfl
 |1,_=>by kernel_rfl
 |2,_=>by kernel_rfl
 |3,_=>by kernel_rfl
 |4,_=>by kernel_rfl
 |5,_=>by kernel_rfl
 |6,_=>by kernel_rfl
 |7,_=>by kernel_rfl
 |8,_=>by kernel_rfl
 |9,_=>by kernel_rfl
 |10,_=>by kernel_rfl
 |11,_=>by kernel_rfl
 |12,_=>by kernel_rfl
 |13,_=>by kernel_rfl
 |14,_=>by kernel_rfl
 |15,_=>by kernel_rfl
 |16,_=>by kernel_rfl
 |17,_=>by kernel_rfl
 |18,_=>by kernel_rfl
 |19,_=>by kernel_rfl
 |20,_=>by kernel_rfl
 |21,_=>by kernel_rfl
 |22,_=>by kernel_rfl
 |23,_=>by kernel_rfl
 |24,_=>by kernel_rfl
 |25,_=>by kernel_rfl
 |26,_=>by kernel_rfl
 |27,_=>by kernel_rfl
 |28,_=>by kernel_rfl
 |29,_=>by kernel_rfl
 |30,_=>by kernel_rfl
 |31,_=>by kernel_rfl
 |32,_=>by kernel_rfl
 |33,_=>by kernel_rfl
 |34,_=>by kernel_rfl
 |35,_=>by kernel_rfl
 |36,_=>by kernel_rfl
 |37,_=>by kernel_rfl
 |38,_=>by kernel_rfl
 |39,_=>by kernel_rfl
 |40,_=>by kernel_rfl
 |41,_=>by kernel_rfl
 |42,_=>by kernel_rfl
 |43,_=>by kernel_rfl
 |44,_=>by kernel_rfl
 |45,_=>by kernel_rfl
 |46,_=>by kernel_rfl
 |47,_=>by kernel_rfl
 |48,_=>by kernel_rfl
 |49,_=>by kernel_rfl
 |50,_=>by kernel_rfl
 |51,_=>by kernel_rfl
 |52,_=>by kernel_rfl
 |53,_=>by kernel_rfl
 |54,_=>by kernel_rfl
 |55,_=>by kernel_rfl
 |56,_=>by kernel_rfl
 |57,_=>by kernel_rfl
 |58,_=>by kernel_rfl
 |59,_=>by kernel_rfl
 |60,_=>by kernel_rfl
 |61,_=>by kernel_rfl
 |62,_=>by kernel_rfl
 |63,_=>by kernel_rfl
 |64,_=>by kernel_rfl
 |65,_=>by kernel_rfl
 |66,_=>by kernel_rfl
 |67,_=>by kernel_rfl
 |68,_=>by kernel_rfl
 |69,_=>by kernel_rfl
 |70,_=>by kernel_rfl
 |71,_=>by kernel_rfl
 |72,_=>by kernel_rfl
 |73,_=>by kernel_rfl
 |74,_=>by kernel_rfl
 |75,_=>by kernel_rfl
 |76,_=>by kernel_rfl
 |77,_=>by kernel_rfl
 |78,_=>by kernel_rfl
 |79,_=>by kernel_rfl
 |80,_=>by kernel_rfl
 |81,_=>by kernel_rfl
 |82,_=>by kernel_rfl
 |83,_=>by kernel_rfl
 |84,_=>by kernel_rfl
 |85,_=>by kernel_rfl
 |86,_=>by kernel_rfl
 |87,_=>by kernel_rfl
 |88,_=>by kernel_rfl
 |89,_=>by kernel_rfl
 |90,_=>by kernel_rfl
 |91,_=>by kernel_rfl
 |92,_=>by kernel_rfl
 |93,_=>by kernel_rfl
 |94,_=>by kernel_rfl
 |95,_=>by kernel_rfl
 |i+96,h=>by omega
theorem Ww (a b c:Int) (sv:Value) (sc:List Int) (pc:Int):Ak (Ku a b c sv pc) (Oc a b c sc pc) (Ah0 sv):=
 ⟨by kernel_rfl,by kernel_rfl,by kernel_rfl,by kernel_rfl,by kernel_rfl,by kernel_rfl,by kernel_rfl,by kernel_rfl,by kernel_rfl,by kernel_rfl,by kernel_rfl,by kernel_rfl,by kernel_rfl,by kernel_rfl,by kernel_rfl,by kernel_rfl,
  Yk a b c sv pc,Aaw a b c sv pc,Wx a b c sv pc,Wz a b c sv pc,Wy a b c sv pc⟩
theorem Ak.set_mem {cs:Array Value} {C:Core} {L:Lay} (h:Ak cs C L) (v:Value) (l:List Int):Ak (cs.setIfInBounds 39 (v)) { C with mem:=l } { L with mem:=v }:=
 ⟨(by simp [h.size]),(by rw [Aa h.size,if_neg (by omega)];exact h.window),(by rw [Aa h.size,if_neg (by omega)];exact h.phys),(by rw [Aa h.size,if_neg (by omega)];exact h.wide),(by rw [Aa h.size,if_neg (by omega)];exact h.commits),(by rw [Aa h.size,if_pos ⟨rfl,by omega⟩]),(by rw [Aa h.size,if_neg (by omega)];exact h.cycles),(by rw [Aa h.size,if_neg (by omega)];exact h.taken),(by rw [Aa h.size,if_neg (by omega)];exact h.backs),(by rw [Aa h.size,if_neg (by omega)];exact h.script),(by rw [Aa h.size,if_neg (by omega)];exact h.slots),(by rw [Aa h.size,if_neg (by omega)];exact h.ops),(by rw [Aa h.size,if_neg (by omega)];exact h.access),(by rw [Aa h.size,if_neg (by omega)];exact h.seq),(by rw [Aa h.size,if_neg (by omega)];exact h.pc),(by rw [Aa h.size,if_neg (by omega)];exact h.still),(fun i hi=>by rw [Aa h.size,if_neg (by omega)];exact h.hart i hi),(fun i hi=>by rw [Aa h.size,if_neg (by omega)];exact h.tab i hi),(fun i hi=>by rw [Aa h.size,if_neg (by omega)];exact h.names i hi),(fun i hi=>by rw [Aa h.size,if_neg (by omega)];exact h.words i hi),(fun i hi=>by rw [Aa h.size,if_neg (by omega)];exact h.there i hi)⟩
def Bu (vc:Value) (H:Al) (vm:Value) (cy tk bk:Int):Array Value:=(vc::(H.cells.toList++[vm, .int .i64 cy, .int .i64 tk, .int .i64 bk])).toArray
theorem O9 (vc:Value) {H:Al} (hl:H.regs.length=32) (vm:Value) (cy tk bk:Int):(Bu vc H vm cy tk bk).size=40:=by
 unfold Bu
 have:=Al.cells_size hl
 simp [this]
theorem Ak.shownX {cs:Array Value} {C:Core} {L:Lay} (h:Ak cs C L) (hl:C.hart.regs.length=32):cs.extract 3 (3+40)=Bu L.commits C.hart L.mem C.cycles C.taken C.backs:=by
 apply Array.ext_getElem?
 intro i
 have hz:=Al.cells_size hl
 rw [Array.getElem?_extract]
 have es:(Bu L.commits C.hart L.mem C.cycles C.taken C.backs)[i]? = (L.commits::(C.hart.cells.toList++[L.mem, .int .i64 C.cycles, .int .i64 C.taken, .int .i64 C.backs]))[i]? := by
  unfold Bu
  simp
 rw [es]
 clear es
 by_cases hi:i<40
 ·rw [if_pos (by rw [h.size];omega)]
  match i,hi with
  |0,_=>exact h.commits
  |i+1,hi=>
   rw [List.getElem?_cons_succ]
   by_cases h35:i<35
   ·rw [List.getElem?_append_left (by simpa [hz] using h35),show 3+(i+1)=4+i by omega,h.hart i h35]
    simp
   ·rw [List.getElem?_append_right (by simp [hz];omega)]
    have e:C.hart.cells.toList.length=35:=by simp [hz]
    rw [e]
    obtain rfl | rfl | rfl | rfl:i=35∨i=36∨i=37∨i=38:=by omega
    ·exact h.mem
    ·exact h.cycles
    ·exact h.taken
    ·exact h.backs
 ·rw [if_neg (by omega),List.getElem?_eq_none (by simp [hz];omega)]
end Go.Proofs.YtapgojgcmlnbgacGreat
namespace Go.Proofs.YtapgojgcmlnbgacGreat
open Go.RowKit
def Acu (t:TypeId):Bool:=t==62 || t==75 || t==71 || t==5 || t==67 || t==101
structure Ah (B:Nat) (w w':World):Prop where
 os:w'.os=w.os
 tape:w'.tape=w.tape
 output:w'.output=w.output
 size:w.heap.size≤w'.heap.size
 low:∀ k,k<w.heap.size→k<B→w'.heap[k]? = w.heap[k]?
 block:∀ k,k<w.heap.size→(∀ cs t fr,w.heap[k]? = some (.cells cs t fr)→Acu t=false)→w'.heap[k]? = w.heap[k]?
theorem Ah.refl (B:Nat) (w:World):Ah B w w:=⟨rfl,rfl,rfl,Nat.le_refl _,fun _ _ _=>rfl,fun _ _ _=>rfl⟩
theorem Ah.trans {B:Nat} {a b c:World} (h:Ah B a b) (k:Ah B b c):Ah B a c:=
 ⟨k.os.trans h.os,k.tape.trans h.tape,k.output.trans h.output,Nat.le_trans h.size k.size,fun i hi hb=>(k.low i (Nat.lt_of_lt_of_le hi h.size) hb).trans (h.low i hi hb),
  fun i hi hc=>(k.block i (Nat.lt_of_lt_of_le hi h.size) (fun cs t fr e=>hc cs t fr (by rw [←h.block i hi hc];exact e))).trans (h.block i hi hc)⟩
theorem Ah.below {B:Nat} {w w':World} (h:Below w.heap.size w w'):Ah B w w':=
 ⟨h.os,h.tape,h.output,h.size,fun k hk _=>h.block k hk,fun k hk _=>h.block k hk⟩
theorem Ah.grown {B:Nat} {w w':World} {row:Option Nat} (h:w.grownBy w' row) (hB:∀ k,row=some k→B≤k∧∃ cs t fr,w.heap[k]? = some (.cells cs t fr)∧Acu t=true):Ah B w w':=
 ⟨h.os,h.tape,h.output,h.size,fun k hk hb=>h.block k hk (fun e=>by have:=(hB k e.symm).1;omega),
  fun k hk hc=>h.block k hk (fun e=>by
   obtain⟨_,cs,t,fr,h1,h2⟩:=hB k e.symm
   rw [hc cs t fr h1] at h2
   cases h2)⟩
theorem Ah.blk {B:Nat} {w w':World} {g:Nat} {t:TypeId} {cs:Array Value} (h:Ah B w w') (hb:Blk w g t cs) (ht:Acu t=false):Blk w' g t cs:=
 (h.block g hb.lt (fun cs' t' fr e=>by
  have hb:w.heap[g]? = some (.cells cs t (0,0)):=hb
  rw [hb] at e
  injection e with e
  injection e with _ e
  rw [←e]
  exact ht)).trans hb
theorem Ah.own {B:Nat} {w w':World} {base:Nat} {e:TypeId} {size:Nat} {v:Value} {n:Nat} {xs:List Value} (h:Ah B w w') (ho:w.ownsRow base e size v n xs) (ht:Acu e=false):w'.ownsRow base e size v n xs:=by
 refine⟨ho.1,?_⟩
 rcases ho.2 with hn | ⟨g,cap,cur,rfl,hb,hgg,rest⟩
 ·exact .inl hn
 ·exact .inr ⟨g,cap,cur,rfl,hb,h.blk (t:=e) (cs:=cur) hgg ht,rest⟩
theorem Ah.toBelow {B:Nat} {w0 w w':World} (hb:Below B w0 w) (h:Ah B w w') (hB:B≤w.heap.size):Below B w0 w':=
 ⟨h.os.trans hb.os,h.tape.trans hb.tape,h.output.trans hb.output,Nat.le_trans hb.size h.size,fun k hk=>(h.low k (by omega) hk).trans (hb.block k hk)⟩
section
variable {B:Nat} {w:World} {g:Nat} {C:Core} {L:Lay} {ps:List Nat} {cs:Array Value}
theorem Af.turned (h:Af B w g C L ps cs) {w':World} (hg:w.grownBy w' (some g)):Ah B w w':=
 Ah.grown hg fun k hk=>by cases hk;exact⟨h.rows.base,cs,_,_,h.blk,rfl⟩
theorem Af.lt (h:Af B w g C L ps cs):g<w.heap.size:=h.blk.lt
theorem Af.cell (h:Af B w g C L ps cs) {k:Nat} {v:Value} (hk:cs[k]? = some v):w.cell? ⟨g,k,none⟩=some v:=(h.blk.cell k).trans hk
theorem Af.script (h:Af B w g C L ps cs):w.cell? ⟨g,43,none⟩=some L.script:=h.cell h.cells.script
theorem Af.slots (h:Af B w g C L ps cs):w.cell? ⟨g,334,none⟩=some L.slots:=h.cell h.cells.slots
theorem Af.ops (h:Af B w g C L ps cs):w.cell? ⟨g,335,none⟩=some L.ops:=h.cell h.cells.ops
theorem Af.access (h:Af B w g C L ps cs):w.cell? ⟨g,336,none⟩=some L.access:=h.cell h.cells.access
theorem Af.mem (h:Af B w g C L ps cs):w.cell? ⟨g,39,none⟩=some L.mem:=h.cell h.cells.mem
theorem Af.commits (h:Af B w g C L ps cs):w.cell? ⟨g,3,none⟩=some L.commits:=h.cell h.cells.commits
theorem Af.word (h:Af B w g C L ps cs) {d:Nat} (hd:d<96):w.cell? ⟨g,142+d,none⟩=some (.int .u32 (C.words.getD d 0)):=h.cell (h.cells.words d hd)
theorem Af.has (h:Af B w g C L ps cs) {d:Nat} (hd:d<96):w.cell? ⟨g,238+d,none⟩=some (.bool (C.there.getD d false)):=h.cell (h.cells.there d hd)
theorem Af.reg (h:Af B w g C L ps cs) {r:Nat} (hr:r<32):w.cell? ⟨g,109+r,none⟩=some (.int .i64 (C.names.regs.getD r 0)):=by
 have:=h.cells.names (1+r) (by omega)
 rw [Ek _ _ _ _ _ (by rw [h.rows.names.len];exact hr),show 108+(1+r)=109+r by omega] at this
 exact h.cell this
theorem Af.nfree (h:Af B w g C L ps cs):w.cell? ⟨g,141,none⟩=some (.slice L.freeA C.names.free.length L.freeCap):=by
 have:=h.cells.names 33 (by omega)
 rw [D4 _ _ _ _ _ h.rows.names.len] at this
 exact h.cell this
theorem Af.hstate (h:Af B w g C L ps cs) (hl:C.hart.regs.length=32):w.cell? ⟨g,37,none⟩=some (.int .i64 C.hart.state):=by
 have:=h.cells.hart 33 (by omega)
 rw [(Al.cells_pc hl).2.1] at this
 exact h.cell this
end
theorem Ta {B:Nat} {w:World} {g:Nat} {C:Core} {L:Lay} {ps:List Nat} {cs:Array Value} (h:Af B w g C L ps cs) :
  Calls Tryz.prog 47 #[.pointer (some ⟨g,0,none⟩)] w fun e w'=>e = .returned (.int .i64 (H3 C.script))∧w.grownBy w' (some g)∧∃ L' cs',Af B w' g { C with script:=C.script.tail } L' ps cs':=by
 have hk:=h.script
 have hl:=h.lt
 obtain⟨A,cap,hs,hc,hcm,hA,hn⟩:=h.rows.script
 rw [hs] at hk
 have H:=Lib.hid h
 cases hsc:C.script with
 |nil=>
  rw [hsc] at hk
  simp only [List.length_nil] at hk
  have e0:((0:Int)==0)=true:=rfl
  have HC:=Lib.hid (show C={ C with script:=[] } by rw [←hsc])
  clear hA hn h hs
  go_enter Tryz.func47,Tryz.ntmps47
  go_wp2_with(fail)
  go_ret
  exact⟨rfl,World.grownBy.refl _ _,L,cs,by have:=H.out;rw [HC.out] at this;exact this⟩
 |cons n l=>
  rw [hsc] at hk hc hA hs
  obtain⟨b,o,rfl,hb,hcell⟩:=hA (by simp)
  have c0:w.cell? ⟨b,o,none⟩=some (.int .i64 n):=by have:=hcell 0 n rfl;simpa using this
  have hf:=h.blk.frozen 43
  have hlen:(n::l).length=l.length+1:=rfl
  rw [hlen] at hk hc
  have e0:(((l.length:Int)+1)==0)=false:=by simp;omega
  have H2:Hid (∀ v,(∃ A' cap',v = .slice A' l.length cap'∧l.length≤cap'∧cap'≤9223372036854775807∧Aq w B .i64 A' l∧(A'=none→l=[]∧cap'=0))→Af B (w.setCell ⟨g,43,none⟩ v) g { C with script:=l } { L with script:=v } ps (cs.setIfInBounds 43 v)):=
   Lib.hid fun v hv=>h.set 43 v (h.cells.set_script v l) (h.rows.scr hv)
  have hbw:b<w.heap.size:=Nat.lt_of_lt_of_le hb h.low
  have Hcell:=Lib.hid hcell
  clear hA hn h hs hcell
  by_cases hc1:cap=1
  ·subst hc1
   have hl0:l=[]:=List.eq_nil_of_length_eq_zero (by omega)
   subst hl0
   go_enter Tryz.func47,Tryz.ntmps47
   go_wp2_with(fail)
   go_ret
   exact⟨rfl,grownBy_setCell _ _ _,_,_,H2.out _ ⟨some ⟨b,o,none⟩,0,rfl,Nat.le_refl _,by omega,fun hh=>absurd rfl hh,fun hh=>by cases hh⟩⟩
  ·go_enter Tryz.func47,Tryz.ntmps47
   go_wp2_with(fail)
   go_ret
   refine⟨rfl,grownBy_setCell _ _ _,_,_,H2.out _ ⟨some ⟨b,o+1,none⟩,cap - 1,rfl,by omega,by omega,fun hh=>⟨b,o+1,rfl,hb,fun i v hi=>?_⟩,fun hh=>by cases hh⟩⟩
   have:=Hcell.out (i+1) v (by simpa using hi)
   rwa [show o+(i+1)=o+1+i by omega] at this
theorem Mm (n:Int) (w:World):Calls Tryz.prog 96 #[.int .i64 n] w fun e w'=>e = .returned (.int .i64 (Ct n))∧w=w':=by
 generalize hx:Ct n=x
 have Hx:=Lib.hid hx
 clear hx
 go_enter Tryz.func96,Tryz.ntmps96
 go_wp2
 all_goals
  go_ret
  refine⟨Ca ?_,rfl⟩
  rw [←Hx.out]
  unfold Ct
  (repeat' split)<;>omega
theorem M6 (pc:Int) (w:World) (h0:0≤pc) (h1:pc≤4294967295):Calls Tryz.prog 95 #[.int .u32 pc] w fun e w'=>e = .returned (.int .u32 (Pq pc))∧w=w':=by
 have Hx:=Lib.hid (Ahj pc)
 go_enter Tryz.func95,Tryz.ntmps95
 go_wp2
 go_ret
 exact⟨Ca Hx.out.symm,rfl⟩
theorem N4 (pc:Int) (w:World) (h0:0≤pc) (h1:pc≤4294967295):Calls Tryz.prog 86 #[.int .u32 pc] w fun e w'=>e = .returned (.int .u32 (vlK pc))∧w=w':=by
 have Hx:=Lib.hid (Ajn pc)
 go_enter Tryz.func86,Tryz.ntmps86
 go_wp2
 go_ret
 exact⟨Ca Hx.out.symm,rfl⟩
theorem Aar (cs:Array Value) (c:Cnt) (pc:Int) (w:World) (h0:0≤pc) (h1:pc≤4294967295) (hs:cs.size=64) (hc:Xv cs (Pq pc) c) :
  Calls Tryz.prog 92 #[.agg cs, .int .u32 pc] w fun e w'=>e = .returned (.tuple #[.bool (decide (2≤c.lv)), .int .u32 c.tg])∧Below w.heap.size w w':=by
 obtain⟨c0,c1⟩:=hc
 have hk:=Pr pc
 obtain⟨lv,tg⟩:=c
 dsimp only at c0 c1
 generalize hkk:Pq pc=k at c0 c1 hk
 have Hk:=Lib.hid hkk
 have Hs:=Lib.hid hs
 clear hkk hs
 go_enter Tryz.func92,Tryz.ntmps92
 go_wp2_with(go_at_call 95;(with_reducible refine(M6 pc _ h0 h1).mono ?_);rintro e w1 ⟨rfl,rfl⟩;rw [Hk.out])
 have z1:w.heap.size+1<((w.alloc (.cells cs 52)).alloc (.cells #[.int .i64 lv, .int .u32 tg] 46)).heap.size:=by simp
 refine As (by kernel_rfl) (by kernel_rfl) ?_
 repeat'(first
  |refine Br rfl ?_
  |(refine' Bg _ (fun wq hwq K hK=>?_) ?_ ?_;rotate_left 1;(· obtain⟨hcq,hfq⟩:=Jc hwq;go_wp2_with(fail);all_goals exact hK _ hwq);rfl)
  |((first | refine Bi rfl rfl rfl ?_ ?_ | refine Bh rfl rfl rfl ?_ ?_)<;>intro hc<;>first | (cases hc;done) | ((try cases hc);simp only [Act.put,sA,sS,sZ]))
  |refine Bj rfl rfl rfl ?_)
 all_goals
  refine Ch ?_
  intro w4 hw4
  go_wp2
  go_ret2
  exact⟨rfl,(((Below.refl _ _).alloc (Nat.le_refl _) _).alloc (by simp) _).trans (hw4.mono (by simp;omega))⟩
theorem Abb (cs:Array Value) (v:Vl) (pc:Int) (w:World) (h0:0≤pc) (h1:pc≤4294967295) (hs:cs.size=64) (hv:v.Wf) (hc:Wp cs (vlK pc) v) :
  Calls Tryz.prog 48 #[.agg cs, .int .u32 pc] w fun e w'=>e = .returned (.tuple #[.int .u32 (K4 v pc).1, .bool (K4 v pc).2])∧Below w.heap.size w w':=by
 obtain⟨c0,c1,c2,c3⟩:=hc
 have hk:=Ml pc
 obtain⟨vpc,last,stride,sure⟩:=v
 obtain⟨p0,p1,l0,l1,s0,s1,u0,u1⟩:=hv
 dsimp only at c0 c1 c2 c3 p0 p1 l0 l1 s0 s1 u0 u1
 generalize hkk:vlK pc=k at c0 c1 c2 c3 hk
 generalize hX:K4 ⟨vpc,last,stride,sure⟩ pc=X
 have HX:=Lib.hid hX
 have Hk:=Lib.hid hkk
 have Hs:=Lib.hid hs
 clear hkk hs hX
 go_enter Tryz.func48,Tryz.ntmps48
 go_wp2_with(go_at_call 86;(with_reducible refine(N4 pc _ h0 h1).mono ?_);rintro e w1 ⟨rfl,rfl⟩;rw [Hk.out])
 all_goals
  go_ret2
  refine⟨?_,((Below.refl _ _).alloc (Nat.le_refl _) _).alloc (by simp) _⟩
  rw [←HX.out]
  unfold K4 Aab
  dsimp only
  first | (rw [if_pos ⟨by assumption,by assumption⟩];rfl) | (rw [if_neg (by omega)];rfl)
theorem J8 {cs:Array Value} (h:cs.size=64):(Tryz.prog.info? 52).map (·.size)=some cs.size:=by rw [h];kernel_rfl
section
variable {ops:Array Oper} {rest:List Oper} {o:Oper} {a:Act} {w:World} {Q:Exit→Act→World→Prop}
theorem Ng (hgd:o.guard=none) (x:Operand) (ho:o.op = .load 52 x) (g:Nat) (hx:a.eval x = .pointer (some ⟨g,0,none⟩)) (cs:Array Value) (hg:Blk w g 52 cs) (hs:cs.size=64)
  (h:wpList Tryz.prog ops Q rest (a.put o.dst (.agg cs)) w):wpList Tryz.prog ops Q (o::rest) a w:=
 Ac hgd 52 x ho g hx 52 cs _ hg Tryz.underlying52 rfl (J8 hs) h
theorem Ln (hgd:o.guard=none) (x y:Operand) (ho:o.op = .store 52 x y) (g:Nat) (cells:Array Value) (hx:a.eval x = .pointer (some ⟨g,0,none⟩)) (hy:a.eval y = .agg cells)
  (old:Array Value) (hg:Blk w g 52 old) (hs:cells.size=64) (hn:old.size=64) (h1:cells.all (·.oneCell')=true)
  (h:∀ w',Blk w' g 52 cells→w.grownBy w' (some g)→wpList Tryz.prog ops Q rest (a.put o.dst undef) w'):wpList Tryz.prog ops Q (o::rest) a w:=
 Ab hgd 52 x y ho g cells hx hy 52 old hg (J8 hs) (by omega) h1 h
end
theorem Se (cs:Array Value) (c:Cnt) (pc target:Int) (taken:Bool) (w:World) (h0:0≤pc) (h1:pc≤4294967295) (t0:0≤target) (t1:target≤4294967295) (hok:Fe cs) (hw:c.Wf) (hc:Xv cs (Pq pc) c) :
  Calls Tryz.prog 67 #[.agg cs, .int .u32 pc, .bool taken, .int .u32 target] w fun e w'=>e = .returned (.agg (Gl cs c pc taken target))∧Below w.heap.size w w':=by
 have hok2:=hok.setCnt (Pr pc) (Wd hw taken t0 t1)
 have Hsz:=Lib.hid hok2.size
 have Hone:=Lib.hid hok2.one
 have Hs:=Lib.hid hok.size
 clear hok2 hw
 obtain⟨c0,c1⟩:=hc
 have hk:=Pr pc
 obtain⟨lv,tg⟩:=c
 dsimp only at c0 c1
 unfold Gl
 generalize hkk:Pq pc=k at c0 c1 hk Hsz Hone
 have Hk:=Lib.hid hkk
 obtain⟨b0,b1⟩:=Kd lv
 clear hkk hok
 rcases taken with _ | _
 ·have ec:cs.setIfInBounds (k*2) (.int .i64 (Ct (Ct lv - 1)))=setCnt cs k (T0 ⟨lv,tg⟩ false target):=by
   apply Array.ext_getElem?
   intro j
   rw [Mh cs k _ Hs.out hk,Im,Hs.out]
   by_cases e:j=k*2
   ·subst e;rw [if_pos ⟨rfl,by omega⟩,if_pos rfl];rfl
   ·rw [if_neg (by omega),if_neg e]
    by_cases e2:j=k*2+1
    ·subst e2;rw [if_pos rfl];exact c1
    ·rw [if_neg e2]
  rw [←ec] at Hsz Hone ⊢
  clear ec
  go_enter Tryz.func67,Tryz.ntmps67
  go_wp2_with(first
   |(go_at_call 95;(with_reducible refine(M6 pc _ h0 h1).mono ?_);rintro e w1 ⟨rfl,rfl⟩;rw [Hk.out])
   |(go_at_call 96;(with_reducible refine(Mm _ _).mono ?_);rintro e w1 ⟨rfl,rfl⟩)
   |(refine Ng rfl _ rfl w.heap.size rfl _ ((Blk.new w _ _).alloc _) Hsz.out ?_)
   |(refine Ln rfl _ _ rfl (w.heap.size+1) _ rfl rfl _ (Blk.newAt _ _ _ (by simp)) Hsz.out rfl Hone.out ?_;intro w5 hB5 hg5))
  exact bodyPost_ret (v := .agg _) (Az rfl _ _ (w.heap.size+1) 52 _ _ rfl hB5 Tryz.underlying52 rfl (J8 Hsz.out)) rfl
   ⟨rfl,below_grown (((Below.refl _ _).alloc (Nat.le_refl _) _).alloc (by simp) _) hg5 (by simp;omega) (by omega)⟩
 ·have ec:(cs.setIfInBounds (k*2) (.int .i64 (Ct (Ct lv+1)))).setIfInBounds (k*2+1) (.int .u32 target)=setCnt cs k (T0 ⟨lv,tg⟩ true target):=rfl
  rw [←ec] at Hsz Hone ⊢
  clear ec
  go_enter Tryz.func67,Tryz.ntmps67
  go_wp2_with(first
   |(go_at_call 95;(with_reducible refine(M6 pc _ h0 h1).mono ?_);rintro e w1 ⟨rfl,rfl⟩;rw [Hk.out])
   |(go_at_call 96;(with_reducible refine(Mm _ _).mono ?_);rintro e w1 ⟨rfl,rfl⟩)
   |(refine Ng rfl _ rfl w.heap.size rfl _ ((Blk.new w _ _).alloc _) Hsz.out ?_)
   |(refine Ln rfl _ _ rfl (w.heap.size+1) _ rfl rfl _ (Blk.newAt _ _ _ (by simp)) Hsz.out rfl Hone.out ?_;intro w5 hB5 hg5))
  exact bodyPost_ret (v := .agg _) (Az rfl _ _ (w.heap.size+1) 52 _ _ rfl hB5 Tryz.underlying52 rfl (J8 Hsz.out)) rfl
   ⟨rfl,below_grown (((Below.refl _ _).alloc (Nat.le_refl _) _).alloc (by simp) _) hg5 (by simp;omega) (by omega)⟩
theorem Afv (x y:Int):Tryz.prog.built 49 [(0, .int .u32 x),(1, .int .u32 y)]=some #[.int .u32 x, .int .u32 y, .int .u32 0, .int .i64 0]:=by kernel_rfl
theorem Aip {a b c d:Value}:(Tryz.prog.info? 49).map (·.size)=some (#[a,b,c,d]:Array Value).size:=by kernel_rfl
theorem Ajo {a b c d:Int}:(#[.int .u32 a, .int .u32 b, .int .u32 c, .int .i64 d]:Array Value).all (·.oneCell')=true:=by kernel_rfl
theorem T3 (cs:Array Value) (v:Vl) (pc n:Int) (w:World) (h0:0≤pc) (h1:pc≤4294967295) (n0:0≤n) (n1:n≤4294967295) (hok:Fe cs) (hw:v.Wf) (hc:Wp cs (vlK pc) v) (hne:v.pc≠pc) :
  Calls Tryz.prog 68 #[.agg cs, .int .u32 pc, .int .u32 n] w fun e w'=>e = .returned (.agg (Em cs v pc n))∧Below w.heap.size w w':=by
 have hok2:=hok.setVl (Ml pc) (Nz hw h0 h1 n0 n1)
 have Hsz:=Lib.hid hok2.size
 have Hone:=Lib.hid hok2.one
 have Hs:=Lib.hid hok.size
 obtain⟨c0,c1,c2,c3⟩:=hc
 have hk:=Ml pc
 unfold Em
 generalize hkk:vlK pc=k at c0 c1 c2 c3 hk Hsz Hone
 have Hk:=Lib.hid hkk
 obtain⟨vpc,last,stride,sure⟩:=v
 obtain⟨p0,p1,l0,l1,s0,s1,u0,u1⟩:=hw
 dsimp only at c0 c1 c2 c3 p0 p1 l0 l1 s0 s1 u0 u1
 clear hkk hok hok2
 have e:Mb ⟨vpc,last,stride,sure⟩ pc n=⟨pc,n,0,0⟩:=by unfold Mb;rw [if_pos hne]
 rw [e] at Hsz Hone ⊢
 dsimp only at hne
 have hle:32+k*4+(#[Value.int .u32 pc, .int .u32 n, .int .u32 0, .int .i64 0]:Array Value).size≤cs.size:=by rw [Hs.out];show 32+k*4+4≤64;omega
 have es:splice cs (32+k*4) (#[Value.int .u32 pc, .int .u32 n, .int .u32 0, .int .i64 0]:Array Value).toList=setVl cs k ⟨pc,n,0,0⟩:=Afi cs k ⟨pc,n,0,0⟩ Hs.out hk
 have ev:=Z4 cs k ⟨pc,n,0,0⟩ Hs.out hk
 generalize hD:setVl cs k ⟨pc,n,0,0⟩=D at *
 have ef:D.setIfInBounds (32+k*4+1) (.int .u32 n)=D:=by
  apply Array.ext_getElem?
  intro j
  rw [Im]
  by_cases ej:32+k*4+1=j
  ·subst ej
   have:=ev.c1
   split
   ·exact this.symm
   ·rfl
  ·rw [if_neg (by omega)]
 have Es:=Lib.hid es
 have Ev:=Lib.hid ev
 have Ef:=Lib.hid ef
 have Hle:=Lib.hid hle
 clear es ev ef hD hle e
 go_enter Tryz.func68,Tryz.ntmps68
 go_upto_region 3 with(go_at_call 86;(with_reducible refine(N4 pc _ h0 h1).mono ?_);rintro e w1 ⟨rfl,rfl⟩;rw [Hk.out])
 refine Au fun wq hq=>?_
 have hB:Blk wq w.heap.size 52 cs:=by rw [hq];exact(Blk.new w _ _).alloc _
 obtain⟨zs,hzs,hZ⟩:∃ zs:Array Value,zs.size=64∧Blk wq (w.heap.size+1) 52 zs:=⟨_,rfl,by rw [hq];exact Blk.newAt _ _ _ (by simp)⟩
 have hbq:Below w.heap.size w wq:=by rw [hq];exact((Below.refl _ _).alloc (Nat.le_refl _) _).alloc (by simp) _
 have zq:wq.heap.size=w.heap.size+2:=by rw [hq];simp
 have Hz:=Lib.hid zq
 have Hne:=Lib.hid (show w.heap.size+1≠w.heap.size by omega)
 have Hzs:=Lib.hid hzs
 have zq1:w.heap.size<wq.heap.size:=by omega
 have zq2:w.heap.size+1<wq.heap.size:=by omega
 have hBc:=hB.cell
 have hBf:=hB.frozen
 clear hq zq hzs
 go_wp2_with(first
  |(refine Ao rfl 49 _ rfl [(0, .int .u32 pc),(1, .int .u32 n)] ?_ _ (Afv pc n) ?_;kernel_rfl)
  |(refine Co rfl 49 _ _ rfl w.heap.size (32+k*4) #[.int .u32 pc, .int .u32 n, .int .u32 0, .int .i64 0] rfl rfl 52 cs hB Aip Hle.out Ajo ?_;intro w5 hB5 hg5;rw [Es.out] at hB5;have hB5c:=hB5.cell;have hB5f:=hB5.frozen;have ev1:=Ev.out.c1)
  |(refine Ng rfl _ rfl w.heap.size rfl D (by have h:=hB5.set (32+k*4+1) (.int .u32 n);rw [Ef.out] at h;exact h) Hsz.out ?_)
  |(refine Ln rfl _ _ rfl (w.heap.size+1) _ rfl rfl _ ((hZ.grown hg5 (by simp)).farAt Hne.out _) Hsz.out Hzs.out Hone.out ?_;intro w6 hB6 hg6))
 exact bodyPost_ret (v := .agg _) (Az rfl _ _ (w.heap.size+1) 52 _ _ rfl hB6 Tryz.underlying52 rfl (J8 Hsz.out)) rfl
  ⟨rfl,below_grown ((below_grown hbq hg5 (by omega) (Nat.le_refl _)).setCell (by simp) _) hg6 (by simp;have:=hg5.size;omega) (by omega)⟩
theorem T2 (cs:Array Value) (v:Vl) (pc n:Int) (w:World) (h0:0≤pc) (h1:pc≤4294967295) (n0:0≤n) (n1:n≤4294967295) (hok:Fe cs) (hw:v.Wf) (hc:Wp cs (vlK pc) v) (hne:v.pc=pc) (he:n=Aab v.last v.stride) :
  Calls Tryz.prog 68 #[.agg cs, .int .u32 pc, .int .u32 n] w fun e w'=>e = .returned (.agg (Em cs v pc n))∧Below w.heap.size w w':=by
 have hok2:=hok.setVl (Ml pc) (Nz hw h0 h1 n0 n1)
 have Hsz:=Lib.hid hok2.size
 have Hone:=Lib.hid hok2.one
 have Hs:=Lib.hid hok.size
 obtain⟨c0,c1,c2,c3⟩:=hc
 have hk:=Ml pc
 unfold Em
 generalize hkk:vlK pc=k at c0 c1 c2 c3 hk Hsz Hone
 have Hk:=Lib.hid hkk
 obtain⟨vpc,last,stride,sure⟩:=v
 obtain⟨p0,p1,l0,l1,s0,s1,u0,u1⟩:=hw
 dsimp only at c0 c1 c2 c3 p0 p1 l0 l1 s0 s1 u0 u1
 clear hkk hok hok2
 have e:Mb ⟨vpc,last,stride,sure⟩ pc n=⟨vpc,n,stride,Ct (Ct sure+1)⟩:=by unfold Mb;rw [if_neg (by simpa using hne),if_pos he]
 rw [e] at Hsz Hone ⊢
 obtain⟨b0,b1⟩:=Kd sure
 dsimp only at hne he
 unfold Aab at he
 have e1:(n==(last+stride)%4294967296)=true:=by simp [he]
 have ef:(cs.setIfInBounds (32+k*4+3) (.int .i64 (Ct (Ct sure+1)))).setIfInBounds (32+k*4+1) (.int .u32 n)=setVl cs k ⟨vpc,n,stride,Ct (Ct sure+1)⟩:=by
  refine Ahd cs _ k _ Hs.out hk (fun j h0 h1 h2 h3=>by rw [Im,if_neg (by omega),Im,if_neg (by omega)]) ⟨?_,?_,?_,?_⟩<;>simp only [Im,Array.size_setIfInBounds,Hs.out]
  ·rw [if_neg (by omega),if_neg (by omega)];exact c0
  ·rw [if_pos (by simp;omega)]
  ·rw [if_neg (by omega),if_neg (by omega)];exact c2
  ·rw [if_neg (by omega),if_pos (by simp;omega)]
 rw [←ef] at Hsz Hone ⊢
 clear ef he e
 obtain rfl:pc=vpc:=hne.symm
 go_enter Tryz.func68,Tryz.ntmps68
 go_upto_region 3 with(go_at_call 86;(with_reducible refine(N4 pc _ h0 h1).mono ?_);rintro e w1 ⟨rfl,rfl⟩;rw [Hk.out])
 refine Au fun wq hq=>?_
 have hB:Blk wq w.heap.size 52 cs:=by rw [hq];exact(Blk.new w _ _).alloc _
 obtain⟨zs,hzs,hZ⟩:∃ zs:Array Value,zs.size=64∧Blk wq (w.heap.size+1) 52 zs:=⟨_,rfl,by rw [hq];exact Blk.newAt _ _ _ (by simp)⟩
 have hbq:Below w.heap.size w wq:=by rw [hq];exact((Below.refl _ _).alloc (Nat.le_refl _) _).alloc (by simp) _
 have zq:wq.heap.size=w.heap.size+2:=by rw [hq];simp
 have Hz:=Lib.hid zq
 have Hne:=Lib.hid (show w.heap.size+1≠w.heap.size by omega)
 have Hzs:=Lib.hid hzs
 have zq1:w.heap.size<wq.heap.size:=by omega
 have zq2:w.heap.size+1<wq.heap.size:=by omega
 have hBc:=hB.cell
 have hBf:=hB.frozen
 clear hq zq hzs
 go_wp2_with fail
 refine As (by kernel_rfl) (by kernel_rfl) ?_
 repeat'(first
  |refine Br rfl ?_
  |(refine' Bg _ (fun wq hwq K hK=>?_) ?_ ?_;rotate_left 1;(· obtain⟨hcq,hfq⟩:=Jc hwq;go_wp2_with(fail);all_goals exact hK _ hwq);rfl)
  |((first | refine Bi rfl rfl rfl ?_ ?_ | refine Bh rfl rfl rfl ?_ ?_)<;>intro hc<;>first | (cases hc;done) | ((try cases hc);simp only [Act.put,sA,sS,sZ]))
  |refine Bj rfl rfl rfl ?_)
 all_goals
  refine Ch ?_
  intro w4 hw4
  have hB4:=hB.ext hw4
  have hZ4:=hZ.ext hw4
  have hb4:=hbq.trans (hw4.mono (by omega))
  have z4:=hw4.size
  clear hBc hBf
  have hBc:=hB4.cell
  have hBf:=hB4.frozen
  go_upto_region 8 with(go_at_call 96;(with_reducible refine(Mm _ _).mono ?_);rintro e w1 ⟨rfl,rfl⟩)
  go_wp2_with(first
   |(refine Ng rfl _ rfl w.heap.size rfl _ ((hB4.set _ _).set _ _) Hsz.out ?_)
   |(refine Ln rfl _ _ rfl (w.heap.size+1) _ rfl rfl _ ((hZ4.farAt Hne.out _).farAt Hne.out _) Hsz.out Hzs.out Hone.out ?_;intro w6 hB6 hg6))
  exact bodyPost_ret (v := .agg _) (Az rfl _ _ (w.heap.size+1) 52 _ _ rfl hB6 Tryz.underlying52 rfl (J8 Hsz.out)) rfl
   ⟨rfl,below_grown ((hb4.setCell (by simp) _).setCell (by simp) _) hg6 (by simp;omega) (by omega)⟩
theorem Sf (cs:Array Value) (v:Vl) (pc n:Int) (w:World) (h0:0≤pc) (h1:pc≤4294967295) (n0:0≤n) (n1:n≤4294967295) (hok:Fe cs) (hw:v.Wf) (hc:Wp cs (vlK pc) v) (hne:v.pc=pc) (he:n≠Aab v.last v.stride) :
  Calls Tryz.prog 68 #[.agg cs, .int .u32 pc, .int .u32 n] w fun e w'=>e = .returned (.agg (Em cs v pc n))∧Below w.heap.size w w':=by
 have hok2:=hok.setVl (Ml pc) (Nz hw h0 h1 n0 n1)
 have Hsz:=Lib.hid hok2.size
 have Hone:=Lib.hid hok2.one
 have Hs:=Lib.hid hok.size
 obtain⟨c0,c1,c2,c3⟩:=hc
 have hk:=Ml pc
 unfold Em
 generalize hkk:vlK pc=k at c0 c1 c2 c3 hk Hsz Hone
 have Hk:=Lib.hid hkk
 obtain⟨vpc,last,stride,sure⟩:=v
 obtain⟨p0,p1,l0,l1,s0,s1,u0,u1⟩:=hw
 dsimp only at c0 c1 c2 c3 p0 p1 l0 l1 s0 s1 u0 u1
 clear hkk hok hok2
 have e:Mb ⟨vpc,last,stride,sure⟩ pc n=⟨vpc,n,Ab8 n last,0⟩:=by unfold Mb;rw [if_neg (by simpa using hne),if_neg he]
 rw [e] at Hsz Hone ⊢
 dsimp only at hne he
 unfold Aab at he
 have e1:(n==(last+stride)%4294967296)=false:=by simp [he]
 have ef:((cs.setIfInBounds (32+k*4+3) (.int .i64 0)).setIfInBounds (32+k*4+2) (.int .u32 ((n - last)%4294967296))).setIfInBounds (32+k*4+1) (.int .u32 n)=setVl cs k ⟨vpc,n,Ab8 n last,0⟩:=by
  refine Ahd cs _ k _ Hs.out hk (fun j h0 h1 h2 h3=>by rw [Im,if_neg (by omega),Im,if_neg (by omega),Im,if_neg (by omega)]) ⟨?_,?_,?_,?_⟩<;>simp only [Im,Array.size_setIfInBounds,Hs.out]
  ·rw [if_neg (by omega),if_neg (by omega),if_neg (by omega)];exact c0
  ·rw [if_pos (by simp;omega)]
  ·rw [if_neg (by omega),if_pos (by simp;omega)];rfl
  ·rw [if_neg (by omega),if_neg (by omega),if_pos (by simp;omega)]
 rw [←ef] at Hsz Hone ⊢
 clear ef he e
 obtain rfl:pc=vpc:=hne.symm
 go_enter Tryz.func68,Tryz.ntmps68
 go_upto_region 3 with(go_at_call 86;(with_reducible refine(N4 pc _ h0 h1).mono ?_);rintro e w1 ⟨rfl,rfl⟩;rw [Hk.out])
 refine Au fun wq hq=>?_
 have hB:Blk wq w.heap.size 52 cs:=by rw [hq];exact(Blk.new w _ _).alloc _
 obtain⟨zs,hzs,hZ⟩:∃ zs:Array Value,zs.size=64∧Blk wq (w.heap.size+1) 52 zs:=⟨_,rfl,by rw [hq];exact Blk.newAt _ _ _ (by simp)⟩
 have hbq:Below w.heap.size w wq:=by rw [hq];exact((Below.refl _ _).alloc (Nat.le_refl _) _).alloc (by simp) _
 have zq:wq.heap.size=w.heap.size+2:=by rw [hq];simp
 have Hz:=Lib.hid zq
 have Hne:=Lib.hid (show w.heap.size+1≠w.heap.size by omega)
 have Hzs:=Lib.hid hzs
 have zq1:w.heap.size<wq.heap.size:=by omega
 have zq2:w.heap.size+1<wq.heap.size:=by omega
 have hBc:=hB.cell
 have hBf:=hB.frozen
 clear hq zq hzs
 go_wp2_with fail
 refine As (by kernel_rfl) (by kernel_rfl) ?_
 repeat'(first
  |refine Br rfl ?_
  |(refine' Bg _ (fun wq hwq K hK=>?_) ?_ ?_;rotate_left 1;(· obtain⟨hcq,hfq⟩:=Jc hwq;go_wp2_with(fail);all_goals exact hK _ hwq);rfl)
  |((first | refine Bi rfl rfl rfl ?_ ?_ | refine Bh rfl rfl rfl ?_ ?_)<;>intro hc<;>first | (cases hc;done) | ((try cases hc);simp only [Act.put,sA,sS,sZ]))
  |refine Bj rfl rfl rfl ?_)
 all_goals
  refine Ch ?_
  intro w4 hw4
  have hB4:=hB.ext hw4
  have hZ4:=hZ.ext hw4
  have hb4:=hbq.trans (hw4.mono (by omega))
  have z4:=hw4.size
  clear hBc hBf
  have hBc:=hB4.cell
  have hBf:=hB4.frozen
  go_upto_region 8 with(go_at_call 96;(with_reducible refine(Mm _ _).mono ?_);rintro e w1 ⟨rfl,rfl⟩)
  go_wp2_with(first
   |(refine Ng rfl _ rfl w.heap.size rfl _ (((hB4.set _ _).set _ _).set _ _) Hsz.out ?_)
   |(refine Ln rfl _ _ rfl (w.heap.size+1) _ rfl rfl _ (((hZ4.farAt Hne.out _).farAt Hne.out _).farAt Hne.out _) Hsz.out Hzs.out Hone.out ?_;intro w6 hB6 hg6))
  exact bodyPost_ret (v := .agg _) (Az rfl _ _ (w.heap.size+1) 52 _ _ rfl hB6 Tryz.underlying52 rfl (J8 Hsz.out)) rfl
   ⟨rfl,below_grown (((hb4.setCell (by simp) _).setCell (by simp) _).setCell (by simp) _) hg6 (by simp;omega) (by omega)⟩
theorem T1 (cs:Array Value) (v:Vl) (pc n:Int) (w:World) (h0:0≤pc) (h1:pc≤4294967295) (n0:0≤n) (n1:n≤4294967295) (hok:Fe cs) (hw:v.Wf) (hc:Wp cs (vlK pc) v) :
  Calls Tryz.prog 68 #[.agg cs, .int .u32 pc, .int .u32 n] w fun e w'=>e = .returned (.agg (Em cs v pc n))∧Below w.heap.size w w':=by
 by_cases h:v.pc=pc
 ·by_cases h':n=Aab v.last v.stride
  ·exact T2 cs v pc n w h0 h1 n0 n1 hok hw hc h h'
  ·exact Sf cs v pc n w h0 h1 n0 n1 hok hw hc h h'
 ·exact T3 cs v pc n w h0 h1 n0 n1 hok hw hc h
end Go.Proofs.YtapgojgcmlnbgacGreat
