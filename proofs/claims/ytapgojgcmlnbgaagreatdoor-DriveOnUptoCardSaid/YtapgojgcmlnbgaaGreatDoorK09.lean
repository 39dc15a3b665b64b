/- Parts of a proof. -/
import Derived.Test.YtapgojgcmlnbgaaGreatDoorK08
import Derived.Test.YtapgojgcmlnbgaaGreatDoorK06
import Derived.Test.YtapgojgcmlnbgaaGreatDoorK04
import Derived.Test.YtapgojgcmlnbgaaGreatDoorK03
import Derived.Test.YtapgojgcmlnbgaaGreatDoorK02
set_option linter.unusedSimpArgs false
set_option linter.unusedVariables false
set_option maxRecDepth 100000
set_option maxHeartbeats 16000000
namespace Go.Proofs.YtapgojgcmlnbgaaGreatDoor
open Go
structure Ran (k:Nat) (C C':Core):Prop where
 run:(C4 k C.hart C.mem).2=(C'.hart,C'.mem)
 commits:C'.commits=C.commits++(C4 k C.hart C.mem).1
 len:(C4 k C.hart C.mem).1.length=k
 wide:C'.wide=C.wide
 cycles:C'.cycles=C.cycles
 taken:C'.taken=C.taken
 backs:C'.backs=C.backs
theorem Ran.refl (C:Core):Ran 0 C C:=⟨rfl,by simp [C4],rfl,rfl,rfl,rfl,rfl⟩
theorem Ran.trans {a b:Nat} {A B C:Core} (h:Ran a A B) (k:Ran b B C):Ran (a+b) A C:=by
 have e:=Aaf a b A.hart A.mem
 have h1:(C4 a A.hart A.mem).2.1=B.hart:=by rw [h.run]
 have h2:(C4 a A.hart A.mem).2.2=B.mem:=by rw [h.run]
 rw [h1,h2] at e
 refine⟨by rw [e];exact k.run,by rw [e,k.commits,h.commits,List.append_assoc],by rw [e,List.length_append,h.len,k.len],k.wide.trans h.wide,k.cycles.trans h.cycles,k.taken.trans h.taken,k.backs.trans h.backs⟩
theorem Ran.mid {k:Nat} {A B C:Core} (h:Ran k A B) (m:Mid B C):(C4 k A.hart A.mem).2=(C.hart,C.mem)∧C.commits=A.commits++(C4 k A.hart A.mem).1:=by
 rw [m.hart,m.mem,m.commits]
 exact⟨h.run,h.commits⟩
def own (C:Core):Core:={ C with slots:=C.ops.map Bz }
theorem Tr {C:Core} (h:Inv (own C)) {u:Uop} {R:List Uop} (ho:C.ops=u::R) (h2:u.state=2):Ran 1 C (Bm C)∧(Bm C).ops=R∧(Bm C).slots=C.slots:=by
 have H:Af9 C u R:=by
  have H:=Abw h (R:=R) (u:=u) ho h2
  exact⟨H.com,H.pc,H.wf,H.fits,H.hart,H.mem⟩
 have hr:C.hart.state=0:=h.runs
 rw [Eo ho]
 refine⟨⟨?_,?_,?_,rfl,rfl,rfl,rfl⟩,rfl,rfl⟩
 ·rw [Gm hr]
  show(goH C.hart C.mem,goM C.hart C.mem)=(Cx u.commit C.hart,C9 u.commit C.mem)
  rw [H.hart,H.mem]
 ·rw [Gm hr,H.com]
  rfl
 ·rw [Gm hr]
  rfl
theorem Wd:∀ (n:Nat) (C:Core),Inv (own C)→Fy C→(∃ L R,C.ops=L++R∧L.length=n∧∀ u∈L,u.state=2) →
  ∃ k,k≤n∧(0<n→0<k)∧Ran k C (goneP n C)∧(goneP n C).slots=C.slots∧((goneP n C).hart.state≠0∨(Inv (own (goneP n C))∧Fy (goneP n C)∧(goneP n C).ops=C.ops.drop n))
 |0,C,h,hs,_=>⟨0,Nat.le_refl _,fun hh=>hh,Ran.refl C,rfl,Or.inr ⟨h,hs,rfl⟩⟩
 |n+1,C,h,hs,⟨[],R,ho,hl,hd⟩=>by cases hl
 |n+1,C,h,hs,⟨u::L,R,ho,hl,hd⟩=>by
  have h2:=hd u (by simp)
  obtain⟨hr,hops,hsl⟩:=Tr h (u:=u) (R:=L++R) ho h2
  have hO:=h.ops [] u (L++R) ho
  show ∃ k,k≤n+1∧(0<n+1→0<k)∧Ran k C (if (Bm C).hart.state≠0 then Bm C else goneP n (Bm C))∧_∧_
  by_cases h0:(Bm C).hart.state=0
  ·have e:goneP (n+1) C=goneP n (Bm C):=by
    show(if (Bm C).hart.state≠0 then Bm C else goneP n (Bm C))=_
    rw [if_neg (fun hh=>hh h0)]
   rw [e,if_neg (fun hh=>hh h0)]
   have hgo:(Bm C).hart=goH C.hart C.mem:=by
    have:=hr.run
    rw [Gm (show C.hart.state=0 from h.runs)] at this
    have:=congrArg Prod.fst this
    exact this.symm
   have hi1:Inv (own (Bm C)):=by
    have:=Zi h (u:=u) (R:=L++R) ho h2 (by show(goH C.hart C.mem).state=0;rw [←hgo];exact h0)
    rw [Eo (C:=own C) (u:=u) (R:=L++R) ho] at this
    rw [Eo ho]
    exact this
   have hstop:Cw u=false:=by
    have hcs:u.commit.state=0:=by
     have:(Bm C).hart=Cx u.commit C.hart:=by rw [Eo ho]
     rw [this] at h0
     exact h0
    unfold Cw
    rw [hcs]
    rcases Decidable.em (u.cause=0) with hc | hc
    ·rw [hc];simp
    ·have:=(hO.fault hc).2.1
     rw [this] at hcs
     cases hcs
   have hs1:=Ts hs ho hstop
   obtain⟨k,k1,k2,k3,k4,k5⟩:=Wd n (Bm C) hi1 hs1 ⟨L,R,hops,by simpa using hl,fun v hv=>hd v (by simp [hv])⟩
   refine⟨1+k,by omega,fun _=>by omega,hr.trans k3,k4.trans hsl,?_⟩
   rcases k5 with k5 | ⟨k5,k6,k7⟩
   ·exact Or.inl k5
   ·refine Or.inr ⟨k5,k6,?_⟩
    rw [k7,hops,ho]
    rfl
  ·have e:goneP (n+1) C=Bm C:=by
    show(if (Bm C).hart.state≠0 then Bm C else goneP n (Bm C))=_
    rw [if_pos h0]
   rw [e,if_pos h0]
   exact⟨1,by omega,fun _=>by omega,hr,hsl,Or.inl h0⟩
theorem Rb:∀ (ops:List Uop) (most:Int),∃ L R,ops=L++R∧L.length=Dy (ops.map Bz) most∧∀ u∈L,u.state=2
 |[],_=>⟨[],[],rfl,rfl,fun u hu=>by cases hu⟩
 |u::ops,most=>by
  show ∃ L R,u::ops=L++R∧L.length=(if 0<most∧(Bz u).done=true then 1+Dy (ops.map Bz) (most - 1) else 0)∧_
  split
  ·rename_i hc
   obtain⟨L,R,e,hl,hd⟩:=Rb ops (most - 1)
   refine⟨u::L,R,by rw [e];rfl,by simp [hl];omega,fun v hv=>?_⟩
   rcases List.mem_cons.1 hv with rfl | hv
   ·exact of_decide_eq_true hc.2
   ·exact hd v hv
  ·exact⟨[],u::ops,rfl,rfl,fun u hu=>by cases hu⟩
theorem O6 {C:Core} (h:Good C):∃ k:Nat,(k:Int)≤C.wide∧Ran k C (Bu C)∧((Bu C).hart.state≠0∨Good (Bu C)) ∧
  (k=0→(Bu C).ops=C.ops∧∀ u R,C.ops=u::R→u.state≠2)∧(∀ u∈(Bu C).ops,(Bu C).hart.state=0→u∈C.ops):=by
 have hK:Dy C.slots C.wide=Dy (C.ops.map Bz) C.wide:=by rw [h.inv.slots]
 have hown:own { C with slots:=C.slots.drop (Dy C.slots C.wide) }=C:=by
  unfold own
  show { C with slots:=C.ops.map Bz }=C
  rw [←h.inv.slots]
 obtain⟨k,k1,k2,k3,k4,k5⟩:=Wd (Dy C.slots C.wide) { C with slots:=C.slots.drop (Dy C.slots C.wide) } (by rw [hown];exact h.inv) h.still (by rw [hK];exact Rb C.ops C.wide)
 have hw:=h.inv.cfg.2
 have hm:=N4 C.slots C.wide (by omega)
 refine⟨k,by omega,⟨k3.run,k3.commits,k3.len,k3.wide,k3.cycles,k3.taken,k3.backs⟩,?_,fun h0=>?_,fun u hu h0=>?_⟩
 ·rcases k5 with k5 | ⟨k5,k6,k7⟩
  ·exact Or.inl k5
  ·right
   have e:own (Bu C)=Bu C:=by
    have hs:(Bu C).slots=C.slots.drop (Dy C.slots C.wide):=k4
    have ho:(Bu C).ops=C.ops.drop (Dy C.slots C.wide):=k7
    unfold own
    have:(Bu C).ops.map Bz=(Bu C).slots:=by rw [hs,ho,List.map_drop,←h.inv.slots]
    rw [this]
   refine⟨?_,k6⟩
   rw [←e]
   exact k5
 ·have hz:Dy C.slots C.wide=0:=by
   rcases Nat.eq_zero_or_pos (Dy C.slots C.wide) with e | e
   ·exact e
   ·have:=k2 e;omega
  refine⟨?_,fun u R ho h2=>?_⟩
  ·unfold Bu
   rw [hz]
   rfl
  ·rw [hK,ho] at hz
   have:(if 0<C.wide∧(Bz u).done=true then 1+Dy (R.map Bz) (C.wide - 1) else 0)=0:=hz
   rw [if_pos ⟨by omega,decide_eq_true h2⟩] at this
   omega
 ·rcases k5 with k5 | ⟨_,_,k7⟩
  ·exact absurd h0 k5
  ·have ho:(Bu C).ops=C.ops.drop (Dy C.slots C.wide):=k7
   rw [ho] at hu
   exact List.mem_of_mem_drop hu
def Ajn (T D:Int):List Uop→Prop
 |[]=>T+11≤D
 |u::_=>(u.state=2∧T≤D)∨(u.state=1∧T+1≤D∧u.ready+1≤D)∨(u.state=0∧T+10≤D)
theorem Agj {T:Int} {C:Core} (h:Inv C) (hs:Adu (T+9) C):Ajn (T+1) (T+12) C.ops:=by
 cases ho:C.ops with
 |nil=>show T+1+11≤T+12;omega
 |cons u R=>
  rcases(h.ops [] u R ho).st with e | e | e
  ·exact Or.inr (Or.inr ⟨e,by omega⟩)
  ·refine Or.inr (Or.inl ⟨e,by omega,?_⟩)
   have:=hs u (by rw [ho];simp) e
   omega
  ·exact Or.inl ⟨e,by omega⟩
structure Lm (C:Core) (D:Int):Prop where
 good:Good C
 soon:Adu (C.cycles+8) C
 due:Ajn C.cycles D C.ops
theorem Adc {T D:Int} {l:List Uop} (h:Ajn T D l):T≤D:=by
 cases l with
 |nil=>have h:T+11≤D:=h;omega
 |cons u R=>
  have h:(u.state=2∧T≤D)∨(u.state=1∧T+1≤D∧u.ready+1≤D)∨(u.state=0∧T+10≤D):=h
  omega
theorem Ui {n:Nat} (h:0<n):∃ m,n=m+1:=⟨n - 1,by omega⟩
structure Af8 (C C':Core) (k:Nat):Prop where
 run:(C4 k C.hart C.mem).2=(C'.hart,C'.mem)
 commits:C'.commits=C.commits++(C4 k C.hart C.mem).1
 len:(C4 k C.hart C.mem).1.length=k
 few:(k:Int)≤C.wide
 wide:C'.wide=C.wide
 cycles:C'.cycles=C.cycles+1
 taken:C.taken≤C'.taken
 backs:C.backs≤C'.backs
theorem Rj {C:Core} (h:Good C):Good { C with cycles:=C.cycles+1 }:=by
 obtain⟨h,hs⟩:=h
 refine⟨⟨h.cfg,h.hart,h.may,h.runs,h.bytes,h.room,h.tab,h.words,h.there,h.slots,h.seqs,h.access,h.names,h.pcs,h.len,h.seq0,h.pc,fun L v R e=>?_⟩,hs⟩
 have:=h.ops L v R e
 exact⟨this.seq,this.st,this.fault,this.cause,this.fetch,this.pc,this.next,this.nextS,this.src,this.gs,this.d1,this.d2,this.com,this.nx,this.lone,this.last⟩
theorem Ta {C:Core} {D:Int} (h:Lm C D):∃ k,Af8 C (Cc C) k∧((0<k∧(Cc C).hart.state≠0)∨(0<k∧Lm (Cc C) (C.cycles+12))∨(k=0∧Lm (Cc C) D)):=by
 obtain⟨k,kw,kr,kg,k0,kin⟩:=O6 (Rj h.good)
 have e:Cc C=(let c1:=Bu { C with cycles:=C.cycles+1 }
   if c1.hart.state≠0 then c1
   else
    let c2:=finishAll c1.ops.length 0 C.cycles c1
    let c3:=beginAll c2.ops.length 0 0 C.cycles c2
    fetchAll c3.wide.toNat c3):=rfl
 rw [e]
 dsimp only
 generalize hc1:Bu { C with cycles:=C.cycles+1 }=c1 at kr kg k0 kin ⊢
 have hcyc1:c1.cycles=C.cycles+1:=kr.cycles
 by_cases h0:c1.hart.state=0
 ·rw [if_neg (fun hh=>hh h0)]
  have g1:Good c1:=by
   rcases kg with kg | kg
   ·exact absurd h0 kg
   ·exact kg
  have hs1:Adu (C.cycles+8) c1:=fun u hu h1=>h.soon u (kin u hu h0) h1
  have P2:=Ga C.cycles (C.cycles+8) c1.ops.length c1 [] c1.ops g1 rfl
  have P2:Part c1 (finishAll c1.ops.length 0 C.cycles c1) (C.cycles+8) []:=P2
  generalize hc2:finishAll c1.ops.length 0 C.cycles c1=c2 at P2 ⊢
  have P3:=Lo C.cycles c2.ops.length 0 c2 [] c2.ops P2.good rfl
  have P3:Part c2 (beginAll c2.ops.length 0 0 C.cycles c2) (C.cycles+9) []:=P3
  generalize hc3:beginAll c2.ops.length 0 0 C.cycles c2=c3 at P3 ⊢
  have P4:=Kt (C.cycles+9) c3.wide.toNat c3 P3.good
  have hs2:=P2.soon hs1
  have hs4:=P4.soon (P3.soon fun u hu h1=>by have:=hs2 u hu h1;omega)
  have hm:=P2.mid.trans (P3.mid.trans P4.mid)
  obtain⟨r1,r2⟩:=kr.mid hm
  have hcyc:(fetchAll c3.wide.toNat c3).cycles=C.cycles+1:=by rw [hm.cycles,hcyc1]
  have hCy:Af8 C (fetchAll c3.wide.toNat c3) k:=⟨r1,r2,kr.len,kw,by rw [hm.wide];exact kr.wide,hcyc,by have:=hm.taken;rw [kr.taken] at this;exact this,by have:=hm.backs;rw [kr.backs] at this;exact this⟩
  refine⟨k,hCy,Or.inr ?_⟩
  have hs5:Adu ((fetchAll c3.wide.toNat c3).cycles+8) (fetchAll c3.wide.toNat c3):=by rw [hcyc];intro u hu h1;have:=hs4 u hu h1;omega
  rcases Nat.eq_zero_or_pos k with hk | hk
  ·right
   refine⟨hk,P4.good,hs5,?_⟩
   rw [hcyc]
   obtain⟨q1,q2⟩:=k0 hk
   have q1:c1.ops=C.ops:=q1
   have hdue:=h.due
   obtain⟨R4,e4⟩:=P4.ops
   cases ho:C.ops with
   |nil=>
    rw [ho] at hdue q1
    have hdue:C.cycles+11≤D:=hdue
    have e2:c2=c1:=by rw [←hc2];exact Zd _ _ _ q1
    have e3:c3=c2:=by rw [←hc3];exact Aa7 _ _ _ _ (by rw [e2];exact q1)
    have ho3:c3.ops=[]:=by rw [e3,e2];exact q1
    have hw3:=P3.good.inv.cfg.2
    obtain⟨n,hn⟩:=Ui (n:=c3.wide.toNat) (by omega)
    obtain⟨u,R,eu,hst⟩:=Tk n P3.good ho3
    rw [hn,eu]
    rcases hst with hst | hst
    ·exact Or.inr (Or.inr ⟨hst,by omega⟩)
    ·exact Or.inl ⟨hst,by omega⟩
   |cons u R=>
    rw [ho] at hdue q1
    have hdue:(u.state=2∧C.cycles≤D)∨(u.state=1∧C.cycles+1≤D∧u.ready+1≤D)∨(u.state=0∧C.cycles+10≤D):=hdue
    have hn2:=q2 u R ho
    have hst:=(h.good.inv.ops [] u R ho).st
    obtain⟨n1,hn1⟩:=Ui (n:=c1.ops.length) (by rw [q1];simp)
    obtain⟨u2,R2,e2,s2⟩:=Zc C.cycles 0 n1 g1 q1
    rw [←hn1,hc2] at e2
    obtain⟨n3,hn3⟩:=Ui (n:=c2.ops.length) (by rw [e2];simp)
    obtain⟨u3,R3,e3,s3⟩:=Sg C.cycles n3 P2.good e2
    rw [←hn3,hc3] at e3
    rw [e4,e3]
    show(u3.state=2∧_)∨(u3.state=1∧_∧_)∨(u3.state=0∧_)
    rcases s2 with s2 | ⟨rfl,s2⟩
    ·rw [if_neg (by omega)] at s3
     subst s3
     exact Or.inl ⟨s2,by omega⟩
    ·rcases hst with hst | hst | hst
     ·rw [if_pos hst] at s3
      exact Or.inr (Or.inl ⟨s3.1,by omega,by omega⟩)
     ·rw [if_neg (by omega)] at s3
      subst s3
      refine Or.inr (Or.inl ⟨hst,?_,by omega⟩)
      have:¬ (u3.ready≤C.cycles):=fun hh=>s2 ⟨hst,hh⟩
      omega
     ·exact absurd hst hn2
  ·left
   refine⟨hk,P4.good,hs5,?_⟩
   rw [hcyc]
   exact Agj P4.good.inv hs4
 ·rw [if_pos h0]
  have hk:0<k:=by
   rcases Nat.eq_zero_or_pos k with hk | hk
   ·exfalso
    have:=kr.run
    rw [hk] at this
    have:C.hart=c1.hart:=congrArg Prod.fst this
    rw [←this] at h0
    exact h0 h.good.inv.runs
   ·exact hk
  exact⟨k,⟨kr.run,kr.commits,kr.len,kw,kr.wide,hcyc1,by rw [kr.taken];exact Int.le_refl _,by rw [kr.backs];exact Int.le_refl _⟩,Or.inl ⟨hk,h0⟩⟩
theorem Ahw:∀ k,k<16→Vo[k*2]? = some (.int .i64 0)∧Vo[k*2+1]? = some (.int .u32 0)
 |0,_ | 1,_ | 2,_ | 3,_ | 4,_ | 5,_ | 6,_ | 7,_ | 8,_ | 9,_ | 10,_ | 11,_ | 12,_ | 13,_ | 14,_ | 15,_=>⟨rfl,rfl⟩
 |n+16,h=>by omega
theorem Ajc:∀ k,k<8→Vo[32+k*4]? = some (.int .u32 0)∧Vo[32+k*4+1]? = some (.int .u32 0)∧Vo[32+k*4+2]? = some (.int .u32 0)∧Vo[32+k*4+3]? = some (.int .i64 0)
 |0,_ | 1,_ | 2,_ | 3,_ | 4,_ | 5,_ | 6,_ | 7,_=>⟨rfl,rfl,rfl,rfl⟩
 |n+8,h=>by omega
theorem Ajb:Fa Vo:=by
 refine⟨rfl,fun k hk=>⟨⟨0,0⟩,?_,?_⟩,fun k hk=>⟨⟨0,0,0,0⟩,?_,?_⟩⟩
 ·constructor<;>decide
 ·obtain⟨h1,h2⟩:=Ahw k hk
  exact⟨h1,h2⟩
 ·constructor<;>decide
 ·obtain⟨h1,h2,h3,h4⟩:=Ajc k hk
  exact⟨h1,h2,h3,h4⟩
theorem Afm (r:Nat) (hr:r<32):Ia.getD r 0=(r:Int):=by
 unfold Ia
 simp [List.getD,List.getElem?_range hr]
theorem Acr (r:Nat) (hr:r<32):(List.replicate 32 true++List.replicate 64 false).getD r false=true:=by
 simp only [List.getD]
 rw [List.getElem?_append_left (by rw [List.length_replicate];exact hr),List.getElem?_replicate,if_pos hr]
 rfl
theorem Aly (phys:Int) (h1:33≤phys) (h2:phys≤96):Dq ((Vi phys).getD Ax.zero)∧((Vi phys).getD Ax.zero).all.length=((Vi phys).getD Ax.zero).phys.toNat∧((Vi phys).getD Ax.zero).regs=Ia:=by
 have e:(Vi phys).getD Ax.zero=⟨phys,Ia,H5 (phys - 32).toNat⟩:=by
  unfold Vi
  rw [if_pos ⟨h1,h2⟩]
  rfl
 rw [e]
 have hm:=Aiv (phys - 32).toNat (by omega) (by omega)
 refine⟨⟨by simp [Ia],?_,rfl⟩,?_,rfl⟩
 ·unfold Ax.may Ax.all
  rw [show((32+(phys - 32).toNat:Nat):Int)=phys by omega] at hm
  exact hm
 ·show(Ia++H5 (phys - 32).toNat).length=phys.toNat
  rw [Ab6]
  simp
  omega
structure Ac4 (window phys wide:Int) (h:Ap) (m:List Int):Prop where
 window:1≤window∧window≤32
 phys:33≤phys∧phys≤96
 wide:1≤wide∧wide≤4
 hart:h.Wf
 may:Im h=true
 bytes:Bytes m
 room:m.length≤4096
theorem Oj {window phys wide:Int} {h:Ap} {m:List Int} (a:Ac4 window phys wide h m) (hs:h.state=0) (script:List Int):Lm (Kh window phys wide h m script) 11:=by
 obtain⟨n1,n2,n3⟩:=Aly phys a.phys.1 a.phys.2
 refine⟨⟨⟨⟨a.window,a.wide.1,a.wide.2⟩,a.hart,a.may,hs,a.bytes,a.room,Ajb,⟨?_,fun x hx=>?_⟩,?_,rfl,List.Pairwise.nil,rfl,⟨_,n1,n2,rfl,fun r hr=>?_⟩,rfl,?_,Int.le_refl _,⟨a.hart.pc0,a.hart.pc1⟩,fun L v R e=>?_⟩,fun hh=>by cases hh⟩,fun u hu=>(by cases hu),by show(0:Int)+11≤11;omega⟩
 ·show(h.regs++List.replicate 64 0).length=96
  rw [List.length_append,a.hart.len]
  simp
 ·rcases List.mem_append.1 hx with hx | hx
  ·exact a.hart.word x hx
  ·rw [List.eq_of_mem_replicate hx];omega
 ·show(List.replicate 32 true++List.replicate 64 false).length=96
  simp
 ·rw [n3,Afm r hr]
  refine⟨Acr r hr,?_⟩
  show(h.regs++List.replicate 64 0).getD ((r:Int)).toNat 0=h.regs.getD r 0
  rw [Int.toNat_natCast]
  simp only [List.getD]
  rw [List.getElem?_append_left (by rw [a.hart.len];exact hr)]
 ·show(0:Int)≤window
  have:=a.window
  omega
 ·have e:[]=L++v::R:=e
  cases L<;>cases e
structure Aa2 (C C':Core) (n:Nat) (k:Nat):Prop where
 run:(C4 k C.hart C.mem).2=(C'.hart,C'.mem)
 commits:C'.commits=C.commits++(C4 k C.hart C.mem).1
 len:(C4 k C.hart C.mem).1.length=k
 few:(k:Int)≤(C'.cycles - C.cycles)*C.wide
 wide:C'.wide=C.wide
 cycles:C.cycles≤C'.cycles∧C'.cycles≤C.cycles+n
 all:C'.cycles<C.cycles+n→C'.hart.state≠0
 taken:C.taken≤C'.taken
 backs:C.backs≤C'.backs
theorem Aa2.refl {n:Nat} (C:Core) (h:C.hart.state≠0∨n=0):Aa2 C C n 0:=
 ⟨rfl,by simp [C4],rfl,by simp,rfl,⟨Int.le_refl _,by omega⟩,fun hh=>by rcases h with h | h;exact h;omega,Int.le_refl _,Int.le_refl _⟩
theorem M9:∀ (n:Nat) (C:Core) (D:Int),Lm C D→D≤12*(C.commits.length:Int)+11→∃ k,Aa2 C (De n C) n k∧(De n C).cycles≤12*((De n C).commits.length:Int)+11
 |0,C,D,h,hd=>⟨0,Aa2.refl C (Or.inr rfl),by have:=Adc h.due;show C.cycles≤12*(C.commits.length:Int)+11;omega⟩
 |n+1,C,D,h,hd=>by
  have hr:=h.good.inv.runs
  have e:De (n+1) C=De n (Cc C):=by
   show(if C.hart.state=0 then De n (Cc C) else C)=_
   rw [if_pos hr]
  rw [e]
  obtain⟨k,hk,hcase⟩:=Ta h
  have hT:=Adc h.due
  have hlen:((Cc C).commits.length:Int)=C.commits.length+k:=by rw [hk.commits,List.length_append,hk.len];omega
  have hw:1≤C.wide:=h.good.inv.cfg.2.1
  have step:∀ k2,Aa2 (Cc C) (De n (Cc C)) n k2→Aa2 C (De n (Cc C)) (n+1) (k+k2):=by
   intro k2 w
   have ea:=Aaf k k2 C.hart C.mem
   have h1:(C4 k C.hart C.mem).2.1=(Cc C).hart:=by rw [hk.run]
   have h2:(C4 k C.hart C.mem).2.2=(Cc C).mem:=by rw [hk.run]
   rw [h1,h2] at ea
   have hc:=hk.cycles
   have wc:=w.cycles
   refine⟨by rw [ea];exact w.run,by rw [ea,w.commits,hk.commits,List.append_assoc],by rw [ea,List.length_append,hk.len,w.len],?_,w.wide.trans hk.wide,⟨by omega,by omega⟩,fun hh=>w.all (by omega),Int.le_trans hk.taken w.taken,Int.le_trans hk.backs w.backs⟩
   have f1:=hk.few
   have f2:=w.few
   rw [hk.wide] at f2
   have:((De n (Cc C)).cycles - C.cycles)*C.wide=((De n (Cc C)).cycles - (Cc C).cycles)*C.wide+C.wide:=by
    rw [show(De n (Cc C)).cycles - C.cycles=((De n (Cc C)).cycles - (Cc C).cycles)+1 by omega,Int.add_mul,Int.one_mul]
   rw [this]
   omega
  rcases hcase with⟨hk0,hst⟩ | ⟨hk0,hb⟩ | ⟨hk0,hb⟩
  ·have e2:De n (Cc C)=Cc C:=by
    cases n with
    |zero=>rfl
    |succ n=>
     show(if (Cc C).hart.state=0 then De n (Cc (Cc C)) else Cc C)=_
     rw [if_neg hst]
   refine⟨k,?_,?_⟩
   ·have:=step 0 (by rw [e2];exact Aa2.refl _ (Or.inl hst))
    simpa using this
   ·rw [e2,hk.cycles,hlen]
    omega
  ·obtain⟨k2,w,q⟩:=M9 n (Cc C) _ hb (by rw [hlen];omega)
   exact⟨k+k2,step k2 w,q⟩
  ·obtain⟨k2,w,q⟩:=M9 n (Cc C) _ hb (by rw [hlen];omega)
   exact⟨k+k2,step k2 w,q⟩
structure Shown (C:Core) (wide:Int) (h:Ap) (m:List Int) (n:Nat):Prop where
 run:C4 C.commits.length h m=(C.commits,C.hart,C.mem)
 few:(C.commits.length:Int)≤C.cycles*wide
 many:C.cycles / 60≤C.commits.length
 cycles:0≤C.cycles∧C.cycles≤n
 all:C.cycles<n→C.hart.state≠0
 taken:0≤C.taken
 backs:0≤C.backs
theorem Afn {window phys wide:Int} {h:Ap} {m:List Int} (a:Ac4 window phys wide h m) (script:List Int) (n:Nat):Shown (Jj window phys wide h m script n) wide h m n:=by
 unfold Jj
 by_cases hs:h.state=0
 ·obtain⟨k,w,q⟩:=M9 n _ 11 (Oj a hs script) (by show(11:Int)≤12*((0:Nat):Int)+11;omega)
  have hc:(De n (Kh window phys wide h m script)).commits=(C4 k h m).1:=by
   have:=w.commits
   exact this
  have hl:(De n (Kh window phys wide h m script)).commits.length=k:=by rw [hc];exact w.len
  have h0:(Kh window phys wide h m script).cycles=0:=rfl
  have hcy:=w.cycles
  have hf:=w.few
  have hall:=w.all
  rw [h0] at hcy hf hall
  rw [hl] at q
  refine⟨?_,?_,?_,by omega,fun hh=>hall (by omega),w.taken,w.backs⟩
  ·rw [hl,hc]
   have:=w.run
   have this:(C4 k h m).2=_:=this
   rw [←this]
  ·rw [hl]
   have:((De n (Kh window phys wide h m script)).cycles - 0)*wide=(De n (Kh window phys wide h m script)).cycles*wide:=by rw [Int.sub_zero]
   rw [←this]
   exact hf
  ·rw [hl]
   omega
 ·have e:De n (Kh window phys wide h m script)=Kh window phys wide h m script:=by
   cases n with
   |zero=>rfl
   |succ n=>
    show(if h.state=0 then _ else Kh window phys wide h m script)=_
    rw [if_neg hs]
  rw [e]
  refine⟨rfl,?_,?_,⟨Int.le_refl _,by show(0:Int)≤n;omega⟩,fun _=>hs,Int.le_refl _,Int.le_refl _⟩
  ·show((0:Nat):Int)≤0*wide
   simp
  ·show(0:Int) / 60≤((0:Nat):Int)
   decide
end Go.Proofs.YtapgojgcmlnbgaaGreatDoor
namespace Go.Proofs.YtapgojgcmlnbgaaGreatDoor
open Go Go.RowKit
def Ks (a b c:Int) (sv:Value) (pc:Int):Array Value:=
 ([Value.int .i64 a,Value.int .i64 b,Value.int .i64 c,Value.slice none 0 0]++List.replicate 32 (Value.int .u32 0)++[Value.int .u32 0,Value.int .i64 0,Value.int .i64 0]++[Value.slice none 0 0,Value.int .i64 0,Value.int .i64 0,Value.int .i64 0,sv] ++
  ((List.replicate 16 [Value.int .i64 0,Value.int .u32 0]).flatten++(List.replicate 8 [Value.int .u32 0,Value.int .u32 0,Value.int .u32 0,Value.int .i64 0]).flatten)++[Value.int .i64 0]++List.replicate 32 (Value.int .i64 0)++[Value.slice none 0 0] ++
  List.replicate 96 (Value.int .u32 0)++List.replicate 96 (Value.bool false)++[Value.slice none 0 0,Value.slice none 0 0,Value.slice none 0 0,Value.int .i64 0,Value.int .u32 pc,Value.bool false]).toArray
def Ol (a b c:Int) (sc:List Int) (pc:Int):Core:=⟨a,b,c,[],⟨List.replicate 32 0,0,0,0⟩,[],0,0,0,sc,Vo,Ax.zero,List.replicate 96 0,List.replicate 96 false,[],[],[],0,pc,false⟩
def Ain (sv:Value):Lay:=⟨.slice none 0 0, .slice none 0 0,sv, .slice none 0 0, .slice none 0 0, .slice none 0 0,none,0⟩
theorem Yr (a b c:Int) (A:Option Addr) (n cap:Nat) (pc:Int):Tryz.prog.built 86 [(0, .agg #[.int .i64 a, .int .i64 b, .int .i64 c]),(2, .slice A n cap),(11, .int .u32 pc)]=some (Ks a b c (.slice A n cap) pc):=by kernel_rfl
theorem Yx (a b c:Int) (sv:Value) (pc:Int):∀ i,i<35→(Ks a b c sv pc)[4+i]? = (Ap.cells ⟨List.replicate 32 0,0,0,0⟩)[i]?
 |0,_=>by kernel_rfl
 |1,_=>by kernel_rfl
 |2,_=>by kernel_rfl
 |3,_=>by kernel_rfl
 |4,_=>by kernel_rfl
 |5,_=>by kernel_rfl
 |6,_=>by kernel_rfl
 |7,_=>by kernel_rfl
 |8,_=>by kernel_rfl
 |9,_=>by kernel_rfl
 |10,_=>by kernel_rfl
 |11,_=>by kernel_rfl
 |12,_=>by kernel_rfl
 |13,_=>by kernel_rfl
 |14,_=>by kernel_rfl
 |15,_=>by kernel_rfl
 |16,_=>by kernel_rfl
 |17,_=>by kernel_rfl
 |18,_=>by kernel_rfl
 |19,_=>by kernel_rfl
 |20,_=>by kernel_rfl
 |21,_=>by kernel_rfl
 |22,_=>by kernel_rfl
 |23,_=>by kernel_rfl
 |24,_=>by kernel_rfl
 |25,_=>by kernel_rfl
 |26,_=>by kernel_rfl
 |27,_=>by kernel_rfl
 |28,_=>by kernel_rfl
 |29,_=>by kernel_rfl
 |30,_=>by kernel_rfl
 |31,_=>by kernel_rfl
 |32,_=>by kernel_rfl
 |33,_=>by kernel_rfl
 |34,_=>by kernel_rfl
 |i+35,h=>by omega
theorem Abe (a b c:Int) (sv:Value) (pc:Int):∀ i,i<64→(Ks a b c sv pc)[44+i]? = Vo[i]?
 |0,_=>by kernel_rfl
 |1,_=>by kernel_rfl
 |2,_=>by kernel_rfl
 |3,_=>by kernel_rfl
 |4,_=>by kernel_rfl
 |5,_=>by kernel_rfl
 |6,_=>by kernel_rfl
 |7,_=>by kernel_rfl
 |8,_=>by kernel_rfl
 |9,_=>by kernel_rfl
 |10,_=>by kernel_rfl
 |11,_=>by kernel_rfl
 |12,_=>by kernel_rfl
 |13,_=>by kernel_rfl
 |14,_=>by kernel_rfl
 |15,_=>by kernel_rfl
 |16,_=>by kernel_rfl
 |17,_=>by kernel_rfl
 |18,_=>by kernel_rfl
 |19,_=>by kernel_rfl
 |20,_=>by kernel_rfl
 |21,_=>by kernel_rfl
 |22,_=>by kernel_rfl
 |23,_=>by kernel_rfl
 |24,_=>by kernel_rfl
 |25,_=>by kernel_rfl
 |26,_=>by kernel_rfl
 |27,_=>by kernel_rfl
 |28,_=>by kernel_rfl
 |29,_=>by kernel_rfl
 |30,_=>by kernel_rfl
 |31,_=>by kernel_rfl
 |32,_=>by kernel_rfl
 |33,_=>by kernel_rfl
 |34,_=>by kernel_rfl
 |35,_=>by kernel_rfl
 |36,_=>by kernel_rfl
 |37,_=>by kernel_rfl
 |38,_=>by kernel_rfl
 |39,_=>by kernel_rfl
 |40,_=>by kernel_rfl
 |41,_=>by kernel_rfl
 |42,_=>by kernel_rfl
 |43,_=>by kernel_rfl
 |44,_=>by kernel_rfl
 |45,_=>by kernel_rfl
 |46,_=>by kernel_rfl
 |47,_=>by kernel_rfl
 |48,_=>by kernel_rfl
 |49,_=>by kernel_rfl
 |50,_=>by kernel_rfl
 |51,_=>by kernel_rfl
 |52,_=>by kernel_rfl
 |53,_=>by kernel_rfl
 |54,_=>by kernel_rfl
 |55,_=>by kernel_rfl
 |56,_=>by kernel_rfl
 |57,_=>by kernel_rfl
 |58,_=>by kernel_rfl
 |59,_=>by kernel_rfl
 |60,_=>by kernel_rfl
 |61,_=>by kernel_rfl
 |62,_=>by kernel_rfl
 |63,_=>by kernel_rfl
 |i+64,h=>by omega
theorem Xb (a b c:Int) (sv:Value) (pc:Int):∀ i,i<34→(Ks a b c sv pc)[108+i]? = (Ag Ax.zero.phys Ax.zero.regs none Ax.zero.free.length 0)[i]?
 |0,_=>by kernel_rfl
 |1,_=>by kernel_rfl
 |2,_=>by kernel_rfl
 |3,_=>by kernel_rfl
 |4,_=>by kernel_rfl
 |5,_=>by kernel_rfl
 |6,_=>by kernel_rfl
 |7,_=>by kernel_rfl
 |8,_=>by kernel_rfl
 |9,_=>by kernel_rfl
 |10,_=>by kernel_rfl
 |11,_=>by kernel_rfl
 |12,_=>by kernel_rfl
 |13,_=>by kernel_rfl
 |14,_=>by kernel_rfl
 |15,_=>by kernel_rfl
 |16,_=>by kernel_rfl
 |17,_=>by kernel_rfl
 |18,_=>by kernel_rfl
 |19,_=>by kernel_rfl
 |20,_=>by kernel_rfl
 |21,_=>by kernel_rfl
 |22,_=>by kernel_rfl
 |23,_=>by kernel_rfl
 |24,_=>by kernel_rfl
 |25,_=>by kernel_rfl
 |26,_=>by kernel_rfl
 |27,_=>by kernel_rfl
 |28,_=>by kernel_rfl
 |29,_=>by kernel_rfl
 |30,_=>by kernel_rfl
 |31,_=>by kernel_rfl
 |32,_=>by kernel_rfl
 |33,_=>by kernel_rfl
 |i+34,h=>by omega
theorem Xd (a b c:Int) (sv:Value) (pc:Int):∀ i,i<96→(Ks a b c sv pc)[142+i]? = some (.int .u32 ((List.replicate 96 (0:Int)).getD i 0))
 |0,_=>by kernel_rfl
 |1,_=>by kernel_rfl
 |2,_=>by kernel_rfl
 |3,_=>by kernel_rfl
 |4,_=>by kernel_rfl
 |5,_=>by kernel_rfl
 |6,_=>by kernel_rfl
 |7,_=>by kernel_rfl
 |8,_=>by kernel_rfl
 |9,_=>by kernel_rfl
 |10,_=>by kernel_rfl
 |11,_=>by kernel_rfl
 |12,_=>by kernel_rfl
 |13,_=>by kernel_rfl
 |14,_=>by kernel_rfl
 |15,_=>by kernel_rfl
 |16,_=>by kernel_rfl
 |17,_=>by kernel_rfl
 |18,_=>by kernel_rfl
 |19,_=>by kernel_rfl
 |20,_=>by kernel_rfl
 |21,_=>by kernel_rfl
 |22,_=>by kernel_rfl
 |23,_=>by kernel_rfl
 |24,_=>by kernel_rfl
 |25,_=>by kernel_rfl
 |26,_=>by kernel_rfl
 |27,_=>by kernel_rfl
 |28,_=>by kernel_rfl
 |29,_=>by kernel_rfl
 |30,_=>by kernel_rfl
 |31,_=>by kernel_rfl
 |32,_=>by kernel_rfl
 |33,_=>by kernel_rfl
 |34,_=>by kernel_rfl
 |35,_=>by kernel_rfl
 |36,_=>by kernel_rfl
 |37,_=>by kernel_rfl
 |38,_=>by kernel_rfl
 |39,_=>by kernel_rfl
 |40,_=>by kernel_rfl
 |41,_=>by kernel_rfl
 |42,_=>by kernel_rfl
 |43,_=>by kernel_rfl
 |44,_=>by kernel_rfl
 |45,_=>by kernel_rfl
 |46,_=>by kernel_rfl
 |47,_=>by kernel_rfl
 |48,_=>by kernel_rfl
 |49,_=>by kernel_rfl
 |50,_=>by kernel_rfl
 |51,_=>by kernel_rfl
 |52,_=>by kernel_rfl
 |53,_=>by kernel_rfl
 |54,_=>by kernel_rfl
 |55,_=>by kernel_rfl
 |56,_=>by kernel_rfl
 |57,_=>by kernel_rfl
 |58,_=>by kernel_rfl
 |59,_=>by kernel_rfl
 |60,_=>by kernel_rfl
 |61,_=>by kernel_rfl
 |62,_=>by kernel_rfl
 |63,_=>by kernel_rfl
 |64,_=>by kernel_rfl
 |65,_=>by kernel_rfl
 |66,_=>by kernel_rfl
 |67,_=>by kernel_rfl
 |68,_=>by kernel_rfl
 |69,_=>by kernel_rfl
 |70,_=>by kernel_rfl
 |71,_=>by kernel_rfl
 |72,_=>by kernel_rfl
 |73,_=>by kernel_rfl
 |74,_=>by kernel_rfl
 |75,_=>by kernel_rfl
 |76,_=>by kernel_rfl
 |77,_=>by kernel_rfl
 |78,_=>by kernel_rfl
 |79,_=>by kernel_rfl
 |80,_=>by kernel_rfl
 |81,_=>by kernel_rfl
 |82,_=>by kernel_rfl
 |83,_=>by kernel_rfl
 |84,_=>by kernel_rfl
 |85,_=>by kernel_rfl
 |86,_=>by kernel_rfl
 |87,_=>by kernel_rfl
 |88,_=>by kernel_rfl
 |89,_=>by kernel_rfl
 |90,_=>by kernel_rfl
 |91,_=>by kernel_rfl
 |92,_=>by kernel_rfl
 |93,_=>by kernel_rfl
 |94,_=>by kernel_rfl
 |95,_=>by kernel_rfl
 |i+96,h=>by omega
theorem Xc (a b c:Int) (sv:Value) (pc:Int):∀ i,i<96→(Ks a b c sv pc)[238+i]? = some (.bool ((List.replicate 96 false).getD i false))
 |0,_=>by kernel_rfl
 |1,_=>by kernel_rfl
 |2,_=>by kernel_rfl
 |3,_=>by kernel_rfl
 |4,_=>by kernel_rfl
 |5,_=>by kernel_rfl
 |6,_=>by kernel_rfl
 |7,_=>by kernel_rfl
 |8,_=>by kernel_rfl
 |9,_=>by kernel_rfl
 |10,_=>by kernel_rfl
 |11,_=>by kernel_rfl
 |12,_=>by kernel_rfl
 |13,_=>by kernel_rfl
 |14,_=>by kernel_rfl
 |15,_=>by kernel_rfl
 |16,_=>by kernel_rfl
 |17,_=>by kernel_rfl
 |18,_=>by kernel_rfl
 |19,_=>by kernel_rfl
 |20,_=>by kernel_rfl
 |21,_=>by kernel_rfl
 |22,_=>by kernel_rfl
 |23,_=>by kernel_rfl
 |24,_=>by kernel_rfl
 |25,_=>by kernel_rfl
 |26,_=>by kernel_rfl
 |27,_=>by kernel_rfl
 |28,_=>by kernel_rfl
 |29,_=>by kernel_rfl
 |30,_=>by kernel_rfl
 |31,_=>by kernel_rfl
 |32,_=>by kernel_rfl
 |33,_=>by kernel_rfl
 |34,_=>by kernel_rfl
 |35,_=>by kernel_rfl
 |36,_=>by kernel_rfl
 |37,_=>by kernel_rfl
 |38,_=>by kernel_rfl
 |39,_=>by kernel_rfl
 |40,_=>by kernel_rfl
 |41,_=>by kernel_rfl
 |42,_=>by kernel_rfl
 |43,_=>by kernel_rfl
 |44,_=>by kernel_rfl
 |45,_=>by kernel_rfl
 |46,_=>by kernel_rfl
 |47,_=>by kernel_rfl
 |48,_=>by kernel_rfl
 |49,_=>by kernel_rfl
 |50,_=>by kernel_rfl
 |51,_=>by kernel_rfl
 |52,_=>by kernel_rfl
 |53,_=>by kernel_rfl
 |54,_=>by kernel_rfl
 |55,_=>by kernel_rfl
 |56,_=>by kernel_rfl
 |57,_=>by kernel_rfl
 |58,_=>by kernel_rfl
 |59,_=>by kernel_rfl
 |60,_=>by kernel_rfl
 |61,_=>by kernel_rfl
 |62,_=>by kernel_rfl
 |63,_=>by kernel_rfl
 |64,_=>by kernel_rfl
 |65,_=>by kernel_rfl
 |66,_=>by kernel_rfl
 |67,_=>by kernel_rfl
 |68,_=>by kernel_rfl
 |69,_=>by kernel_rfl
 |70,_=>by kernel_rfl
 |71,_=>by kernel_rfl
 |72,_=>by kernel_rfl
 |73,_=>by kernel_rfl
 |74,_=>by kernel_rfl
 |75,_=>by kernel_rfl
 |76,_=>by kernel_rfl
 |77,_=>by kernel_rfl
 |78,_=>by kernel_rfl
 |79,_=>by kernel_rfl
 |80,_=>by kernel_rfl
 |81,_=>by kernel_rfl
 |82,_=>by kernel_rfl
 |83,_=>by kernel_rfl
 |84,_=>by kernel_rfl
 |85,_=>by kernel_rfl
 |86,_=>by kernel_rfl
 |87,_=>by kernel_rfl
 |88,_=>by kernel_rfl
 |89,_=>by kernel_rfl
 |90,_=>by kernel_rfl
 |91,_=>by kernel_rfl
 |92,_=>by kernel_rfl
 |93,_=>by kernel_rfl
 |94,_=>by kernel_rfl
 |95,_=>by kernel_rfl
 |i+96,h=>by omega
theorem Xa (a b c:Int) (sv:Value) (sc:List Int) (pc:Int):Ak (Ks a b c sv pc) (Ol a b c sc pc) (Ain sv):=
 ⟨by kernel_rfl,by kernel_rfl,by kernel_rfl,by kernel_rfl,by kernel_rfl,by kernel_rfl,by kernel_rfl,by kernel_rfl,by kernel_rfl,by kernel_rfl,by kernel_rfl,by kernel_rfl,by kernel_rfl,by kernel_rfl,by kernel_rfl,by kernel_rfl,
  Yx a b c sv pc,Abe a b c sv pc,Xb a b c sv pc,Xd a b c sv pc,Xc a b c sv pc⟩
theorem Ak.set_mem {cs:Array Value} {C:Core} {L:Lay} (h:Ak cs C L) (v:Value) (l:List Int):Ak (cs.setIfInBounds 39 (v)) { C with mem:=l } { L with mem:=v }:=
 ⟨(by simp [h.size]),(by rw [Aa h.size,if_neg (by omega)];exact h.window),(by rw [Aa h.size,if_neg (by omega)];exact h.phys),(by rw [Aa h.size,if_neg (by omega)];exact h.wide),(by rw [Aa h.size,if_neg (by omega)];exact h.commits),(by rw [Aa h.size,if_pos ⟨rfl,by omega⟩]),(by rw [Aa h.size,if_neg (by omega)];exact h.cycles),(by rw [Aa h.size,if_neg (by omega)];exact h.taken),(by rw [Aa h.size,if_neg (by omega)];exact h.backs),(by rw [Aa h.size,if_neg (by omega)];exact h.script),(by rw [Aa h.size,if_neg (by omega)];exact h.slots),(by rw [Aa h.size,if_neg (by omega)];exact h.ops),(by rw [Aa h.size,if_neg (by omega)];exact h.access),(by rw [Aa h.size,if_neg (by omega)];exact h.seq),(by rw [Aa h.size,if_neg (by omega)];exact h.pc),(by rw [Aa h.size,if_neg (by omega)];exact h.still),(fun i hi=>by rw [Aa h.size,if_neg (by omega)];exact h.hart i hi),(fun i hi=>by rw [Aa h.size,if_neg (by omega)];exact h.tab i hi),(fun i hi=>by rw [Aa h.size,if_neg (by omega)];exact h.names i hi),(fun i hi=>by rw [Aa h.size,if_neg (by omega)];exact h.words i hi),(fun i hi=>by rw [Aa h.size,if_neg (by omega)];exact h.there i hi)⟩
def Cr (vc:Value) (H:Ap) (vm:Value) (cy tk bk:Int):Array Value:=(vc::(H.cells.toList++[vm, .int .i64 cy, .int .i64 tk, .int .i64 bk])).toArray
theorem Mh (vc:Value) {H:Ap} (hl:H.regs.length=32) (vm:Value) (cy tk bk:Int):(Cr vc H vm cy tk bk).size=40:=by
 unfold Cr
 have:=Ap.cells_size hl
 simp [this]
theorem Ak.shownX {cs:Array Value} {C:Core} {L:Lay} (h:Ak cs C L) (hl:C.hart.regs.length=32):cs.extract 3 (3+40)=Cr L.commits C.hart L.mem C.cycles C.taken C.backs:=by
 apply Array.ext_getElem?
 intro i
 have hz:=Ap.cells_size hl
 rw [Array.getElem?_extract]
 have es:(Cr L.commits C.hart L.mem C.cycles C.taken C.backs)[i]? = (L.commits::(C.hart.cells.toList++[L.mem, .int .i64 C.cycles, .int .i64 C.taken, .int .i64 C.backs]))[i]? := by
  unfold Cr
  simp
 rw [es]
 clear es
 by_cases hi:i<40
 ·rw [if_pos (by rw [h.size];omega)]
  match i,hi with
  |0,_=>exact h.commits
  |i+1,hi=>
   rw [List.getElem?_cons_succ]
   by_cases h35:i<35
   ·rw [List.getElem?_append_left (by simpa [hz] using h35),show 3+(i+1)=4+i by omega,h.hart i h35]
    simp
   ·rw [List.getElem?_append_right (by simp [hz];omega)]
    have e:C.hart.cells.toList.length=35:=by simp [hz]
    rw [e]
    obtain rfl | rfl | rfl | rfl:i=35∨i=36∨i=37∨i=38:=by omega
    ·exact h.mem
    ·exact h.cycles
    ·exact h.taken
    ·exact h.backs
 ·rw [if_neg (by omega),List.getElem?_eq_none (by simp [hz];omega)]
theorem Sb (vc:Value) {H:Ap} (hl:H.regs.length=32) (vm:Value) (cy tk bk:Int):(Cr vc H vm cy tk bk).extract 1 (1+35)=H.cells:=by
 have hs:H.cells.toList.length=35:=by rw [Mp];simp [hl]
 apply Array.toList_inj.1
 unfold Cr
 rw [Array.toList_extract]
 simp only [List.extract_eq_take_drop]
 have:(vc::(H.cells.toList++[vm, .int .i64 cy, .int .i64 tk, .int .i64 bk])).drop 1=H.cells.toList++[vm, .int .i64 cy, .int .i64 tk, .int .i64 bk]:=rfl
 rw [this]
 exact List.take_left' hs
structure K5 (x:List Com×Ap×Int):Prop where
 many:x.1.length≤1000000
 coms:∀ c∈x.1,c.Wf
 hart:x.2.1.Wf
 state:0≤x.2.1.state∧x.2.1.state≤1000
 cause:0≤x.2.1.cause∧x.2.1.cause≤1000
 err:0≤x.2.2∧x.2.2≤1000
theorem Sv {B:Nat} (A:Option Addr) (x:List Com×Ap×Int) (cap:Nat) (w:World) (V:F5 B w) (hB:B≤w.heap.size) (hx:K5 x) (hA:El w w.heap.size A x.1) :
  Calls Tryz.prog 31 #[.slice A x.1.length cap, .agg x.2.1.cells, .int .i64 x.2.2] w fun r w'=>r = .returned (sV (Kp x.1 x.2.1 x.2.2))∧Below w.heap.size w w':=by
 obtain⟨L,H,e⟩:=x
 have h1:=hx.err
 dsimp only at h1 hA ⊢
 unfold Kp
 by_cases h0:e=0
 ·subst h0
  rw [if_neg (by simp)]
  exact Aje A L cap H w V hB hx.many hx.coms hx.hart hx.state hx.cause hA
 ·rw [if_pos h0]
  exact Ahy A L.length cap H.cells e w V hB (by omega) h1.2
theorem Aav {x:List Com×Ap×Int} (hx:K5 x):(Kp x.1 x.2.1 x.2.2).length≤21002000:=by
 obtain⟨L,H,e⟩:=x
 have h1:=hx.err
 have h2:=hx.many
 have h3:=hx.state
 have h4:=hx.cause
 have h5:=hx.hart.pc0
 have h6:=hx.hart.pc1
 have h7:=hx.coms
 dsimp only at h1 h2 h3 h4 h5 h6 h7 ⊢
 unfold Kp
 split
 ·have:=(J1 [e] Ad0 (by simp;omega)).2
  have hb:Ad0.length=3:=rfl
  simp only [List.length_cons,List.length_nil] at this
  omega
 ·have k1:=Wn L (D9 (Lib.decDigits L.length) [H.state,H.cause,H.pc]) h7
  have k2:=(J1 [H.state,H.cause,H.pc] (Lib.decDigits L.length) (by simp;omega)).2
  have k3:=G9 L.length (by omega)
  rw [←Lib.decDigits_length] at k3
  simp only [List.length_cons,List.length_nil] at k2
  have k4:((L.length:Int)).toNat=L.length:=by simp
  omega
def Yh (w:World) (x:List Com×Ap×Int) (e:Ending) (w':World):Prop:=
 Below w.heap.size w w'∧∃ AL cL A2 n2 c2,e = .returned (.tuple #[.slice AL x.1.length cL, .agg x.2.1.cells, .slice A2 n2 c2, .int .i64 x.2.2])∧w'.ownsRow w.heap.size 65 11 (.slice AL x.1.length cL) x.1.length (Eb x.1)
def Yf (w:World) (x:List Com×Ap×Int) (e:Ending) (w':World):Prop:=
 Below w.heap.size w w'∧∃ AL cL A2 n2 c2 cy tk bk T,T=Cr (.slice AL x.1.length cL) x.2.1 (.slice A2 n2 c2) cy tk bk∧e = .returned (.tuple #[.agg T, .int .i64 x.2.2])∧w'.ownsRow w.heap.size 65 11 (.slice AL x.1.length cL) x.1.length (Eb x.1)
structure Adt (M R:Plr→Int→List Com×Ap×Int):Prop where
 tellM:∀ {p:Plr},Em p→∀ n,K5 (M p n)
 tellR:∀ {p:Plr},Em p→∀ n,K5 (R p n)
 callM:∀ {p:Plr},Em p→∀ (n:Int),0≤n→n≤4294967295→∀ {base:Nat} (A:Option Addr) (cap:Nat) (w:World),w.ownsRow base 5 1 (.slice A p.mem.length cap) p.mem.length (p.mem.map (.int .u8)) →
  Calls Tryz.prog 11 #[.agg p.hart.cells, .slice A p.mem.length cap, .int .i64 n] w (Yh w (M p n))
 callR:∀ {p:Plr},Em p→∀ (n:Int),0≤n→n≤4294967295→∀ {base:Nat} (A:Option Addr) (cap:Nat) (A2:Option Addr) (cap2:Nat) (w:World),w.ownsRow base 5 1 (.slice A p.mem.length cap) p.mem.length (p.mem.map (.int .u8)) →
  w.ownsRow base 3 1 (.slice A2 p.choices.length cap2) p.choices.length (p.choices.map (.int .i64)) →
  Calls Tryz.prog 13 #[.agg #[.int .i64 p.window, .int .i64 p.phys, .int .i64 p.wide], .agg p.hart.cells, .slice A p.mem.length cap, .slice A2 p.choices.length cap2, .int .i64 n] w (Yf w (R p n))
def Ait (a b c:Int):Bool:=decide (1≤a)&&decide (a≤32)&&decide (33≤b)&&decide (b≤96)&&decide (1≤c)&&decide (c≤4)
def Hg (a b c:Int) (h:Ap) (m k:Nat) (cycles:Int):Int:=
 if Ait a b c=false∨Im h=false∨4096<m then 2 else if 3000<k then 1 else if cycles<0∨6000<cycles then 3 else 0
def Mg:Array Value:=Cr (.slice none 0 0) E7 (.slice none 0 0) 0 0 0
theorem Yu {a b c:Int}:(Tryz.prog.info? 26).map (·.size)=some (#[.int .i64 a, .int .i64 b, .int .i64 c]:Array Value).size:=by kernel_rfl
theorem Ir {cs:Array Value} (hz:cs.size=40):(Tryz.prog.info? 49).map (·.size)=some cs.size:=by rw [hz];kernel_rfl
theorem Sa:Mg.size=40:=rfl
theorem Aci:Mg.all (·.oneCell')=true:=by kernel_rfl
theorem W7:Tryz.prog.built 49 []=some Mg:=by kernel_rfl
theorem Ph {w:World} {g:Nat} {cs:Array Value} (hz:cs.size=40) (hB:Blk w g 49 cs):(loadVar 49 ⟨g,0,none⟩).run Tryz.prog w = .ok (.agg cs) w:=by
 rw [Ew w g 0 49 49 cs cs.size _ hB Tryz.underlying49 rfl (Ir hz) (by omega),I0 _ _ rfl]
theorem O0 {P:Program} {ops:Array Oper} {Q:Exit→Act→World→Prop} {a:Act} {w:World} {rest:List Oper} {o:Oper} (hw:Region.wanted o (yielded ops a.tmps)=true)
  (h:∀ K:Act→World→Prop,(∀ a w,wpList P ops Q rest a w→K a w)→o.wp P a w K Q):wpList P ops Q (o::rest) a w:=by
 unfold wpList
 rw [if_pos hw]
 exact Or.inl (h _ fun _ _ h=>h)
theorem Ai8 (a b c:Int) (h:Ap) (A:Option Addr) (cap:Nat) (m:Nat) (A2:Option Addr) (cap2:Nat) (k:Nat) (cycles:Int) (w:World) (hh:h.regs.length=32) (hl:m≤140737488351232) (hl2:k≤4611686018427387904) (s0 : -9223372036854775808≤cycles) (s1:cycles≤9223372036854775807) (hno:Hg a b c h m k cycles≠0) :
  Calls Tryz.prog 13 #[.agg #[.int .i64 a, .int .i64 b, .int .i64 c], .agg h.cells, .slice A m cap, .slice A2 k cap2, .int .i64 cycles] w fun e w'=>e = .returned (.tuple #[.agg Mg, .int .i64 (Hg a b c h m k cycles)])∧Below w.heap.size w w':=by
 have CC:=Lib.hid (fun W=>M7 a b c W)
 have CM:=Lib.hid (fun W=>Qa h W hh)
 obtain⟨X,hx⟩:∃ X,Hg a b c h m k cycles=X:=⟨_,rfl⟩
 rw [hx] at hno ⊢
 unfold Hg Ait at hx
 generalize (decide (1≤a)&&decide (a≤32)&&decide (33≤b)&&decide (b≤96)&&decide (1≤c)&&decide (c≤4))=mc at *
 rcases mc with _ | _
 focus
  obtain rfl:X=2:=by rw [←hx,if_pos (Or.inl rfl)]
  clear hx hno
 rotate_left 1
 rcases hm:Im h with _ | _
 focus
  rw [hm] at CM hx
  obtain rfl:X=2:=by rw [←hx,if_pos (Or.inr (Or.inl rfl))]
  clear hx hno hm
 rotate_left 1
 rw [hm] at CM hx
 by_cases hN:4096<m
 focus
  obtain rfl:X=2:=by rw [←hx,if_pos (Or.inr (Or.inr hN))]
  have f1:decide ((4096:Int)<(m:Int))=true:=decide_eq_true (by omega)
  clear hx hno hm hN
 rotate_left 1
 rw [if_neg (by simp;omega)] at hx
 have f1:decide ((4096:Int)<(m:Int))=false:=decide_eq_false (by omega)
 by_cases hK:3000<k
 focus
  obtain rfl:X=1:=by rw [←hx,if_pos hK]
  have f2:decide ((3000:Int)<(k:Int))=true:=decide_eq_true (by omega)
  clear hx hno hm hK
 rotate_left 1
 rw [if_neg hK] at hx
 have f2:decide ((3000:Int)<(k:Int))=false:=decide_eq_false (by omega)
 by_cases hs:cycles<0
 focus
  obtain rfl:X=3:=by rw [←hx,if_pos (Or.inl hs)]
  have f3:decide (cycles<0)=true:=decide_eq_true hs
  clear hx hno hm hs hN hK
 rotate_left 1
 by_cases hs2:6000<cycles
 focus
  obtain rfl:X=3:=by rw [←hx,if_pos (Or.inr hs2)]
  have f3:decide (cycles<0)=false:=decide_eq_false hs
  have f4:decide (6000<cycles)=true:=decide_eq_true hs2
  clear hx hno hm hs hs2 hN hK
 rotate_left 1
 exact absurd (by rw [←hx,if_neg (by omega)]) hno
 all_goals
  go_enter Tryz.func13,Tryz.ntmps13
  go_upto_region 1 with(fail)
  go_simp
  refine A4 fun wa hq=>?_
  have hC:Blk wa w.heap.size 26 #[.int .i64 a, .int .i64 b, .int .i64 c]:=by rw [hq];exact((Blk.new w _ _).alloc _).alloc _
  have hH:Blk wa (w.heap.size+1) 30 h.cells:=by rw [hq];exact(Blk.newAt (w.alloc _) 30 _ (by simp)).alloc _
  have hR:Blk wa (w.heap.size+2) 49 Mg:=by rw [hq];exact Blk.newAt ((w.alloc _).alloc _) 49 _ (by simp)
  have hbl:Below w.heap.size w wa:=by rw [hq];exact(((Below.refl _ _).alloc (Nat.le_refl _) _).alloc (by simp) _).alloc (by simp;omega) _
  clear hq
  go_wp2_with(first
   |(refine Ac rfl 26 _ rfl w.heap.size rfl 26 _ _ hC Tryz.underlying26 rfl Yu ?_)
   |(go_at_call 10;(with_reducible refine(CC.out _).mono ?_);rintro e w1 ⟨rfl,hb1⟩;replace hbl:=hbl.trans (hb1.mono hbl.size);replace hR:=hR.ext hb1;replace hH:=hH.ext hb1;clear hb1)
   |(refine O0 rfl fun K hK=>?_;refine Ez 30 _ rfl (w.heap.size+1) rfl 30 _ _ hH Tryz.underlying30 rfl (Cl hh) ?_;refine hK _ _ ?_)
   |(go_at_call 18;(with_reducible refine(CM.out _).mono ?_);rintro e w2 ⟨rfl,hb2⟩;replace hbl:=hbl.trans (hb2.mono hbl.size);replace hR:=hR.ext hb2;clear hb2)
   |(refine Ao rfl 49 _ rfl [] rfl _ W7 ?_)
   |(refine Ae rfl 49 _ _ rfl (w.heap.size+2) Mg rfl rfl 49 _ hR (Ir Sa) rfl Aci ?_;intro w6 hB6 hg6))
  refine bodyPost_ret (D8 rfl rfl rfl (Ph Sa hB6)) rfl ?_
  exact⟨rfl,below_grown hbl hg6 hbl.size (by omega)⟩
end Go.Proofs.YtapgojgcmlnbgaaGreatDoor
namespace Go.Proofs.YtapgojgcmlnbgaaGreatDoor
open Go
structure UF (u:Uop):Prop where
 a:0≤u.a∧u.a<96
 b:0≤u.b∧u.b<96
 dest:0≤u.dest∧u.dest<96
 old:0<u.dest→0≤u.old∧u.old<96
 rd:0≤u.ins.rd∧u.ins.rd≤31
 rs1:0≤u.ins.rs1∧u.ins.rs1≤31
 rs2:0≤u.ins.rs2∧u.ins.rs2≤31
 pc:0≤u.pc∧u.pc≤4294967295
 next:0≤u.next∧u.next≤4294967295
 seq:0≤u.seq
 com:u.state=2→u.commit.Wf
theorem Aiz {N:Ax} (hg:Dq N) {u:Uop} (h:NOk N u) (hd:0<u.dest):0≤u.old∧u.old<96:=by
 have:=h.dst hd
 rw [this.2.2.2]
 exact hg.reg_range (by omega)
theorem Inv.uf {C:Core} (h:Inv C):∀ u∈C.ops,UF u:=by
 intro u hu
 obtain⟨L,R,e⟩:=List.append_of_mem hu
 obtain⟨N,hgN,_,hcN,_⟩:=h.names
 have hO:=h.ops L u R e
 rw [e] at hcN
 obtain⟨K,_,hK,hNk,_⟩:=F7 hcN hgN rfl
 obtain⟨q1,q2,q3⟩:=J7 hcN hgN hO
 have hins:(0≤u.ins.rd∧u.ins.rd≤31)∧(0≤u.ins.rs1∧u.ins.rs1≤31)∧0≤u.ins.rs2∧u.ins.rs2≤31:=by
  by_cases hc:u.cause=0
  ·exact(H6 (Inv.insOk hO hc)).2
  ·have hf:=hO.fetch
   rcases Ko (known L) C.mem u.seq u.pc with⟨h1,_⟩ | ⟨_,h2⟩
   ·rw [←hf] at h1;exact absurd h1 hc
   ·rw [←hf] at h2
    have h2:u.ins=Fx:=h2
    rw [h2]
    decide
 refine⟨q1,q2,q3,Aiz hK hNk,hins.1,hins.2.1,hins.2.2,hO.pc,hO.next,hO.seq.1,fun hs=>?_⟩
 by_cases hc:u.cause=0
 ·rw [hO.com hc hs]
  exact P0 h hins.1 hO.pc
 ·rw [(hO.fault hc).2.1]
  have:=hO.cause
  exact J4 hO.pc (by omega)
theorem Qc (op:Int):0≤loadBytes op∧loadBytes op≤4:=by
 unfold loadBytes
 generalize (op - 11).toNat=k
 match k with
 |0=>decide
 |1=>decide
 |2=>decide
 |3=>decide
 |4=>decide
 |k+5=>simp [List.getD]
theorem acc_wf {words:List Int} {u:Uop} (h:UF u) (hs:u.seq≤9223372036854775807):(Be words u).Wf:=by
 have hz:=h.seq
 unfold Be
 split
 ·rename_i hk
  have h2:u.state=2:=by unfold A1 at hk;simp at hk;exact hk.1.2
  have hw:=h.com h2
  have hm:=hw.many
  unfold G5
  exact⟨hw.at_.1,hw.at_.2,hw.data.1,hw.data.2,by show -9223372036854775808≤u.seq;omega,hs,by show -9223372036854775808≤u.commit.many;omega,by show u.commit.many≤9223372036854775807;omega⟩
 ·split
  ·have hm:=Qc u.ins.op
   have hb:=Dc (Ux words u.a+u.ins.imm)
   exact⟨hb.1,hb.2,Int.le_refl 0,(by show(0:Int)≤4294967295;omega),by show -9223372036854775808≤u.seq;omega,hs,by show -9223372036854775808≤loadBytes u.ins.op;omega,by show loadBytes u.ins.op≤9223372036854775807;omega⟩
  ·exact⟨Int.le_refl 0,(by show(0:Int)≤4294967295;omega),Int.le_refl 0,(by show(0:Int)≤4294967295;omega),by show -9223372036854775808≤u.seq;omega,hs,(by show(-9223372036854775808:Int)≤0;omega),(by show(0:Int)≤9223372036854775807;omega)⟩
theorem Bp.free_len {M:Ax}:∀ {L:List Uop} {N:Ax},Bp N L M→M.free.length≤N.free.length
 |[],_,h=>by cases h;exact Nat.le_refl _
 |u::L,N,h=>by
  have:=Bp.free_len h.2
  have h2:(Dm N u).free.length≤N.free.length:=by
   unfold Dm
   split
   ·simp
   ·exact Nat.le_refl _
  omega
theorem Inv.free_len {C:Core} (h:Inv C):C.names.free.length≤64:=by
 obtain⟨N,hg,hl,hc,_⟩:=h.names
 have h1:=hc.free_len
 have h2:=hg.phys
 have h3:=hg.len
 unfold Ax.all at hl
 rw [List.length_append,h3] at hl
 omega
theorem Tl {α β:Type} (p:α→Bool) (f:α→β) (l:List α):((l.filter p).map f).length≤l.length:=by
 rw [List.length_map]
 exact List.length_filter_le _ _
theorem Inv.lens {C:Core} (h:Inv C):C.ops.length≤32∧C.slots.length≤32∧C.access.length≤32:=by
 have h1:=h.len
 have h2:=h.cfg.1
 refine⟨by omega,by rw [h.slots,List.length_map];omega,?_⟩
 rw [h.access]
 have:=Tl Bc (Be C.words) C.ops
 omega
theorem Inv.acc_wf {C:Core} (h:Inv C) (hs:C.seq≤9223372036854775807):∀ a∈C.access,a.Wf:=by
 intro a ha
 rw [h.access] at ha
 obtain⟨u,hu,rfl⟩:=List.mem_map.1 ha
 have hu:=(List.mem_filter.1 hu).1
 refine Go.Proofs.YtapgojgcmlnbgaaGreatDoor.acc_wf (h.uf u hu) ?_
 obtain⟨L,R,e⟩:=List.append_of_mem hu
 have:=(h.ops L u R e).seq
 omega
theorem Ael {C:Core} (hs:C.slots=C.ops.map Bz) (seq:Int):∀ s∈La C.slots seq,∃ k:Nat,I6 C.ops s=(k:Int)∧k<C.ops.length:=by
 intro s hm
 unfold La at hm
 rw [List.mem_reverse,List.mem_map] at hm
 obtain⟨x,hx,rfl⟩:=hm
 have hx:=(List.mem_filter.1 hx).1
 rw [hs] at hx
 obtain⟨u,hu,rfl⟩:=List.mem_map.1 hx
 rcases E5 (fun v:Uop=>decide (v.seq=u.seq)) C.ops 0 with⟨h1,h2⟩ | ⟨i,x,h1,h2,_⟩
 ·have:=h2 u hu
  simp at this
 ·exact⟨i,by
   show Cz (fun v:Uop=>decide (v.seq=u.seq)) C.ops ((0:Nat):Int)=_
   rw [h1,Nat.zero_add],(List.getElem?_eq_some_iff.1 h2).1⟩
theorem Agm {ops:List Uop} {s:Int} (h:∃ u∈ops,u.seq=s):∃ k:Nat,I6 ops s=(k:Int)∧k<ops.length:=by
 obtain⟨u,hu,rfl⟩:=h
 rcases E5 (fun v:Uop=>decide (v.seq=u.seq)) ops 0 with⟨h1,h2⟩ | ⟨i,x,h1,h2,_⟩
 ·have:=h2 u hu
  simp at this
 ·exact⟨i,by
   show Cz (fun v:Uop=>decide (v.seq=u.seq)) ops ((0:Nat):Int)=_
   rw [h1,Nat.zero_add],(List.getElem?_eq_some_iff.1 h2).1⟩
theorem Nw {l:List Acc} {s:Int} (h:∃ a∈l,a.seq=s):∃ k:Nat,Jf l s=(k:Int)∧k<l.length:=by
 obtain⟨u,hu,rfl⟩:=h
 rcases E5 (fun v:Acc=>decide (v.seq=u.seq)) l 0 with⟨h1,h2⟩ | ⟨i,x,h1,h2,_⟩
 ·have:=h2 u hu
  simp at this
 ·exact⟨i,by
   show Cz (fun v:Acc=>decide (v.seq=u.seq)) l ((0:Nat):Int)=_
   rw [h1,Nat.zero_add],(List.getElem?_eq_some_iff.1 h2).1⟩
theorem Sf (l:List Acc) (seq:Int):∀ (r:List Acc),(If l seq r).2=true→∃ a∈l,a.seq=(If l seq r).1
 |[],h=>by cases h
 |s::r,h=>by
  unfold If at h ⊢
  split at h
  ·rename_i hs
   rw [if_pos hs]
   rw [Af7] at h ⊢
   rcases(Nh (Sd s) (·.seq) l (0,false)).1 h with⟨h1,_⟩ | ⟨a,ha,_,h2⟩
   ·cases h1
   ·exact⟨a,ha,h2.symm⟩
  ·rename_i hs
   rw [if_neg hs]
   exact Sf l seq r h
theorem Ze {ops:List Uop} {acc:List Acc} (hacc:∀ a∈acc,∃ u∈ops,u.seq=a.seq) (seq at_ many:Int) (h:(ops.foldl (Dl seq at_ many) (Iv acc seq)).2=true) :
  ∃ k:Nat,I6 ops (ops.foldl (Dl seq at_ many) (Iv acc seq)).1=(k:Int)∧k<ops.length:=by
 rw [V8] at h ⊢
 refine Agm ?_
 rcases(Nh (Aay seq at_ many) (·.seq) ops (Iv acc seq)).1 h with⟨h1,h2⟩ | ⟨u,hu,_,h2⟩
 ·obtain⟨a,ha,e⟩:=Sf acc seq acc h1
  obtain⟨u,hu,e2⟩:=hacc a ha
  exact⟨u,hu,by rw [h2,e2,e];rfl⟩
 ·exact⟨u,hu,h2.symm⟩
theorem Ac5 {ops:List Uop} {g:Uop→Acc} (hg:∀ v,(g v).seq=v.seq):∀ a∈(ops.filter Bc).map g,∃ u∈ops,u.seq=a.seq:=by
 intro a ha
 obtain⟨u,hu,rfl⟩:=List.mem_map.1 ha
 exact⟨u,(List.mem_filter.1 hu).1,(hg u).symm⟩
theorem Sq {ops:List Uop} {g:Uop→Acc} (hg:∀ v,(g v).seq=v.seq) {u:Uop} (hu:u∈ops) (hm:Bc u=true):∃ a∈(ops.filter Bc).map g,a.seq=u.seq:=
 ⟨g u,List.mem_map.2 ⟨u,List.mem_filter.2 ⟨hu,hm⟩,rfl⟩,hg u⟩
structure Bd (C:Core) (N:Int):Prop where
 seq:0≤C.seq∧C.seq≤N
 taken:0≤C.taken∧C.taken≤N
 backs:0≤C.backs∧C.backs≤N
 coms:(C.commits.length:Int)≤N
 cycles:0≤C.cycles∧C.cycles≤N
theorem Bd.mono {C:Core} {N M:Int} (h:Bd C N) (hm:N≤M):Bd C M:=
 ⟨⟨h.seq.1,by have:=h.seq.2;omega⟩,⟨h.taken.1,by have:=h.taken.2;omega⟩,⟨h.backs.1,by have:=h.backs.2;omega⟩,by have:=h.coms;omega,⟨h.cycles.1,by have:=h.cycles.2;omega⟩⟩
structure Cn (C C':Core):Prop where
 seq:C'.seq=C.seq
 taken:C'.taken=C.taken
 backs:C'.backs=C.backs
 coms:C'.commits=C.commits
 cycles:C'.cycles=C.cycles
theorem Bd.same {C C':Core} {N:Int} (h:Bd C N) (k:Cn C C'):Bd C' N:=
 ⟨by rw [k.seq];exact h.seq,by rw [k.taken];exact h.taken,by rw [k.backs];exact h.backs,by rw [k.coms];exact h.coms,by rw [k.cycles];exact h.cycles⟩
theorem Bd.back {C:Core} {N:Int} (h:Bd C N) (s pc:Int):Bd (Fz C s pc) (N+1):=
 ⟨⟨h.seq.1,by have:=h.seq.2;show C.seq≤N+1;omega⟩,⟨h.taken.1,by have:=h.taken.2;show C.taken≤N+1;omega⟩,by have:=h.backs;show 0≤C.backs+1∧C.backs+1≤N+1;omega,by have:=h.coms;show(C.commits.length:Int)≤N+1;omega,⟨h.cycles.1,by have:=h.cycles.2;show C.cycles≤N+1;omega⟩⟩
theorem Bd.stored {C:Core} {N:Int} (h:Bd C N) (k:Nat):Bd (E9 C k) (N+1):=by
 unfold E9
 dsimp only
 split
 ·refine Bd.back ?_ _ _
  exact h.same ⟨rfl,rfl,rfl,rfl,rfl⟩
 ·refine Bd.mono (N:=N) ?_ (by omega)
  exact h.same ⟨rfl,rfl,rfl,rfl,rfl⟩
theorem Wp (C:Core) (d x:Int):Cn C (Dk C d x):=by
 unfold Dk
 split<;>exact⟨rfl,rfl,rfl,rfl,rfl⟩
theorem Cn.trans {A B C:Core} (h:Cn A B) (k:Cn B C):Cn A C:=
 ⟨k.seq.trans h.seq,k.taken.trans h.taken,k.backs.trans h.backs,k.coms.trans h.coms,k.cycles.trans h.cycles⟩
theorem Bd.complete {C:Core} {N:Int} (h:Bd C N) (k:Nat):Bd (B3 C k) (N+2):=by
 unfold B3
 dsimp only
 generalize (if Bo (C.op k).ins=true then Mq C (C.op k) else (Ck (C.op k).ins (Ed C (C.op k)) C.mem,C.access))=l
 have h1:Cn C { C with access:=l.2 }:=⟨rfl,rfl,rfl,rfl,rfl⟩
 have h2:=h1.trans (Wp { C with access:=l.2 } (C.op k).dest l.1.value)
 generalize Dk { C with access:=l.2 } (C.op k).dest l.1.value=c1 at *
 have h3:Cn C (Ep { c1 with ops:=C.ops.set k { C.op k with commit:=l.1 } } k):=h2.trans ⟨rfl,rfl,rfl,rfl,rfl⟩
 generalize Ep { c1 with ops:=C.ops.set k { C.op k with commit:=l.1 } } k=c2 at *
 have hb:=h.same h3
 split
 ·refine Bd.mono (N:=N+1) ?_ (by omega)
  have:=hb.back ((C.op k).seq+1) (C.op k).pc
  exact this.same ⟨rfl,rfl,rfl,rfl,rfl⟩
 ·have hc:Bd (if (((C.op k).guessed&&decide (C.word (C.op k).dest≠l.1.value)) || decide (l.1.next≠(C.op k).next))=true then Fz { c2 with ops:=c2.ops.set k { c2.op k with next:=l.1.next } } ((C.op k).seq+1) l.1.next else c2) (N+1):=by
   split
   ·refine Bd.back ?_ _ _
    exact hb.same ⟨rfl,rfl,rfl,rfl,rfl⟩
   ·exact hb.mono (by omega)
  generalize (if (((C.op k).guessed&&decide (C.word (C.op k).dest≠l.1.value)) || decide (l.1.next≠(C.op k).next))=true then Fz { c2 with ops:=c2.ops.set k { c2.op k with next:=l.1.next } } ((C.op k).seq+1) l.1.next else c2)=c3 at *
  split
  ·exact(hc.stored k).mono (by omega)
  ·exact hc.mono (by omega)
theorem Yo (C:Core) (k:Nat) (now head:Int):Cn C (B7 C k now head).2:=by
 unfold B7
 dsimp only
 split
 ·exact⟨rfl,rfl,rfl,rfl,rfl⟩
 split
 ·exact⟨rfl,rfl,rfl,rfl,rfl⟩
 split
 ·split
  ·have:=Wp { C with script:=C.script.tail } (C.op k).dest (u32 ((K3 (Pl C.table (C.op k).pc) (C.op k).pc).1+Ho C.script / 64))
   exact⟨this.seq,this.taken,this.backs,this.coms,this.cycles⟩
  ·exact⟨rfl,rfl,rfl,rfl,rfl⟩
 ·exact⟨rfl,rfl,rfl,rfl,rfl⟩
theorem Bd.fetch {C:Core} {N:Int} (h:Bd C N):Bd (Bt C).2 (N+1):=by
 have key:∀ C':Core,C'.seq=C.seq+1→C'.taken=C.taken+1→C'.backs=C.backs→C'.commits=C.commits→C'.cycles=C.cycles→Bd C' (N+1):=fun C' e1 e2 e3 e4 e5=>by
  have h1:=h.seq
  have h2:=h.taken
  have h3:=h.backs
  have h4:=h.coms
  have h5:=h.cycles
  exact⟨by rw [e1];omega,by rw [e2];omega,by rw [e3];omega,by rw [e4];omega,by rw [e5];omega⟩
 unfold Bt
 split
 ·exact h.mono (by omega)
 split
 ·exact h.mono (by omega)
 ·dsimp only
  split
  ·exact key _ rfl rfl rfl rfl rfl
  ·exact key _ rfl rfl rfl rfl rfl
theorem Ag0 (C:Core) (u:Uop):Cn C (Kv C u):=by
 unfold Kv
 split
 ·exact⟨rfl,rfl,rfl,rfl,rfl⟩
 split<;>exact⟨rfl,rfl,rfl,rfl,rfl⟩
theorem Bd.gone {C:Core} {N:Int} (h:Bd C N):Bd (Bm C) (N+1):=by
 unfold Bm
 dsimp only
 have h1:=h.seq
 have h2:=h.taken
 have h3:=h.backs
 have h4:=h.coms
 have h5:=h.cycles
 generalize hc:({ C with ops:=C.ops.tail,hart:=Cx (C.op 0).commit C.hart,mem:=C9 (C.op 0).commit C.mem,commits:=C.commits++[(C.op 0).commit],names:=if 0<(C.op 0).dest then (Lb C.names (C.op 0).old).getD Ax.zero else C.names }:Core)=c1
 have hb:Bd c1 (N+1):=by
  rw [←hc]
  exact⟨by show 0≤C.seq∧C.seq≤N+1;omega,by show 0≤C.taken∧C.taken≤N+1;omega,by show 0≤C.backs∧C.backs≤N+1;omega,by show(((C.commits++[(C.op 0).commit]).length:Nat):Int)≤N+1;rw [List.length_append];simp;omega,by show 0≤C.cycles∧C.cycles≤N+1;omega⟩
 have hl:=hb.same (Ag0 c1 (C.op 0))
 exact hl.same ⟨rfl,rfl,rfl,rfl,rfl⟩
theorem Bd.goneP:∀ (n:Nat) {C:Core} {N:Int},Bd C N→Bd (goneP n C) (N+n)
 |0,_,_,h=>h.mono (by omega)
 |n+1,C,N,h=>by
  unfold Go.Proofs.YtapgojgcmlnbgaaGreatDoor.goneP
  split
  ·exact h.gone.mono (by omega)
  ·exact(Bd.goneP n h.gone).mono (by omega)
theorem Bd.commit {C:Core} {N:Int} (h:Bd C N) (hw:0≤C.wide∧C.wide≤4):Bd (Bu C) (N+4):=by
 unfold Bu
 have:=N4 C.slots C.wide hw.1
 have h2:Bd { C with slots:=C.slots.drop (Dy C.slots C.wide) } N:=h.same ⟨rfl,rfl,rfl,rfl,rfl⟩
 exact(Bd.goneP (Dy C.slots C.wide) h2).mono (by omega)
theorem Bd.finishAll (now:Int):∀ (n k:Nat) {C:Core} {N:Int},Bd C N→Bd (finishAll n k now C) (N+2*n)
 |0,_,_,_,h=>h.mono (by omega)
 |n+1,k,C,N,h=>by
  unfold Go.Proofs.YtapgojgcmlnbgaaGreatDoor.finishAll
  split
  ·refine(Bd.finishAll now n (k+1) (N:=N+2) ?_).mono (by omega)
   split
   ·exact h.complete k
   ·exact h.mono (by omega)
  ·exact h.mono (by omega)
theorem Bd.beginAll (now:Int):∀ (n k:Nat) (s:Int) {C:Core} {N:Int},Bd C N→Bd (beginAll n k s now C) N
 |0,_,_,_,_,h=>h
 |n+1,k,s,C,N,h=>by
  unfold Go.Proofs.YtapgojgcmlnbgaaGreatDoor.beginAll
  split
  ·exact Bd.beginAll now n (k+1) _ (h.same (Yo _ _ _ _))
  ·exact h
theorem Bd.fetchAll:∀ (n:Nat) {C:Core} {N:Int},Bd C N→Bd (fetchAll n C) (N+n)
 |0,_,_,h=>h.mono (by omega)
 |n+1,C,N,h=>by
  unfold Go.Proofs.YtapgojgcmlnbgaaGreatDoor.fetchAll
  split
  ·exact(Bd.fetchAll n h.fetch).mono (by omega)
  ·exact h.fetch.mono (by omega)
structure Qt (C:Core):Prop where
 slots:C.slots=C.ops.map Bz
 lens:C.ops.length≤32∧C.slots.length≤32∧C.access.length≤32
 free:C.names.free.length≤64
 uf:∀ u∈C.ops,UF u
 acc:∀ a∈C.access,∃ u∈C.ops,u.seq=a.seq
 wf:C.seq≤9223372036854775807→∀ a∈C.access,a.Wf
theorem Qt.found {C:Core} (h:Qt C) (seq:Int):∀ s∈La C.slots seq,∃ k:Nat,I6 C.ops s=(k:Int)∧k<C.ops.length:=Ael h.slots seq
theorem Qt.undo {C:Core} (h:Qt C):∀ u∈C.ops,(0≤u.ins.rd∧u.ins.rd≤31)∧(0<u.dest→0≤u.old∧u.old<96):=fun u hu=>⟨(h.uf u hu).rd,(h.uf u hu).old⟩
theorem Inv.fine {C:Core} (h:Inv C):Qt C:=
 ⟨h.slots,h.lens,h.free_len,h.uf,by rw [h.access];exact Ac5 (Et _),h.acc_wf⟩
theorem Aih (C:Core) {u:Uop} (l:Com) (hf:UF u) (hs:u.seq≤9223372036854775807):(Ce C u l).Wf:=by
 have hz:=hf.seq
 unfold Ce
 split
 ·have hm:=Qc u.ins.op
  have hb:=Dc (C.word u.a+u.ins.imm)
  exact⟨hb.1,hb.2,Int.le_refl 0,(by show(0:Int)≤4294967295;omega),by show -9223372036854775808≤u.seq;omega,hs,by show -9223372036854775808≤loadBytes u.ins.op;omega,by show loadBytes u.ins.op≤9223372036854775807;omega⟩
 ·exact⟨Int.le_refl 0,(by show(0:Int)≤4294967295;omega),Int.le_refl 0,(by show(0:Int)≤4294967295;omega),by show -9223372036854775808≤u.seq;omega,hs,(by show(-9223372036854775808:Int)≤0;omega),(by show(0:Int)≤9223372036854775807;omega)⟩
theorem Lr {C:Core} (h:Inv C) {L R:List Uop} {u:Uop} (ho:C.ops=L++u::R) {l:Com} {u':Uop} (hu:UF u') (hs:u'.seq=u.seq):Qt (B6 C L R u l u' (Ce C u l)):=by
 have hl:(L++u'::R).length=C.ops.length:=by rw [ho];simp
 have h1:=h.lens
 have huf:=h.uf
 have huo:UF u:=huf u (by rw [ho];simp)
 have hsu:u.seq<C.seq:=(h.ops L u R ho).seq.2
 have hv:∀ v∈L++u'::R,UF v∧v.seq<C.seq:=fun v hv=>by
  rcases List.mem_append.1 hv with hv | hv
  ·obtain⟨X,Y,e⟩:=List.append_of_mem hv
   exact⟨huf v (by rw [ho];simp [hv]),(h.ops X v (Y++u::R) (by rw [ho,e];simp)).seq.2⟩
  ·rcases List.mem_cons.1 hv with rfl | hv
   ·exact⟨hu,by rw [hs];exact hsu⟩
   ·obtain⟨X,Y,e⟩:=List.append_of_mem hv
    exact⟨huf v (by rw [ho];simp [hv]),(h.ops (L++u::X) v Y (by rw [ho,e];simp)).seq.2⟩
 refine⟨rfl,⟨by show(L++u'::R).length≤32;omega,by show((L++u'::R).map Bz).length≤32;rw [List.length_map];omega,?_⟩,h.free_len,fun v hv'=>(hv v hv').1,Ac5 (Tq C u _),fun hq a ha=>?_⟩
 ·have:=Tl Bc (gD C u (Ce C u l)) (L++u'::R)
  show(((L++u'::R).filter Bc).map (gD C u (Ce C u l))).length≤32
  omega
 ·obtain⟨v,hv',rfl⟩:=List.mem_map.1 ha
  obtain⟨q1,q2⟩:=hv v (List.mem_filter.1 hv').1
  have q3:v.seq≤9223372036854775807:=by
   have:C.seq≤9223372036854775807:=hq
   omega
  unfold gD
  split
  ·have hw:=Aih C l huo (by have:C.seq≤9223372036854775807:=hq;omega)
   exact⟨hw.at0,hw.at1,hw.data0,hw.data1,by show -9223372036854775808≤v.seq;have:=q1.seq;omega,q3,hw.many0,hw.many1⟩
  ·exact acc_wf q1 q3
theorem Ajm {C:Core} (h:Inv C) {L R:List Uop} {u:Uop} (ho:C.ops=L++u::R):UF (uD u (Ab C L u)):=by
 have hf:=h.uf u (by rw [ho];simp)
 exact⟨hf.a,hf.b,hf.dest,hf.old,hf.rd,hf.rs1,hf.rs2,hf.pc,hf.next,hf.seq,fun _=>P0 h hf.rd hf.pc⟩
theorem UF.next' {u:Uop} (h:UF u) {n:Int} (hn:0≤n∧n≤4294967295):UF { u with next:=n }:=⟨h.a,h.b,h.dest,h.old,h.rd,h.rs1,h.rs2,h.pc,hn,h.seq,h.com⟩
theorem Qt.setacc {C:Core} (h:Qt C) {j:Nat} {a0:Acc} (hj:C.access[j]? = some a0) {c:Com} (hc:c.Wf):Qt { C with access:=C.access.set j { a0 with known:=true,at_:=c.at_,many:=c.many,data:=c.data } }:=by
 have hm0:=List.mem_of_getElem? hj
 refine⟨h.slots,⟨h.lens.1,h.lens.2.1,by show(C.access.set j _).length≤32;rw [List.length_set];exact h.lens.2.2⟩,h.free,h.uf,fun a ha=>?_,fun hq a ha=>?_⟩
 ·rcases List.mem_or_eq_of_mem_set ha with ha | rfl
  ·exact h.acc a ha
  ·exact h.acc a0 hm0
 ·rcases List.mem_or_eq_of_mem_set ha with ha | rfl
  ·exact h.wf hq a ha
  ·have h0:=h.wf hq a0 hm0
   have hm:=hc.many
   exact⟨hc.at_.1,hc.at_.2,hc.data.1,hc.data.2,h0.seq0,h0.seq1,by show -9223372036854775808≤c.many;omega,by show c.many≤9223372036854775807;omega⟩
theorem P7 {C:Core} (h:Inv C) {L R:List Uop} {u:Uop} (ho:C.ops=L++u::R) (h1:u.state=1) {l:Com×List Acc} (hl:l=if Bo u.ins=true then Mq C u else (Ck u.ins (Ed C u) C.mem,C.access)) :
  l.1=Ab C L u∧Ep (Dk { C with access:=l.2,ops:=C.ops.set L.length { u with commit:=l.1 } } u.dest l.1.value) L.length=B6 C L R u (Ab C L u) (uD u (Ab C L u)) (Ce C u (Ab C L u)):=by
 have hlc:=Zs h ho h1
 rw [←hl] at hlc
 subst hlc
 clear hl
 refine⟨rfl,?_⟩
 have hsq:=h.seqs
 rw [ho] at hsq
 unfold Ep
 rw [Wq]
 have e1:C.ops.set L.length { u with commit:=Ab C L u }=L++{ u with commit:=Ab C L u }::R:=by rw [ho];exact Ge
 simp only [e1]
 have e2:Core.op { C with access:=((L++uD u (Ab C L u)::R).filter Bc).map (gD C u (Ce C u (Ab C L u))),words:=if 0<u.dest then C.words.set u.dest.toNat (Ab C L u).value else C.words,there:=if 0<u.dest then C.there.set u.dest.toNat true else C.there,ops:=L++{ u with commit:=Ab C L u }::R } L.length={ u with commit:=Ab C L u }:=Core.op_at rfl
 rw [e2,Ge]
 have e3:(Ih C.slots u.seq).getD []=(L++uD u (Ab C L u)::R).map Bz:=by
  rw [h.slots,ho,Ur hsq h1 (u':=uD u (Ab C L u)) rfl rfl]
  rfl
 simp only [e3]
 rfl
theorem Ack {C:Core} (h:Inv C) {L R:List Uop} {u:Uop} (ho:C.ops=L++u::R) (h1:u.state=1) (hs:A0 u.ins=true) (h0:(Ab C L u).state=0):(Ab C L u).next=u.next:=by
 have hO:=h.ops L u R ho
 have hc:u.cause=0:=by
  rcases Decidable.em (u.cause=0) with hc | hc
  ·exact hc
  ·have:=(hO.fault hc).1;omega
 rw [hO.nextS hc (by rw [hs];rfl)]
 exact V4 (by rw [hs];rfl) h0
theorem Tt {C:Core} (h:Inv C) {L R:List Uop} {u:Uop} (ho:C.ops=L++u::R) (hl:Bo u.ins=false):u.guessed=false:=by
 rcases hg:u.guessed with _ | _
 ·rfl
 ·have:=((h.ops L u R ho).gs hg).2.2
  rw [hl] at this
  cases this
theorem S9 (C:Core) (L R:List Uop) (u:Uop) (c:Com) (n:Int) :
  ({ B6 C L R u c (uD u c) (Ce C u c) with ops:=(B6 C L R u c (uD u c) (Ce C u c)).ops.set L.length { uD u c with next:=n } }:Core)=B6 C L R u c { uD u c with next:=n } (Ce C u c):=by
 have hset:(B6 C L R u c (uD u c) (Ce C u c)).ops.set L.length { uD u c with next:=n }=L++{ uD u c with next:=n }::R:=Ge
 rw [hset]
 unfold B6
 have e1:(L++{ uD u c with next:=n }::R).map Bz=(L++uD u c::R).map Bz:=by simp [Bz]
 have e2:((L++{ uD u c with next:=n }::R).filter Bc).map (gD C u (Ce C u c))=((L++uD u c::R).filter Bc).map (gD C u (Ce C u c)):=by
  rw [List.filter_append,List.filter_append,List.filter_cons,List.filter_cons]
  have:Bc { uD u c with next:=n }=Bc (uD u c):=rfl
  rw [this]
  split
  ·simp [gD,uD]
  ·rfl
 rw [e1,e2]
structure Ake (X D D':Core) (k:Nat) (c:Com) (u:Uop) (wd:Int):Prop where
 trap:c.state≠0→X={ Fz D (u.seq+1) u.pc with still:=true }
 miss:c.state=0→A0 u.ins=false→((u.guessed&&decide (wd≠c.value)) || decide (c.next≠u.next))=true→X=Fz D' (u.seq+1) c.next
 hit:c.state=0→A0 u.ins=false→((u.guessed&&decide (wd≠c.value)) || decide (c.next≠u.next))=false→X=D
 store:c.state=0→A0 u.ins=true→c.next=u.next∧X=E9 D k
theorem Ajk {C:Core} (h:Inv C) {L R:List Uop} {u:Uop} (ho:C.ops=L++u::R) (h1:u.state=1) :
  Ake (B3 C L.length) (B6 C L R u (Ab C L u) (uD u (Ab C L u)) (Ce C u (Ab C L u))) (B6 C L R u (Ab C L u) { uD u (Ab C L u) with next:=(Ab C L u).next } (Ce C u (Ab C L u))) L.length (Ab C L u) u (C.word u.dest):=by
 have he:=M5 h ho h1
 have hm:Ou C L u=((u.guessed&&decide (C.word u.dest≠(Ab C L u).value)) || decide ((Ab C L u).next≠u.next)):=rfl
 dsimp only at he
 refine⟨fun hs=>?_,fun hs hst hmi=>?_,fun hs hst hmi=>?_,fun hs hst=>?_⟩
 ·rw [he,if_pos hs]
 ·rw [he,if_neg (by rw [hs];simp),if_neg (by rw [hst];decide),hm,if_pos hmi]
 ·rw [he,if_neg (by rw [hs];simp),if_neg (by rw [hst];decide),hm,if_neg (by rw [hmi];decide)]
 ·have hn:=Ack h ho h1 hst hs
  have hl:Bo u.ins=false:=by
   rcases e:Bo u.ins with _ | _
   ·rfl
   ·have:=D3.1 e
    have:=Fh.1 hst
    omega
  have hg:=Tt h ho hl
  refine⟨hn,?_⟩
  rw [he,if_neg (by rw [hs];simp),if_pos hst,hm,hg,hn]
  simp
theorem Qy (c:Core) (s pc:Int):(Fz c s pc).ops.length≤c.ops.length:=List.length_filter_le _ _
theorem Aap (c:Core) (k:Nat):(E9 c k).ops.length≤c.ops.length:=by
 unfold E9
 dsimp only
 split
 ·exact Qy _ _ _
 ·exact Nat.le_refl _
theorem U3 (c:Core) (k:Nat):(B3 c k).ops.length≤c.ops.length:=by
 unfold B3
 dsimp only
 generalize (if Bo (c.op k).ins=true then Mq c (c.op k) else (Ck (c.op k).ins (Ed c (c.op k)) c.mem,c.access))=l
 generalize Dk { c with access:=l.2 } (c.op k).dest l.1.value=c1
 have h1:(Ep { c1 with ops:=c.ops.set k { c.op k with commit:=l.1 } } k).ops.length=c.ops.length:=by
  unfold Ep
  simp
 generalize Ep { c1 with ops:=c.ops.set k { c.op k with commit:=l.1 } } k=c2 at *
 split
 ·exact Nat.le_trans (Qy c2 ((c.op k).seq+1) (c.op k).pc) (Nat.le_of_eq h1)
 ·have h2:(if (((c.op k).guessed&&decide (c.word (c.op k).dest≠l.1.value)) || decide (l.1.next≠(c.op k).next))=true then Fz { c2 with ops:=c2.ops.set k { c2.op k with next:=l.1.next } } ((c.op k).seq+1) l.1.next else c2).ops.length≤c.ops.length:=by
   split
   ·refine Nat.le_trans (Qy _ _ _) ?_
    show(c2.ops.set k _).length≤_
    rw [List.length_set]
    exact Nat.le_of_eq h1
   ·exact Nat.le_of_eq h1
  generalize (if (((c.op k).guessed&&decide (c.word (c.op k).dest≠l.1.value)) || decide (l.1.next≠(c.op k).next))=true then Fz { c2 with ops:=c2.ops.set k { c2.op k with next:=l.1.next } } ((c.op k).seq+1) l.1.next else c2)=c3 at *
  split
  ·exact Nat.le_trans (Aap _ _) h2
  ·exact h2
theorem Aa4 (c:Core) (k:Nat) (now hd:Int):(B7 c k now hd).2.ops.length=c.ops.length:=by
 unfold B7
 dsimp only
 split
 ·rfl
 split
 ·simp
 split
 ·split
  ·simp
  ·simp
 ·simp
def Sub (C C':Core):Prop:=∀ x∈C'.script,x∈C.script
theorem Sub.refl (C:Core):Sub C C:=fun _ h=>h
theorem Sub.trans {A B C:Core} (h:Sub A B) (k:Sub B C):Sub A C:=fun x hx=>h x (k x hx)
theorem Sub.of_eq {C C':Core} (h:C'.script=C.script):Sub C C':=fun x hx=>by rw [←h];exact hx
theorem Qn {l:List Int} {x:Int} (h:x∈l.tail):x∈l:=List.mem_of_mem_tail h
theorem Uu (c:Core) (k:Nat):(E9 c k).script=c.script:=by
 unfold E9
 dsimp only
 split<;>rfl
theorem Ow (c:Core) (d x:Int):(Dk c d x).script=c.script:=by
 unfold Dk
 split<;>rfl
theorem K9 (c:Core) (k:Nat):(B3 c k).script=c.script:=by
 unfold B3
 dsimp only
 generalize (if Bo (c.op k).ins=true then Mq c (c.op k) else (Ck (c.op k).ins (Ed c (c.op k)) c.mem,c.access))=l
 have h0:(Dk { c with access:=l.2 } (c.op k).dest l.1.value).script=c.script:=Ow _ _ _
 generalize Dk { c with access:=l.2 } (c.op k).dest l.1.value=c1 at *
 have h1:(Ep { c1 with ops:=c.ops.set k { c.op k with commit:=l.1 } } k).script=c.script:=h0
 generalize Ep { c1 with ops:=c.ops.set k { c.op k with commit:=l.1 } } k=c2 at *
 split
 ·exact h1
 ·have h2:(if (((c.op k).guessed&&decide (c.word (c.op k).dest≠l.1.value)) || decide (l.1.next≠(c.op k).next))=true then Fz { c2 with ops:=c2.ops.set k { c2.op k with next:=l.1.next } } ((c.op k).seq+1) l.1.next else c2).script=c.script:=by
   split
   ·exact h1
   ·exact h1
  generalize (if (((c.op k).guessed&&decide (c.word (c.op k).dest≠l.1.value)) || decide (l.1.next≠(c.op k).next))=true then Fz { c2 with ops:=c2.ops.set k { c2.op k with next:=l.1.next } } ((c.op k).seq+1) l.1.next else c2)=c3 at *
  split
  ·exact(Uu _ _).trans h2
  ·exact h2
theorem S2 (c:Core) (k:Nat) (now hd:Int):Sub c (B7 c k now hd).2:=by
 unfold B7
 dsimp only
 split
 ·exact Sub.refl c
 split
 ·exact Sub.of_eq rfl
 split
 ·split
  ·intro x hx
   have hx:x∈(Dk { c with script:=c.script.tail } (c.op k).dest (u32 ((K3 (Pl c.table (c.op k).pc) (c.op k).pc).1+Ho c.script / 64))).script:=hx
   rw [Ow] at hx
   exact Qn hx
  ·exact fun x hx=>Qn hx
 ·exact Sub.of_eq rfl
theorem Zf (c:Core) (i:Ins) (pc:Int):∀ x∈(Df c i pc).2,x∈c.script:=by
 unfold Df
 dsimp only
 split
 ·exact fun x hx=>hx
 split
 ·exact fun x hx=>Qn hx
 split
 ·exact fun x hx=>Qn hx
 ·exact fun x hx=>hx
theorem O7 (c:Core):Sub c (Bt c).2:=by
 unfold Bt
 split
 ·exact Sub.refl c
 split
 ·exact Sub.refl c
 ·dsimp only
  split
  ·exact Sub.of_eq rfl
  ·exact fun x hx=>Zf c _ _ x hx
theorem Ve (c:Core) (u:Uop):(Kv c u).script=c.script:=by
 unfold Kv
 split
 ·rfl
 split<;>rfl
theorem Nb (c:Core):(Bm c).script=c.script:=by
 unfold Bm
 dsimp only
 exact Ve _ _
theorem P8:∀ (n:Nat) (c:Core),(goneP n c).script=c.script
 |0,_=>rfl
 |n+1,c=>by
  unfold goneP
  split
  ·exact Nb c
  ·exact(P8 n _).trans (Nb c)
theorem M4 (c:Core):(Bu c).script=c.script:=P8 _ _
theorem X7 {l:List Uop} {k:Nat} (hk:k<l.length):l=l.take k++l[k]::l.drop (k+1)∧(l.take k).length=k:=by
 refine⟨?_,by simp;omega⟩
 rw [←List.drop_eq_getElem_cons hk,List.take_append_drop]
theorem Amb {c:Core} {k:Nat} (hk:k<c.ops.length):c.op k=c.ops[k]:=by
 unfold Core.op
 simp [List.getD,List.getElem?_eq_getElem hk]
structure Lp1 (X Y:Core) (k r:Nat) (now N:Int) (S:List Int):Prop where
 good:Good X
 goes:finishAll r k now X=Y
 fuel:X.ops.length≤k+r
 bd:Bd X (N+2*k)
 sub:∀ x∈X.script,x∈S
theorem Lp1.stop {X Y:Core} {k r:Nat} {now N:Int} {S:List Int} (h:Lp1 X Y k r now N S) (hk:X.ops.length≤k):Y=X:=by
 rw [←h.goes]
 cases r with
 |zero=>rfl
 |succ r=>
  unfold finishAll
  rw [if_neg (by omega)]
theorem Lp1.skip {X Y:Core} {k r:Nat} {now N:Int} {S:List Int} (h:Lp1 X Y k r now N S) (hk:k<X.ops.length) (hn:¬ ((X.op k).state=1∧(X.op k).ready≤now)):∃ r',Lp1 X Y (k+1) r' now N S:=by
 have hf:=h.fuel
 cases r with
 |zero=>omega
 |succ r=>
  refine⟨r,h.good,?_,by omega,h.bd.mono (by omega),h.sub⟩
  rw [←h.goes]
  conv=>rhs;unfold finishAll
  rw [if_pos hk,if_neg hn]
theorem Lp1.step {X Y:Core} {k r:Nat} {now N:Int} {S:List Int} (h:Lp1 X Y k r now N S) (hk:k<X.ops.length) (hy:(X.op k).state=1∧(X.op k).ready≤now):∃ r',Lp1 (B3 X k) Y (k+1) r' now N S:=by
 have hf:=h.fuel
 cases r with
 |zero=>omega
 |succ r=>
  have hl:=U3 X k
  obtain⟨e1,e2⟩:=X7 hk
  have hp:=Ga now 0 1 X (X.ops.take k) (X.ops[k]::X.ops.drop (k+1)) h.good e1
  rw [e2] at hp
  have e3:finishAll 1 k now X=B3 X k:=by
   unfold finishAll
   rw [if_pos hk,if_pos hy]
   rfl
  rw [e3] at hp
  refine⟨r,hp.good,?_,by omega,(h.bd.complete k).mono (by omega),fun x hx=>h.sub x (by rw [←K9 X k];exact hx)⟩
  rw [←h.goes]
  conv=>rhs;unfold finishAll
  rw [if_pos hk,if_pos hy]
structure Lp2 (X Y:Core) (k r:Nat) (s now N:Int) (S:List Int):Prop where
 good:Good X
 goes:beginAll r k s now X=Y
 fuel:X.ops.length≤k+r
 bd:Bd X N
 sub:∀ x∈X.script,x∈S
theorem Lp2.stop {X Y:Core} {k r:Nat} {s now N:Int} {S:List Int} (h:Lp2 X Y k r s now N S) (hk:¬ (k<X.ops.length∧s<X.wide)):Y=X:=by
 rw [←h.goes]
 cases r with
 |zero=>rfl
 |succ r=>
  unfold beginAll
  rw [if_neg hk]
theorem Lp2.step {X Y:Core} {k r:Nat} {s now N:Int} {S:List Int} (h:Lp2 X Y k r s now N S) (hk:k<X.ops.length) (hs:s<X.wide):∃ r',Lp2 (B7 X k now (X.op 0).seq).2 Y (k+1) r' (if (B7 X k now (X.op 0).seq).1=true then s+1 else s) now N S:=by
 have hf:=h.fuel
 cases r with
 |zero=>omega
 |succ r=>
  have hl:=Aa4 X k now (X.op 0).seq
  obtain⟨e1,e2⟩:=X7 hk
  have hg:=O2 h.good e1 now
  rw [e2] at hg
  refine⟨r,hg,?_,by omega,h.bd.same (Yo _ _ _ _),fun x hx=>h.sub x (S2 _ _ _ _ x hx)⟩
  have e:beginAll (r+1) k s now X=beginAll r (k+1) (if (B7 X k now (X.op 0).seq).1=true then s+1 else s) now (B7 X k now (X.op 0).seq).2:=by
   conv=>lhs;unfold beginAll
   rw [if_pos (show k<X.ops.length∧s<X.wide from⟨hk,hs⟩)]
  rw [←h.goes,e]
structure Lp3 (X Y:Core) (r:Nat) (N:Int) (S:List Int):Prop where
 good:Good X
 goes:fetchAll r X=Y
 bd:Bd X (N - r)
 sub:∀ x∈X.script,x∈S
theorem Lp3.step {X Y:Core} {r:Nat} {N:Int} {S:List Int} (h:Lp3 X Y (r+1) N S) (hy:(Bt X).1=true):Lp3 (Bt X).2 Y r N S:=by
 have hp:=Jw h.good 0
 refine⟨hp.good,?_,h.bd.fetch.mono (by omega),fun x hx=>h.sub x (O7 X x hx)⟩
 rw [←h.goes]
 conv=>rhs;unfold fetchAll
 rw [if_pos hy]
theorem Lp3.last {X Y:Core} {r:Nat} {N:Int} {S:List Int} (h:Lp3 X Y (r+1) N S) (hy:(Bt X).1=false):Y=(Bt X).2:=by
 rw [←h.goes]
 unfold fetchAll
 rw [if_neg (by rw [hy];decide)]
theorem Wc:∀ (n:Nat) (c:Core),c.hart.regs.length=32→(goneP n c).hart.regs.length=32
 |0,_,h=>h
 |n+1,c,h=>by
  have h1:(Bm c).hart.regs.length=32:=by
   unfold Bm
   dsimp only
   rw [N1]
   show(Cx (c.op 0).commit c.hart).regs.length=32
   unfold Cx
   split<;>simp [h]
  unfold goneP
  split
  ·exact h1
  ·exact Wc n _ h1
def Jd (l:List Int) (p:Nat):List Int:=l.take p++List.replicate (96 - p) 0
def J3 (p:Nat):List Bool:=List.replicate p true++List.replicate (96 - p) false
theorem Acx {l:List Int} (hl:l.length=32):Jd l 32=l++List.replicate 64 0:=by
 unfold Jd
 rw [List.take_of_length_le (by omega)]
theorem Acs:J3 32=List.replicate 32 true++List.replicate 64 false:=rfl
theorem Acy {l:List Int} (hl:l.length=32) {p:Nat} (hp:p≤32):(Jd l p).length=96:=by
 unfold Jd
 simp
 omega
theorem Acu {p:Nat} (hp:p≤96):(J3 p).length=96:=by
 unfold J3
 simp
 omega
theorem Acz {l:List Int} (hl:l.length=32) {p:Nat} (hp:p<32):(Jd l p).set p (l.getD p 0)=Jd l (p+1):=by
 unfold Jd
 have e:96 - p=(96 - (p+1))+1:=by omega
 have hlt:(l.take p).length=p:=by simp;omega
 rw [e,List.replicate_succ,List.set_append_right _ _ (by omega),hlt,Nat.sub_self,List.set_cons_zero,List.take_succ_eq_append_getElem (by omega),List.append_assoc]
 simp [List.getD,List.getElem?_eq_getElem (show p<l.length by omega)]
theorem Acv {p:Nat} (hp:p<96):(J3 p).set p true=J3 (p+1):=by
 unfold J3
 have e:96 - p=(96 - (p+1))+1:=by omega
 rw [e,List.replicate_succ,List.set_append_right _ _ (by simp),List.length_replicate,Nat.sub_self,List.set_cons_zero,List.replicate_succ',List.append_assoc]
 rfl
theorem Tn (now:Int) (n:Nat) {C:Core} (h:Good C):Good (finishAll n 0 now C)∧(finishAll n 0 now C).wide=C.wide:=by
 have:=Ga now 0 n C [] C.ops h rfl
 exact⟨this.good,this.mid.wide⟩
theorem U2 (now:Int) (n:Nat) (s:Int) {C:Core} (h:Good C):Good (beginAll n 0 s now C)∧(beginAll n 0 s now C).wide=C.wide:=by
 have:=Lo now n s C [] C.ops h rfl
 exact⟨this.good,this.mid.wide⟩
theorem On (now:Int):∀ (n k:Nat) (C:Core),Sub C (finishAll n k now C)
 |0,_,C=>Sub.refl C
 |n+1,k,C=>by
  unfold finishAll
  split
  ·refine Sub.trans ?_ (On now n (k+1) _)
   split
   ·exact Sub.of_eq (K9 C k)
   ·exact Sub.refl C
  ·exact Sub.refl C
theorem Pr (now:Int):∀ (n k:Nat) (s:Int) (C:Core),Sub C (beginAll n k s now C)
 |0,_,_,C=>Sub.refl C
 |n+1,k,s,C=>by
  unfold beginAll
  split
  ·exact Sub.trans (S2 C k now _) (Pr now n (k+1) _ _)
  ·exact Sub.refl C
theorem P1:∀ (n:Nat) (C:Core),Sub C (fetchAll n C)
 |0,C=>Sub.refl C
 |n+1,C=>by
  unfold fetchAll
  split
  ·exact Sub.trans (O7 C) (P1 n _)
  ·exact O7 C
theorem Abh (C:Core):Sub C (Cc C):=by
 unfold Cc
 dsimp only
 have h1:Sub C (Bu { C with cycles:=C.cycles+1 }):=Sub.of_eq (M4 _)
 split
 ·exact h1
 ·exact Sub.trans (Sub.trans (Sub.trans h1 (On _ _ _ _)) (Pr _ _ _ _ _)) (P1 _ _)
theorem Bd.cycle {C:Core} {N:Int} (h:Bd C N) (hG:Good C):Bd (Cc C) (N+100):=by
 have hG0:=Rj hG
 have h0:Bd { C with cycles:=C.cycles+1 } (N+1):=by
  have hh:=h.mono (M:=N+1) (by omega)
  have hc:=h.cycles
  exact⟨hh.seq,hh.taken,hh.backs,hh.coms,by show 0≤C.cycles+1∧C.cycles+1≤N+1;omega⟩
 have h1:Bd (Bu { C with cycles:=C.cycles+1 }) (N+5):=(h0.commit (by have:=hG0.inv.cfg;omega)).mono (by omega)
 obtain⟨_,_,_,hg,_,_⟩:=O6 hG0
 unfold Cc
 dsimp only
 generalize Bu { C with cycles:=C.cycles+1 }=c1 at *
 split
 ·exact h1.mono (by omega)
 ·rename_i hs
  have hG1:Good c1:=by
   rcases hg with hg | hg
   ·exact absurd hg hs
   ·exact hg
  have hl:=hG1.inv.lens.1
  have hw:=hG1.inv.cfg
  obtain⟨g2,w2⟩:=Tn C.cycles c1.ops.length hG1
  have h2:=Bd.finishAll C.cycles c1.ops.length 0 h1
  generalize Go.Proofs.YtapgojgcmlnbgaaGreatDoor.finishAll c1.ops.length 0 C.cycles c1=c2 at *
  obtain⟨g3,w3⟩:=U2 C.cycles c2.ops.length 0 g2
  have h3:=Bd.beginAll C.cycles c2.ops.length 0 0 h2
  generalize Go.Proofs.YtapgojgcmlnbgaaGreatDoor.beginAll c2.ops.length 0 0 C.cycles c2=c3 at *
  exact(Bd.fetchAll c3.wide.toNat h3).mono (by omega)
structure Lp4 (X Y:Core) (r:Nat) (N:Int) (S:List Int):Prop where
 ok:X.hart.state≠0∨∃ D,Lm X D
 goes:De r X=Y
 bd:Bd X N
 sub:∀ x∈X.script,x∈S
 hart:X.hart.regs.length=32
theorem Lp4.stop {X Y:Core} {r:Nat} {N:Int} {S:List Int} (h:Lp4 X Y r N S) (hs:r=0∨X.hart.state≠0):Y=X:=by
 rw [←h.goes]
 cases r with
 |zero=>rfl
 |succ r=>
  unfold De
  rw [if_neg (by rcases hs with hs | hs;cases hs;exact hs)]
theorem Lp4.step {X Y:Core} {r:Nat} {N:Int} {S:List Int} (h:Lp4 X Y (r+1) N S) (hs:X.hart.state=0):Good X∧Lp4 (Cc X) Y r (N+100) S∧(Cc X).cycles=X.cycles+1:=by
 obtain⟨D,hD⟩:∃ D,Lm X D:=by
  rcases h.ok with h1 | h1
  ·exact absurd hs h1
  ·exact h1
 obtain⟨k,hk,hc⟩:=Ta hD
 have hgoes:De r (Cc X)=Y:=by
  rw [←h.goes]
  conv=>rhs;unfold De
  rw [if_pos hs]
 have hl:(Cc X).hart.regs.length=32:=by
  have hr:=hk.run
  have hok:=Ss k (h:=X.hart) (m:=X.mem) ⟨hD.good.inv.hart,hD.good.inv.may,hD.good.inv.bytes⟩
  rw [hr] at hok
  exact hok.1.hart.len
 refine⟨hD.good,⟨?_,hgoes,h.bd.cycle hD.good,fun x hx=>h.sub x (Abh X x hx),hl⟩,hk.cycles⟩
 rcases hc with⟨_,h2⟩ | ⟨_,h2⟩ | ⟨_,h2⟩
 ·exact Or.inl h2
 ·exact Or.inr ⟨_,h2⟩
 ·exact Or.inr ⟨_,h2⟩
end Go.Proofs.YtapgojgcmlnbgaaGreatDoor
namespace Go.Proofs.YtapgojgcmlnbgaaGreatDoor
open Go.RowKit
section
variable {B:Nat} {w:World} {g p:Nat} {C:Core} {L:Lay} {ps:List Nat} {cs:Array Value} {u:Uop}
theorem No (h:Af B w g C L ps cs) (hp:Blk w p 107 u.cells) (hd1:u.dest<96) (hw:C.words.length=96) (ht:C.there.length=96) (x:Int) :
  Calls Tryz.prog 67 #[.pointer (some ⟨g,0,none⟩), .pointer (some ⟨p,0,none⟩), .int .u32 x] w fun e w'=>e = .returned (.tuple #[])∧w.grownBy w' (some g)∧∃ cs',Af B w' g (Dk C u.dest x) L ps cs':=by
 have c13:w.cell? ⟨p,13,none⟩=some (.int .i64 u.dest):=hp.cell 13
 have zp:=hp.lt
 have zg:=h.lt
 have hne:=Bl hp h.blk (by decide)
 unfold Dk
 by_cases hd:0<u.dest
 ·rw [if_pos hd]
  obtain⟨d,hdd⟩:=Int.eq_ofNat_of_zero_le (show 0≤u.dest by omega)
  rw [hdd] at c13 hd hd1 ⊢
  have hd96:d<96:=by omega
  have HI:=Lib.hid h
  clear h hp hdd
  go_enter Tryz.func67,Tryz.ntmps67
  go_upto_region 1 with(fail)
  go_simp
  refine Ad 245231 528 245759 [0,1,2,3,4,5,6,7,8,9,10,11,12,13,15,16,14,17,18] (by kernel_rfl) (by kernel_rfl) (by kernel_rfl) rfl ?_
  refine rR (fun wq hwq=>hwq.at_ zp c13) ?_
  refine oS (fun w1 hw1 K1 hK1=>?_)
  have h1:=HI.out.ext (w':=w1) (by rw [hw1];exact(Below.refl _ _).drew)
  have hg1:w.grownBy w1 (some g):=by rw [hw1];exact⟨rfl,rfl,rfl,by simp,fun _ _ _=>rfl⟩
  have k1:=h1.word hd96
  have f1:=h1.blk.frozen (142+d)
  have z1:=h1.lt
  have HI2:=Lib.hid (And.intro (h1.set _ _ (h1.cells.set_word d hd96 hw x) h1.rows) (hg1.trans (grownBy_setCell w1 ⟨g,142+d,none⟩ (.int .u32 x))))
  clear h1 hg1 hw1
  go_wp2_with(fail)
  refine hK1 undef _ (fun _=>True) trivial ?_
  simp only [Act.put,sA,sS,sZ]
  clear hK1 K1 k1 f1 z1
  refine rO ?_
  refine oS (fun w2 hw2 K1 hK1=>?_)
  rw [←hw2] at HI2
  obtain⟨h2,hg2⟩:=HI2.out
  have k1:=h2.has hd96
  have f1:=h2.blk.frozen (238+d)
  have z1:=h2.lt
  have HI3:=Lib.hid (And.intro (h2.set _ _ (h2.cells.set_there d hd96 ht true) h2.rows) (hg2.trans (grownBy_setCell w2 ⟨g,238+d,none⟩ (.bool true))))
  clear h2 hg2 HI2 hw2
  go_wp2_with(fail)
  refine hK1 undef _ (fun _=>True) trivial ?_
  simp only [Act.put,sA,sS,sZ]
  clear hK1 K1 k1 f1 z1
  refine Ai ?_
  rintro w3 hw3
  rw [←hw3] at HI3
  go_wp2_with(fail)
  refine bodyPost_end (results_none rfl _ _ _) rfl ?_
  exact⟨rfl,HI3.out.2,_,HI3.out.1⟩
 ·rw [if_neg hd]
  have e0:decide (0<u.dest)=false:=decide_eq_false hd
  have H:=Lib.hid h
  clear h hp
  generalize u.dest=d at *
  go_enter Tryz.func67,Tryz.ntmps67
  go_wp2_with(fail)
  refine bodyPost_end (results_none rfl _ _ _) rfl ?_
  exact⟨rfl,World.grownBy.refl _ _,cs,H.out⟩
end
section
variable {B:Nat} {w:World} {g p:Nat} {C:Core} {L:Lay} {ps:List Nat} {cs:Array Value} {u:Uop}
theorem Ak.any_ops (h:Ak cs C L) (l:List Uop):Ak cs { C with ops:=l } L:=
 ⟨h.size,h.window,h.phys,h.wide,h.commits,h.mem,h.cycles,h.taken,h.backs,h.script,h.slots,h.ops,h.access,h.seq,h.pc,h.still,h.hart,h.tab,h.names,h.words,h.there⟩
theorem Af.setuop (h:Af B w g C L ps cs) {i:Nat} (hp:ps[i]? = some p) (hu:Blk w p 107 u.cells) (k:Nat) (v:Value) {u':Uop} (hc:u.cells.setIfInBounds k v=u'.cells) :
  Af B (w.setCell ⟨p,k,none⟩ v) g { C with ops:=C.ops.set i u' } L ps cs:=by
 have hg:=grownBy_setCell w ⟨p,k,none⟩ v
 have hB':Blk (w.setCell ⟨p,k,none⟩ v) p 107 u'.cells:=by rw [←hc];exact hu.set k v
 exact⟨by simpa using h.low,h.blk.far (by show g≠p;exact fun e=>Bl hu h.blk (by decide) e.symm) v,h.cells.any_ops _,h.rows.uop h.low hp hg hB'⟩
theorem Ca (hu:Blk w p 107 u.cells) (hB:B≤p) {w':World} (hg:w.grownBy w' (some p)):Ah B w w':=
 Ah.grown hg fun k hk=>by cases hk;exact⟨hB,_,_,_,hu,rfl⟩
theorem Af.uop_at (h:Af B w g C L ps cs) {i:Nat} (hp:ps[i]? = some p):Blk w p 107 (C.op i).cells∧B≤p∧i<C.ops.length∧C.ops[i]? = some (C.op i):=by
 have hi:i<ps.length:=(List.getElem?_eq_some_iff.1 hp).1
 have hi2:i<C.ops.length:=by rw [←h.rows.uops.len];exact hi
 have hg:C.ops[i]? = some (C.op i):=by unfold Core.op;simp [List.getD,List.getElem?_eq_getElem hi2]
 exact⟨(h.rows.uops.at_ i _ p hg hp).1,(h.rows.uops.at_ i _ p hg hp).2,hi2,hg⟩
theorem Hq {base:Nat} {v:Value} {l:List Slt} (h:w.ownsRow base 166 2 v l.length (Ay l)):∃ A c,v = .slice A l.length c∧Cm w w.heap.size A l∧(A=none→l=[]∧c=0)∧l.length≤c∧c≤9223372036854775807:=by
 have h0:=h
 rcases h.2 with⟨rfl,hz⟩ | ⟨g,c,cur,rfl,_,_,hc,hm,_⟩
 ·have hz':=List.eq_nil_of_length_eq_zero hz
  subst hz'
  exact⟨none,0,rfl,fun h=>absurd rfl h,fun _=>⟨rfl,rfl⟩,Nat.le_refl _,by decide⟩
 ·exact⟨_,c,rfl,Cm.own h0,fun h=>(by cases h),hc,by unfold maxLen at hm;omega⟩
theorem Po.row {l:List Slt} {seq:Int} {e:Ending} {w':World} (h:Po w l seq e w'):Below w.heap.size w w'∧∃ v b,e = .returned (.tuple #[v, .bool b])∧w'.ownsRow w.heap.size 166 2 v ((Ih l seq).getD []).length (Ay ((Ih l seq).getD [])):=by
 unfold Po at h
 obtain⟨hb,h⟩:=h
 refine⟨hb,?_⟩
 cases hp:Ih l seq with
 |none=>rw [hp] at h;exact⟨_,_,h,World.ownsRow_nil _ _ _ _⟩
 |some k=>rw [hp] at h;obtain⟨v,rfl,ho⟩:=h;exact⟨v,true,rfl,ho⟩
theorem Gk {w:World} {base base':Nat} {e:TypeId} {size:Nat} {v:Value} {n:Nat} {xs:List Value} (h:w.ownsRow base e size v n xs) (hb:base'≤base):w.ownsRow base' e size v n xs:=
 ⟨h.1,h.2.imp id fun⟨g,cap,cur,e,l,r⟩=>⟨g,cap,cur,e,Nat.le_trans hb l,r⟩⟩
theorem Af.setslots (h:Af B w g C L ps cs) {v:Value} {l:List Slt} (ho:w.ownsRow B 166 2 v l.length (Ay l)):Af B (w.setCell ⟨g,334,none⟩ v) g { C with slots:=l } { L with slots:=v } ps (cs.setIfInBounds 334 v)∧Ah B w (w.setCell ⟨g,334,none⟩ v):=
 ⟨h.set 334 v (h.cells.set_slots v l) (h.rows.slot ho),h.turned (grownBy_setCell w ⟨g,334,none⟩ v)⟩
theorem Lu (h:Af B w g C L ps cs) {k:Nat} (hp:ps[k]? = some p) (hsl:C.slots.length≤1000) :
  Calls Tryz.prog 68 #[.pointer (some ⟨g,0,none⟩), .pointer (some ⟨p,0,none⟩)] w fun e w'=>e = .returned (.tuple #[])∧Ah B w w'∧∃ L' cs',Af B w' g (Ep C k) L' ps cs':=by
 obtain⟨hu,hBp,hk,hg⟩:=h.uop_at hp
 unfold Ep
 generalize C.op k=u at *
 have c1:w.cell? ⟨p,1,none⟩=some (.int .i64 u.state):=hu.cell 1
 have f1:=hu.frozen 1
 have zp:=hu.lt
 have zg:=h.lt
 have h1:=h.setuop hp hu 1 (.int .i64 2) (Uop.set_state u 2)
 have hu1:Blk (w.setCell ⟨p,1,none⟩ (.int .i64 2)) p 107 (Uop.cells { u with state:=2 }):=hu.set 1 (.int .i64 2)
 have HI:=Lib.hid (And.intro h1 (And.intro hu1 (Ca hu hBp (grownBy_setCell w ⟨p,1,none⟩ (.int .i64 2)))))
 clear h1 hu1 h hu
 generalize hC1:({ C with ops:=C.ops.set k { u with state:=2 } }:Core)=C1 at HI
 have HC1:=Lib.hid hC1
 have es:C1.slots=C.slots:=by rw [←hC1]
 clear hC1
 go_enter Tryz.func68,Tryz.ntmps68
 go_upto_region 1 with(fail)
 go_simp
 clear c1 f1 zg
 generalize w.setCell ⟨p,1,none⟩ (.int .i64 2)=w1 at *
 obtain⟨h1,hu1,ht1⟩:=HI.out
 have zg:=h1.lt
 have zp1:=hu1.lt
 have c334:=h1.slots
 have c0:w1.cell? ⟨p,0,none⟩=some (.int .i64 u.seq):=hu1.cell 0
 obtain⟨A,cp,hsv,hS,hnl,hc1,hc2⟩:=Hq h1.rows.slots
 rw [hsv] at c334
 rw [es] at c334 hS hnl hc1
 have HS:=Lib.hid (And.intro hS hnl)
 clear hS hnl h1 hu1 ht1 hsv
 refine Ad 31983 272 32255 [0,1,2,3,4,5,6,7,8,9,10,11,12,13,14,15] (by kernel_rfl) (by kernel_rfl) (by kernel_rfl) rfl ?_
 refine rR (fun wq hwq=>i2 (hwq.at_ zg c334) (hwq.at_ zp1 c0)) ?_
 refine oS (fun w2 hw2 K1 hK1=>?_)
 have hb2:Below w1.heap.size w1 w2:=by rw [hw2];exact(Below.refl _ _).drew
 have hS2:=(HS.out.1.below hb2).mono hb2.size
 have CD:=Lib.hid (Agi A cp C.slots u.seq w2 (by omega) hS2 HS.out.2)
 clear hw2 hS2
 go_wp2_with(go_at_call 98;(with_reducible refine CD.out.mono ?_);intro e w3 hD;obtain⟨hb3,v3,b3,rfl,ho3⟩:=hD.row;obtain⟨A3,c3,rfl⟩:=Aq ho3)
 refine hK1 _ _ (fun _=>True) trivial ?_
 simp only [Act.put,sA,sS,sZ]
 clear hK1 K1 CD hD
 have hb13:=hb2.trans (hb3.mono hb2.size)
 have h3:=HI.out.1.ext hb13
 have ho3':=Gk ho3 (base':=B) (Nat.le_trans HI.out.1.low hb2.size)
 have k3:=h3.slots
 have f3:=h3.blk.frozen 334
 have z3:=h3.lt
 have HJ:=Lib.hid (And.intro (h3.setslots ho3').1 (HI.out.2.2.trans ((Ah.below hb13).trans (h3.setslots ho3').2)))
 clear h3 ho3 ho3' HI hb13 hb2 hb3 HS
 refine rO ?_
 refine oS (fun w4 hw4 K1 hK1=>?_)
 subst hw4
 go_wp2_with(fail)
 refine hK1 undef _ (fun _=>True) trivial ?_
 simp only [Act.put,sA,sS,sZ]
 clear hK1 K1
 refine Ai ?_
 rintro w5 hw5
 rw [←hw5] at HJ
 go_wp2_with(fail)
 refine bodyPost_end (results_none rfl _ _ _) rfl ?_
 have hj:=HJ.out.1
 rw [←HC1.out] at hj
 exact⟨rfl,HJ.out.2,_,_,hj⟩
end
theorem Rw {h:Ap} (hl:h.regs.length=32) {i:Nat} (hi:i<32) (x:Int):h.cells.setIfInBounds i (.int .u32 x)=Ap.cells { h with regs:=h.regs.set i x }:=by
 unfold Ap.cells
 rw [List.setIfInBounds_toArray,List.set_append_left _ _ (by simp [hl];exact hi),List.map_set]
theorem Zl {l r:List Int} (hl:l.length=32) (hr:r.length=32) (pc st ca:Int):splice (Ap.cells ⟨l,pc,st,ca⟩) 0 (r.map (Value.int .u32))=Ap.cells ⟨r,pc,st,ca⟩:=by
 have hz:(Ap.cells ⟨l,pc,st,ca⟩).size=35:=Ap.cells_size hl
 have hz2:(Ap.cells ⟨r,pc,st,ca⟩).size=35:=Ap.cells_size hr
 have hlen:0+(r.map (Value.int .u32)).length≤(Ap.cells ⟨l,pc,st,ca⟩).size:=by rw [hz];simp [hr]
 apply Array.ext_getElem?
 intro i
 rw [E6 _ _ _ hlen,if_neg (by omega)]
 by_cases hi:i<32
 ·rw [if_pos (by simp [hr];exact hi),Nat.sub_zero,Ap.cells_reg (by show i<r.length;rw [hr];exact hi),List.getElem?_map]
  simp [List.getD,List.getElem?_eq_getElem (show i<r.length by rw [hr];exact hi)]
 ·rw [if_neg (by simp [hr];omega)]
  unfold Ap.cells
  rw [List.getElem?_toArray,List.getElem?_toArray,List.getElem?_append_right (by simp [hl];omega),List.getElem?_append_right (by simp [hr];omega)]
  simp [hl,hr]
section
variable {B:Nat} {w:World} {g p:Nat} {C:Core} {L:Lay} {ps:List Nat} {cs:Array Value} {u:Uop}
theorem Aab (h:Af B w g C L ps cs) (hp:Blk w p 107 u.cells) (hl:C.hart.regs.length=32) (h1:0≤u.ins.rs1∧u.ins.rs1≤31) (h2:0≤u.ins.rs2∧u.ins.rs2≤31) (ha:0≤u.a∧u.a<96) (hb:0≤u.b∧u.b<96) :
  Calls Tryz.prog 64 #[.pointer (some ⟨g,0,none⟩), .pointer (some ⟨p,0,none⟩)] w fun e w'=>∃ b,e = .returned (.pointer (some ⟨b,0,none⟩))∧w.heap.size≤b∧Below w.heap.size w w'∧Blk w' b 30 (Ed C u).cells:=by
 have c3:w.cell? ⟨p,3,none⟩=some (.int .u32 u.pc):=hp.cell 3
 have zp:=hp.lt
 have zg:=h.lt
 have hne:=Bl hp h.blk (by decide)
 unfold Ed Core.word
 obtain⟨r1,e1⟩:=Int.eq_ofNat_of_zero_le h1.1
 obtain⟨r2,e2⟩:=Int.eq_ofNat_of_zero_le h2.1
 obtain⟨a,e3⟩:=Int.eq_ofNat_of_zero_le ha.1
 obtain⟨b,e4⟩:=Int.eq_ofNat_of_zero_le hb.1
 have c7:w.cell? ⟨p,7,none⟩=some (.int .i64 u.ins.rs1):=hp.cell 7
 have c8:w.cell? ⟨p,8,none⟩=some (.int .i64 u.ins.rs2):=hp.cell 8
 have c11:w.cell? ⟨p,11,none⟩=some (.int .i64 u.a):=hp.cell 11
 have c12:w.cell? ⟨p,12,none⟩=some (.int .i64 u.b):=hp.cell 12
 rw [e1] at c7 h1 ⊢
 rw [e2] at c8 h2 ⊢
 rw [e3] at c11 ha ⊢
 rw [e4] at c12 hb ⊢
 simp only [Int.toNat_natCast]
 have ka:=h.word (d:=a) (by omega)
 have kb:=h.word (d:=b) (by omega)
 generalize C.words.getD a 0=xa at *
 generalize C.words.getD b 0=xb at *
 generalize u.pc=pc at *
 have hX:=h.cells.regsX hl
 have hBg:=h.blk
 have hsz:=h.cells.size
 generalize C.hart.regs=l at *
 have built_h:Tryz.prog.built 30 [(1, .int .u32 pc)]=some (Ap.cells ⟨List.replicate 32 0,pc,0,0⟩):=by kernel_rfl
 have hr1:r1<32:=by omega
 have hr2:r2<32:=by omega
 have ha96:a<96:=by omega
 have hb96:b<96:=by omega
 have Hp:=Lib.hid hp
 have HBg:=Lib.hid hBg
 clear h hp h1 h2 ha hb e1 e2 e3 e4
 go_enter Tryz.func64,Tryz.ntmps64
 go_upto_region 2 with(refine Ao rfl 30 _ rfl [(1, .int .u32 pc)] rfl _ built_h ?_)
 go_simp
 refine A4 fun wa hq=>?_
 have hb1:Below w.heap.size w wa:=by rw [hq];exact(Below.refl _ _).alloc (Nat.le_refl _) _
 have hB1:Blk wa w.heap.size 30 (Ap.cells ⟨List.replicate 32 0,pc,0,0⟩):=by rw [hq];exact Blk.new w 30 (Ap.cells ⟨List.replicate 32 0,pc,0,0⟩)
 clear hq c3
 have hBga:=hBg.ext hb1
 have zga:=hBga.lt
 have hsz1:(Ap.cells ⟨List.replicate 32 0,pc,0,0⟩).size=35:=rfl
 have hRone:(l.map (Value.int .u32)).toArray.all (·.oneCell')=true:=by
  rw [Array.all_eq_true_iff_forall_mem]
  intro v hv
  simp only [List.mem_toArray,List.mem_map] at hv
  obtain⟨x,_,rfl⟩:=hv
  rfl
 have hRsz:(Tryz.prog.info? 28).map (·.size)=some (l.map (Value.int .u32)).toArray.size:=by rw [Rq];simp [hl]
 have HX:=Lib.hid hX
 have hRs32:(l.map (Value.int .u32)).toArray.size=32:=by simp [hl]
 obtain⟨R,hR⟩:∃ R,R=(l.map (Value.int .u32)).toArray:=⟨_,rfl⟩
 rw [←hR] at HX hRone hRsz hRs32
 have HR:=Lib.hid hR
 clear hX hR
 generalize hH0:Ap.cells ⟨List.replicate 32 0,pc,0,0⟩=H0 at hB1 hsz1
 have HH0:=Lib.hid hH0
 clear hH0
 go_upto_region 3 with(first
  |(refine Aj rfl 28 _ rfl g 4 rfl 86 cs 32 _ hBga Tryz.underlying28 rfl Rq (by omega) ?_;rw [HX.out])
  |(refine Cb rfl 28 _ _ rfl w.heap.size 0 R rfl rfl 30 H0 hB1 hRsz (by omega) hRone ?_;intro w2 hB2 hg2))
 go_simp
 rw [HR.out,←HH0.out] at hB2
 have hB2:Blk w2 w.heap.size 30 (Ap.cells ⟨l,pc,0,0⟩):=by rw [←Zl (l:=List.replicate 32 0) rfl hl pc 0 0];exact hB2
 have hb2:Below w.heap.size w w2:=below_grown hb1 hg2 hb1.size (Nat.le_refl _)
 replace c7:=(hb2.cell (p:=⟨p,7,none⟩) zp).trans c7
 replace c8:=(hb2.cell (p:=⟨p,8,none⟩) zp).trans c8
 replace c11:=(hb2.cell (p:=⟨p,11,none⟩) zp).trans c11
 replace c12:=(hb2.cell (p:=⟨p,12,none⟩) zp).trans c12
 replace ka:=(hb2.cell (p:=⟨g,142+a,none⟩) zg).trans ka
 replace kb:=(hb2.cell (p:=⟨g,142+b,none⟩) zg).trans kb
 replace zp:=Nat.lt_of_lt_of_le zp hb2.size
 replace zg:=Nat.lt_of_lt_of_le zg hb2.size
 clear hg2 hB1 hb1 hBga zga HR HH0 HX hRone hRsz hRs32 hsz1 hBg HBg Hp built_h hsz
 refine Ad 128277477343 571541536 128849018879 [0,1,2,3,4,5,6,7,8,9,10,11,12,13,14,15,16,17,18,19,20,21,22,23,24,25,26,27,28,29,30,31,32,34,35,33,36,37] (by kernel_rfl) (by kernel_rfl) (by kernel_rfl) rfl ?_
 refine rR (fun wq hwq=>i2 (hwq.at_ zp c7) (i2 (hwq.at_ zp c8) (i2 (hwq.at_ zp c11) (i2 (hwq.at_ zp c12) (i2 (hwq.at_ zg ka) (hwq.at_ zg kb)))))) ?_
 clear c7 c8 c11 c12 ka kb
 refine oS (fun w3 hw3 K1 hK1=>?_)
 have hb3:Below w2.heap.size w2 w3:=by rw [hw3];exact(Below.refl _ _).drew
 have hB3:=hB2.ext hb3
 have hb3':=hb2.trans (hb3.mono hb2.size)
 have k1:=hB3.cell r1
 rw [Ap.cells_reg (by show r1<l.length;rw [hl];exact hr1)] at k1
 have f1:=hB3.frozen r1
 have z1:=hB3.lt
 have hB4:=hB3.set r1 (.int .u32 xa)
 rw [Rw hl hr1] at hB4
 have HJ:=Lib.hid (And.intro hB4 (Am (u := .int .u32 xa) (off:=r1) (Nat.le_refl w.heap.size) hb3'))
 clear hw3 hB3 hB4 hb3' hb3 hB2 hb2
 go_wp2_with(fail)
 refine hK1 undef _ (fun _=>True) trivial ?_
 simp only [Act.put,sA,sS,sZ]
 clear hK1 K1 k1 f1 z1
 refine rO ?_
 refine oS (fun w4 hw4 K1 hK1=>?_)
 rw [←hw4] at HJ
 obtain⟨hB4,hb4⟩:=HJ.out
 have hl4:(l.set r1 xa).length=32:=by simp [hl]
 have k1:=hB4.cell r2
 rw [Ap.cells_reg (by show r2<(l.set r1 xa).length;rw [hl4];exact hr2)] at k1
 have f1:=hB4.frozen r2
 have z1:=hB4.lt
 have hB5:=hB4.set r2 (.int .u32 xb)
 rw [Rw hl4 hr2] at hB5
 have HJ2:=Lib.hid (And.intro hB5 (Am (u := .int .u32 xb) (off:=r2) (Nat.le_refl w.heap.size) hb4))
 clear hw4 hB4 hb4 HJ hB5
 go_wp2_with(fail)
 refine hK1 undef _ (fun _=>True) trivial ?_
 simp only [Act.put,sA,sS,sZ]
 clear hK1 K1 k1 f1 z1
 refine Ai ?_
 rintro w5 hw5
 rw [←hw5] at HJ2
 go_wp2_with(fail)
 go_ret
 exact⟨_,rfl,Nat.le_refl _,HJ2.out.2,HJ2.out.1⟩
end
end Go.Proofs.YtapgojgcmlnbgaaGreatDoor
