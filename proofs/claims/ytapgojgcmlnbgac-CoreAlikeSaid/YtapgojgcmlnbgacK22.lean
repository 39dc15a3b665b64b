/- Parts of a proof. -/
import Derived.Test.YtapgojgcmlnbgacK21
set_option linter.unusedSimpArgs false
set_option linter.unusedVariables false
set_option maxRecDepth 100000
set_option maxHeartbeats 16000000
namespace Go.Proofs.Ytapgojgcmlnbgac
open Go
theorem Core.op_at {C:Core} {L R:List Uop} {u:Uop} (h:C.ops=L++u::R):C.op L.length=u:=by
 unfold Core.op
 rw [h]
 simp [List.getD]
theorem set_at {L R:List Uop} {u u':Uop}:(L++u::R).set L.length u'=L++u'::R:=by simp
theorem execP_congr {C C':Core} {L L':List Uop} {v:Uop} (hm:C'.mem=C.mem) (hh:C'.hart.regs=C.hart.regs) (hk:known L'=known L) (ha:C'.word v.a=C.word v.a) (hb:C'.word v.b=C.word v.b):execP C' L' v=execP C L v:=by
 unfold execP regsP
 rw [hm,hh,hk,ha,hb]
theorem word_set {words:List Int} {d p:Int} (w:Int) (hd:0≤d) (hp:0≤p) (h:p≠d):(words.set d.toNat w).getD p.toNat 0=words.getD p.toNat 0:=by
 rw [getD_set,if_neg (by omega)]
theorem has_set {there:List Bool} {d p:Int} (w:Bool) (hd:0≤d) (hp:0≤p) (h:p≠d):(there.set d.toNat w).getD p.toNat false=there.getD p.toNat false:=by
 simp only [List.getD]
 rw [List.getElem?_set_ne (by omega)]
theorem word_self {words:List Int} {d:Int} (w:Int) (hd:0≤d) (h:d<words.length):(words.set d.toNat w).getD d.toNat 0=w:=by
 rw [getD_set,if_pos (by omega)]
theorem has_self {there:List Bool} {d:Int} (w:Bool) (hd:0≤d) (h:d<there.length):(there.set d.toNat w).getD d.toNat false=w:=by
 simp only [List.getD]
 rw [List.getElem?_set_self (by omega)]
 rfl
theorem chain_regs {N M:RMap}:∀ {ops:List Uop},NChain N ops M→NGood N→∀ {L R:List Uop} {u:Uop},ops=L++u::R→∃ K K',NGood K∧NOk K u∧NChain N L K∧K'=nextN K u∧NChain K' R M:=by
 intro ops h hg L R u ho
 subst ho
 obtain⟨K,h1,h2,h3⟩:=NChain.append.1 h
 exact⟨K,_,h1.good hg,h2,h1,rfl,h3⟩
theorem uop_regs {N M:RMap} {C:Core} {L R:List Uop} {u:Uop} (hc:NChain N (L++u::R) M) (hg:NGood N) (hu:OpOk C L u R):(0≤u.a∧u.a<96)∧(0≤u.b∧u.b<96)∧0≤u.dest∧u.dest<96:=by
 obtain⟨K,_,hK,hN,_⟩:=chain_regs hc hg rfl
 have hd:0≤u.dest∧u.dest<96:=by
  by_cases h:0<u.dest
  ·have hf:=(hN.dst h).2.2.1
   have:=hK.free_pos (p:=u.dest) (by rw [hf];simp)
   omega
  ·have:=(hN.nodst (by omega)).1
   omega
 by_cases hc:u.cause=0
 ·obtain⟨e1,e2⟩:=hN.src hc
  have hi:=is_op (Inv.insOk hu hc)
  rw [e1,e2]
  exact⟨hK.reg_range (by omega),hK.reg_range (by omega),hd⟩
 ·obtain⟨_,_,e1,e2,_⟩:=hu.fault hc
  rw [e1,e2]
  exact⟨by omega,by omega,hd⟩
theorem Inv.apart {C:Core} (h:Inv C):C.ops.Pairwise Apart:=by
 obtain⟨N,hg,_,hc,_⟩:=h.names
 refine hc.apart hg (fun u hu=>fun hcz=>?_) (fun u hu=>fun hcn=>?_)
 ·obtain⟨L,R,e⟩:=List.append_of_mem hu
  have:=is_op (Inv.insOk (h.ops L u R e) hcz)
  omega
 ·obtain⟨L,R,e⟩:=List.append_of_mem hu
  obtain⟨_,_,e1,e2,_⟩:=(h.ops L u R e).fault hcn
  exact⟨e1,e2⟩
theorem Inv.head {C:Core} (h:Inv C) {L R:List Uop} {u:Uop} (ho:C.ops=L++u::R) (hs:u.seq=(C.op 0).seq):L=[]:=by
 cases L with
 |nil=>rfl
 |cons x L=>
  exfalso
  have hx:C.op 0=x:=by unfold Core.op;rw [ho];rfl
  have hp:=h.seqs
  rw [ho,List.cons_append] at hp
  have:=(List.pairwise_cons.1 hp).1 u (by simp)
  rw [hx] at hs
  omega
theorem Inv.begun {C:Core} (h:Inv C) {L R:List Uop} {u u':Uop} (ho:C.ops=L++u::R) (s:List Int) (words:List Int) (there:List Bool)
  (hu:u'={ u with state:=1,ready:=u'.ready,guessed:=u'.guessed }) (h0:u.state=0) (ha:C.has u.a=true) (hb:C.has u.b=true) (hal:aloneB u.ins=true→L=[])
  (hw:words.length=96∧∀ x∈words,0≤x∧x≤4294967295) (ht:there.length=96)
  (hsame:∀ p:Int,0≤p→(0<u.dest→p≠u.dest)→words.getD p.toNat 0=C.word p∧there.getD p.toNat false=C.has p) (hmono:∀ p:Int,C.has p=true→there.getD p.toNat false=true)
  (hg:u'.guessed=true→0<u.dest∧loadsB u.ins=true) (hg2:0<u.dest→there.getD u.dest.toNat false=true→u'.guessed=true) :
  Inv { C with ops:=L++u'::R,script:=s,words:=words,there:=there }:=by
 obtain⟨N,hgN,hlN,hcN,hvN⟩:=h.names
 have hap:=h.apart
 have hreg:∀ L' v R',C.ops=L'++v::R'→(0≤v.a∧v.a<96)∧(0≤v.b∧v.b<96)∧0≤v.dest∧v.dest<96:=fun L' v R' e=>uop_regs (by rw [←e];exact hcN) hgN (h.ops L' v R' e)
 have hops:=h.ops
 rw [ho] at hap hcN hops hreg
 obtain⟨hap1,hap2,hap3⟩:=List.pairwise_append.1 hap
 have huR:=(List.pairwise_cons.1 hap2).1
 have hOu:=hops L u R rfl
 have hstop:stopB u'=stopB u:=by rw [hu];unfold stopB;simp [h0]
 have hkn:stKnown u=false:=by unfold stKnown;rw [h0];simp
 have hkn':stKnown u'=false:=by rw [hu];unfold stKnown;simp
 have hmem:memB u'=memB u:=by rw [hu];rfl
 have hother:∀ L' v R',L++u::R=L'++v::R'→v≠u∨L'≠L→(v.state≠0→v.cause=0→(0<u.dest→v.a≠u.dest∧v.b≠u.dest))∧(0<u.dest→0<v.dest→v.dest≠u.dest):=by
  intro L' v R' e hne
  rcases split_at e with⟨e1,e2,_⟩ | ⟨X,e1,e2⟩ | ⟨X,e1,e2⟩
  ·exact absurd e1 (by rcases hne with hh | hh;exact absurd e2 hh;exact hh)
  ·have:=hap3 v (by rw [e1];simp) u (by simp)
   exact⟨fun _ _ hd=>⟨this.a hd,this.b hd⟩,fun hd _=>this.d hd⟩
  ·have hv:=huR v (by rw [e2];simp)
   have hOv:=hops L' v R' e
   refine⟨fun hs hc hd=>?_,fun hd hd'=>fun e=>hv.d hd' e.symm⟩
   have hnot:C.has u.dest=true→False:=fun hh=>by
    have:=hOu.gs (hOu.d1 hd (by omega) hh)
    exact this.1 h0
   obtain⟨s1,s2⟩:=hOv.src hc hs
   exact⟨fun e=>hnot (e▸s1),fun e=>hnot (e▸s2)⟩
 have hacc:∀ L' v R',L++u::R=L'++v::R'→v≠u∨L'≠L→accOf words v=accOf C.words v:=by
  intro L' v R' e hne
  unfold accOf
  split
  ·rfl
  ·split
   ·rename_i hl
    have hOv:=hops L' v R' e
    have hc:v.cause=0:=by
     rcases Decidable.em (v.cause=0) with hc | hc
     ·exact hc
     ·obtain⟨_,e1,_⟩:=hOv.fault hc
      have:=hl.2.2
      rw [e1] at this
      cases this
    have h1:=(hother L' v R' e hne).1 (by omega) hc
    have h2:=(hsame v.a (hreg L' v R' e).1.1 (fun hd=>(h1 hd).1)).1
    unfold wordOf
    rw [h2]
    rfl
   ·rfl
 refine⟨h.cfg,h.hart,h.may,h.runs,h.bytes,h.room,h.tab,hw,ht,?_,?_,?_,⟨N,hgN,hlN,?_,fun r hr=>?_⟩,?_,?_,h.seq0,h.pc,?_⟩
 ·show C.slots=(L++u'::R).map slotOf
  rw [h.slots,ho]
  simp only [List.map_append,List.map_cons]
  congr 2
  rw [hu];unfold slotOf;simp [h0]
 ·show(L++u'::R).Pairwise _
  have:=h.seqs
  rw [ho] at this
  rw [List.pairwise_append,List.pairwise_cons] at this ⊢
  obtain⟨p1,⟨p2,p3⟩,p4⟩:=this
  have hseq:u'.seq=u.seq:=by rw [hu]
  refine⟨p1,⟨fun v hv=>by rw [hseq];exact p2 v hv,p3⟩,fun a ha b hb=>?_⟩
  rcases List.mem_cons.1 hb with rfl | hb
  ·rw [hseq];exact p4 a ha u (by simp)
  ·exact p4 a ha b (by simp [hb])
 ·show C.access=((L++u'::R).filter memB).map (accOf words)
  rw [h.access,ho]
  have hL:(L.filter memB).map (accOf words)=(L.filter memB).map (accOf C.words):=List.map_congr_left fun v hv=>by
   obtain⟨X,Y,e⟩:=List.append_of_mem (List.mem_filter.1 hv).1
   exact hacc X v (Y++u::R) (by rw [e];simp) (Or.inr (by rw [e];intro hh;have:=congrArg List.length hh;simp at this))
  have hR:(R.filter memB).map (accOf words)=(R.filter memB).map (accOf C.words):=List.map_congr_left fun v hv=>by
   obtain⟨X,Y,e⟩:=List.append_of_mem (List.mem_filter.1 hv).1
   exact hacc (L++u::X) v Y (by simp [e]) (Or.inr (fun hh=>by have:=congrArg List.length hh;simp at this))
  have hU:accOf words u'=accOf C.words u:=by
   unfold accOf
   rw [hkn,hkn',hu]
   simp [h0]
  rw [List.filter_append,List.filter_append,List.map_append,List.map_append,hL]
  congr 1
  rcases hm:memB u with _ | _
  ·rw [List.filter_cons_of_neg (by simp [hm]),List.filter_cons_of_neg (by rw [hmem];simp [hm]),hR]
  ·rw [List.filter_cons_of_pos hm,List.filter_cons_of_pos (by rw [hmem];exact hm),List.map_cons,List.map_cons,hR,hU]
 ·show NChain N (L++u'::R) C.names
  rw [NChain.append] at hcN ⊢
  obtain⟨K,h1,h2,h3⟩:=hcN
  refine⟨K,h1,?_,?_⟩
  ·rw [hu];exact⟨h2.src,h2.dst,h2.nodst⟩
  ·have:nextN K u'=nextN K u:=by rw [hu];rfl
   rw [this]
   exact h3
 ·have hr0:=hgN.reg_range (i:=r) hr
  have hne:0<u.dest→N.regs.getD r 0≠u.dest:=fun hd e=>hgN.disjoint (hgN.reg_mem hr) (e▸hcN.dest_free u (by simp) hd)
  obtain⟨e1,e2⟩:=hsame _ hr0.1 hne
  exact⟨e2.trans (hvN r hr).1,e1.trans (hvN r hr).2⟩
 ·show PChain C.hart.pc (L++u'::R) C.pc
  have:=h.pcs
  rw [ho] at this
  revert this
  generalize C.hart.pc=p
  clear h ho h0 ha hb hal hw ht hsame hmono hg hg2 hcN hvN hap hap1 hap2 hap3 huR hreg hops hOu hkn hkn' hmem hother hacc
  induction L generalizing p with
  |nil=>
   rintro⟨h1,h2⟩
   refine⟨by rw [hu];exact h1,?_⟩
   rw [hstop]
   have:u'.next=u.next:=by rw [hu]
   rw [this]
   exact h2
  |cons x L ih=>
   rintro⟨h1,h2⟩
   refine⟨h1,?_⟩
   by_cases hs:stopB x=true
   ·rw [if_pos hs] at h2 ⊢
    simp at h2
   ·rw [if_neg hs] at h2 ⊢
    exact ih _ h2
 ·show(L++u'::R).length≤C.window
  have:=h.len
  rw [ho] at this
  simpa using this
 ·intro L' v R' e
  have e:L++u'::R=L'++v::R':=e
  rcases split_at e with⟨rfl,rfl,rfl⟩ | ⟨X,e1,e2⟩ | ⟨X,e1,e2⟩
  ·
   have e':∀ {α:Type} (f:Uop→α),f v=f { u with state:=1,ready:=v.ready,guessed:=v.guessed }:=fun f=>congrArg f hu
   have i1:v.ins=u.ins:=e' Uop.ins
   have i2:v.cause=u.cause:=e' Uop.cause
   have i3:v.a=u.a:=e' Uop.a
   have i4:v.b=u.b:=e' Uop.b
   have i5:v.dest=u.dest:=e' Uop.dest
   have i6:v.seq=u.seq:=e' Uop.seq
   have i7:v.pc=u.pc:=e' Uop.pc
   have i8:v.next=u.next:=e' Uop.next
   have i9:v.state=1:=e' Uop.state
   have hcz:u.cause=0:=by
    rcases Decidable.em (u.cause=0) with hc | hc
    ·exact hc
    ·have:=(hOu.fault hc).1;omega
   refine⟨by rw [i6];exact hOu.seq,Or.inr (Or.inl i9),fun hc=>absurd hcz (by rw [←i2];exact hc),by rw [i2];exact hOu.cause,by rw [i1,i2,i6,i7];exact hOu.fetch,by rw [i7];exact hOu.pc,by rw [i8];exact hOu.next,
    by rw [i1,i2,i7,i8];exact hOu.nextS,fun _ _=>⟨?_,?_⟩,fun hgg=>⟨by omega,by rw [i5];exact(hg hgg).1,by rw [i1];exact(hg hgg).2⟩,fun hd _ hh=>?_,fun _ hs=>by omega,fun _ hs=>by omega,fun hs=>by omega,fun hl _=>by rw [i1] at hl;exact hal hl,fun hl=>?_⟩
   ·show there.getD v.a.toNat false=true
    rw [i3];exact hmono _ ha
   ·show there.getD v.b.toNat false=true
    rw [i4];exact hmono _ hb
   ·rw [i5] at hd
    exact hg2 hd (by rw [←i5];exact hh)
   ·have:lastB u=true:=by unfold lastB at hl ⊢;rw [←hstop,←i1];exact hl
    exact hOu.last this
  ·
   subst e1 e2
   have hO:=hops L' v (X++u::R) (by simp)
   have hne:L'≠L'++v::X:=fun hh=>by have:=congrArg List.length hh;simp at this
   obtain⟨o1,o2⟩:=hother L' v (X++u::R) (by simp) (Or.inr hne)
   obtain⟨q1,q2,q3,_⟩:=hreg L' v (X++u::R) (by simp)
   refine hO.congr hO.seq.2 id (fun hh=>by simp at hh) (fun _ hh=>hh) rfl (fun hc hs=>⟨hmono _,hmono _⟩) (fun hd=>?_) (fun hc hs=>?_)
   ·obtain⟨e1,e2⟩:=hsame v.dest q3 (fun hd'=>o2 hd' hd)
    exact⟨e2,e1⟩
   ·have:=o1 (by omega) hc
    exact execP_congr rfl rfl rfl (hsame v.a q1.1 fun hd=>(this hd).1).1 (hsame v.b q2.1 fun hd=>(this hd).2).1
  ·
   subst e1 e2
   have hO:=hops (L++u::X) v R' (by simp)
   have hne:L++u::X≠L:=fun hh=>by have:=congrArg List.length hh;simp at this
   obtain⟨o1,o2⟩:=hother (L++u::X) v R' (by simp) (Or.inr hne)
   obtain⟨q1,q2,q3,_⟩:=hreg (L++u::X) v R' (by simp)
   have hk:known (L++u'::X)=known (L++u::X):=known_set hkn hkn'
   refine hO.congr hO.seq.2 (fun hh=>by simp at hh) id (fun _ hh=>hh) (by rw [hk]) (fun hc hs=>⟨hmono _,hmono _⟩) (fun hd=>?_) (fun hc hs=>?_)
   ·obtain⟨e1,e2⟩:=hsame v.dest q3 (fun hd'=>o2 hd' hd)
    exact⟨e2,e1⟩
   ·have:=o1 (by omega) hc
    exact execP_congr rfl rfl hk (hsame v.a q1.1 fun hd=>(this hd).1).1 (hsame v.b q2.1 fun hd=>(this hd).2).1
theorem begin_inv {C:Core} (h:Inv C) {L R:List Uop} {u:Uop} (ho:C.ops=L++u::R) (now:Int):Inv (beginP C L.length now (C.op 0).seq).2:=by
 have hu:C.op L.length=u:=Core.op_at ho
 unfold beginP
 rw [hu]
 simp only [ho,set_at]
 split
 ·exact h
 rename_i hn
 have h0:u.state=0:=by rcases Decidable.em (u.state=0) with e | e;exact e;exact absurd (Or.inl e) hn
 have ha:C.has u.a=true:=by rcases e:C.has u.a with _ | _;exact absurd (Or.inr (Or.inl e)) hn;rfl
 have hb:C.has u.b=true:=by rcases e:C.has u.b with _ | _;exact absurd (Or.inr (Or.inr (Or.inl e))) hn;rfl
 have hal:aloneB u.ins=true→L=[]:=fun hl=>by
  rcases Decidable.em (u.seq=(C.op 0).seq) with e | e
  ·exact h.head ho e
  ·exact absurd (Or.inr (Or.inr (Or.inr ⟨hl,e⟩))) hn
 clear hn
 obtain⟨N,hgN,_,hcN,_⟩:=h.names
 have hO:=h.ops L u R ho
 obtain⟨_,_,hd0,hd1⟩:=uop_regs (by rw [←ho];exact hcN) hgN hO
 have hgz:u.guessed=false:=by
  rcases e:u.guessed with _ | _
  ·rfl
  ·exact absurd h0 (hO.gs e).1
 have plain:∀ (s:List Int) (r:Int),Inv { C with ops:=L++{ u with state:=1,ready:=r }::R,script:=s }:=fun s r=>
  h.begun ho s C.words C.there rfl h0 ha hb hal h.words h.there (fun p _ _=>⟨rfl,rfl⟩) (fun p hp=>hp) (fun hg=>by have hg:u.guessed=true:=hg;rw [hgz] at hg;cases hg)
   (fun hd hh=>by
    have:=hO.d1 hd (by omega) hh
    rw [hgz] at this;cases this)
 split
 ·exact plain C.script _
 split
 ·rename_i hl
  split
  ·rename_i hg
   show Inv { putW32 _ u.dest _ with ops:=_ }
   unfold putW32
   rw [if_pos hg.1]
   refine h.begun ho _ _ _ rfl h0 ha hb hal ⟨by simp [h.words.1],fun x hx=>?_⟩ (by simp [h.there]) (fun p hp hne=>⟨word_set _ hd0 hp (hne hg.1),has_set _ hd0 hp (hne hg.1)⟩) (fun p hp=>?_) (fun _=>⟨hg.1,hl⟩) (fun _ _=>rfl)
   ·rcases List.mem_or_eq_of_mem_set hx with hx | rfl
    ·exact h.words.2 x hx
    ·exact u32_bd _
   ·by_cases e:p.toNat=u.dest.toNat
    ·have:=has_self (there:=C.there) true hd0 (by rw [h.there];exact hd1)
     rw [e];exact this
    ·simp only [List.getD]
     rw [List.getElem?_set_ne (fun x=>e x.symm)]
     exact hp
  ·exact plain C.script.tail _
 ·exact plain C.script _
theorem idxP_at {α:Type} (p:α→Bool):∀ (P:List α) (b:α) (Q:List α) (k:Int),(∀ x∈P,p x=false)→p b=true→idxP p (P++b::Q) k=k+P.length
 |[],b,Q,k,_,h=>by
  show(if p b=true then k else _)=_
  rw [if_pos h]
  simp
 |x::P,b,Q,k,h,hb=>by
  show(if p x=true then k else idxP p (P++b::Q) (k+1))=_
  rw [if_neg (by rw [h x (by simp)];simp),idxP_at p P b Q (k+1) (fun y hy=>h y (by simp [hy])) hb]
  simp
  omega
theorem seqs_split {P Q:List Uop} {b:Uop} (h:(P++b::Q).Pairwise (fun u v=>u.seq<v.seq)):(∀ x∈P,x.seq<b.seq)∧∀ x∈Q,b.seq<x.seq:=by
 rw [List.pairwise_append,List.pairwise_cons] at h
 exact⟨fun x hx=>h.2.2 x hx b (by simp),h.2.1.1⟩
theorem find_at {P Q:List Uop} {b:Uop} (h:(P++b::Q).Pairwise (fun u v=>u.seq<v.seq)):findU (P++b::Q) b.seq=P.length:=by
 unfold findU
 rw [idxP_at (fun u:Uop=>decide (u.seq=b.seq)) P b Q 0 (fun x hx=>decide_eq_false (by have:=(seqs_split h).1 x hx;omega)) (decide_eq_true rfl)]
 omega
theorem got_at {P Q:List Uop} {b:Uop} (h:(P++b::Q).Pairwise (fun u v=>u.seq<v.seq)):(P++b::Q).getD (findU (P++b::Q) b.seq).toNat uopZ=b:=by
 rw [find_at h]
 simp [List.getD]
theorem undo_all {M:RMap}:∀ {B A:List Uop} {K:RMap},NChain K B M→NGood K→(A++B).Pairwise (fun u v=>u.seq<v.seq)→((B.map (·.seq)).reverse).foldl (undoOne (A++B)) M=K
 |[],_,_,h,_,_=>by cases h;rfl
 |b::B,A,K,⟨h,h1⟩,hg,hp=>by
  rw [List.map_cons,List.reverse_cons,List.foldl_append]
  have e:A++b::B=(A++[b])++B:=by simp
  rw [e,undo_all h1 (hg.next h) (by rw [←e];exact hp),←e]
  show undoOne (A++b::B) (nextN K b) b.seq=K
  unfold undoOne
  rw [got_at hp]
  simp only
  split
  ·rename_i hd
   rw [undo_next hg h hd]
   rfl
  ·rename_i hd
   unfold nextN
   rw [if_neg hd]
theorem filter_lt {A B:List Uop} {s:Int} (hA:∀ u∈A,u.seq<s) (hB:∀ u∈B,s≤u.seq):(A++B).filter (fun u=>!decide (s≤u.seq))=A:=by
 rw [List.filter_append,List.filter_eq_self.2 (fun u hu=>by have:=hA u hu;simp;omega),List.filter_eq_nil_iff.2 (fun u hu=>by have:=hB u hu;simp;omega),List.append_nil]
theorem back_eq {c:Core} {A B:List Uop} {K:RMap} {g:Uop→Acc} {s:Int} (pc:Int) (ho:c.ops=A++B) (hs:c.slots=(A++B).map slotOf) (hp:(A++B).Pairwise (fun u v=>u.seq<v.seq))
  (hA:∀ u∈A,u.seq<s) (hB:∀ u∈B,s≤u.seq) (hg:∀ u,(g u).seq=u.seq) (hacc:c.access=((A++B).filter memB).map g) (hN:NChain K B c.names) (hK:NGood K) :
  backP c s pc={ c with backs:=c.backs+1,names:=K,slots:=A.map slotOf,ops:=A,access:=(A.filter memB).map g,pc:=pc,still:=false }:=by
 have hcutO:cutO c.slots s=(B.map (·.seq)).reverse:=by
  unfold cutO
  rw [hs,List.map_append,List.filter_append,List.filter_eq_nil_iff.2 (fun x hx=>?_),List.filter_eq_self.2 (fun x hx=>?_)]
  ·simp [slotOf,Function.comp_def]
  ·obtain⟨u,hu,rfl⟩:=List.mem_map.1 hx
   have:=hB u hu
   exact decide_eq_true (p:=s≤u.seq) this
  ·obtain⟨u,hu,rfl⟩:=List.mem_map.1 hx
   have:=hA u hu
   exact fun h=>by have:=of_decide_eq_true (p:=s≤u.seq) h;omega
 have hcutL:cutL c.slots s=A.map slotOf:=by
  unfold cutL
  rw [hs,List.map_append,List.filter_append,List.filter_eq_self.2 (fun x hx=>?_),List.filter_eq_nil_iff.2 (fun x hx=>?_),List.append_nil]
  ·obtain⟨u,hu,rfl⟩:=List.mem_map.1 hx
   have:=hB u hu
   exact fun h=>by have:=of_decide_eq_true (p:=u.seq<s) h;omega
  ·obtain⟨u,hu,rfl⟩:=List.mem_map.1 hx
   have:=hA u hu
   exact decide_eq_true (p:=u.seq<s) this
 unfold backP
 rw [hcutO,hcutL,ho,undo_all hN hK hp,filter_lt hA hB]
 have hac:c.access.filter (fun a=>!decide (s≤a.seq))=(A.filter memB).map g:=by
  rw [hacc,List.filter_map,List.filter_filter]
  congr 1
  rw [List.filter_append,List.filter_eq_nil_iff (l:=B).2 (fun u hu=>by have:=hB u hu;simp [hg];omega),List.append_nil]
  refine List.filter_congr fun u hu=>?_
  have:=hA u hu
  simp [hg]
  omega
 rw [hac]
theorem accOf_seq (words:List Int) (u:Uop):(accOf words u).seq=u.seq:=by
 unfold accOf accS
 (repeat' split)<;>rfl
theorem relB_accOf (words:List Int) (seq p:Int) (u:Uop):relB seq p (accOf words u)=(stKnown u&&relB seq p (accS u)):=by
 unfold accOf
 rcases hk:stKnown u with _ | _
 ·rw [if_neg (by simp)]
  split
  ·unfold relB;simp
  ·unfold relB;simp
 ·rw [if_pos rfl];simp
theorem stKnown_mem {u:Uop} (h:stKnown u=true):memB u=true:=by
 unfold stKnown at h
 unfold memB
 simp only [Bool.and_eq_true] at h
 rw [h.1.1]
 simp
theorem access_rel (words:List Int) (seq p:Int):∀ ops:List Uop,((ops.filter memB).map (accOf words)).filter (relB seq p)=(known ops).filter (relB seq p)
 |[]=>rfl
 |u::ops=>by
  have ih:=access_rel words seq p ops
  unfold known at ih ⊢
  rcases hk:stKnown u with _ | _
  ·rw [List.filter_cons_of_neg (p:=stKnown) (by simp [hk])]
   rcases hm:memB u with _ | _
   ·rw [List.filter_cons_of_neg (p:=memB) (by simp [hm])]
    exact ih
   ·rw [List.filter_cons_of_pos (p:=memB) hm,List.map_cons,List.filter_cons_of_neg (by rw [relB_accOf,hk];simp)]
    exact ih
  ·have ha:accOf words u=accS u:=by unfold accOf;rw [if_pos hk]
   rw [List.filter_cons_of_pos (p:=stKnown) hk,List.filter_cons_of_pos (p:=memB) (stKnown_mem hk),List.map_cons,List.map_cons,ha]
   rcases hr:relB seq p (accS u) with _ | _
   ·rw [List.filter_cons_of_neg (by simp [hr]),List.filter_cons_of_neg (by simp [hr])]
    exact ih
   ·rw [List.filter_cons_of_pos hr,List.filter_cons_of_pos hr,ih]
theorem known_rel {A B:List Uop} {seq:Int} (p:Int) (h:∀ v∈B,seq≤v.seq):(known (A++B)).filter (relB seq p)=(known A).filter (relB seq p):=by
 rw [known_append,List.filter_append]
 have:(known B).filter (relB seq p)=[]:=by
  rw [List.filter_eq_nil_iff]
  intro a ha
  obtain⟨v,hv,rfl⟩:=List.mem_map.1 ha
  have:=h v (List.mem_filter.1 hv).1
  unfold relB accS
  simp
  omega
 rw [this,List.append_nil]
theorem see_access {words:List Int} {A B:List Uop} {seq:Int} (m:List Int) (p many:Int) (h:∀ v∈B,seq≤v.seq) :
  (seeP (((A++B).filter memB).map (accOf words)) m seq p many).1=(seeP (known A) m seq p many).1∧(seeP (((A++B).filter memB).map (accOf words)) m seq p many).2.1=(seeP (known A) m seq p many).2.1:=
 seeP_congr rfl fun q _ _ _ _=>byteP_congr m (by rw [access_rel,known_rel q h])
theorem known_seqs {A:List Uop} (h:A.Pairwise (fun u v=>u.seq<v.seq)):(known A).Pairwise (fun a c=>a.seq≤c.seq):=by
 unfold known
 rw [List.pairwise_map]
 exact(h.sublist List.filter_sublist).imp fun h=>Int.le_of_lt h
theorem PChain.cut {v:Uop} {Y:List Uop}:∀ {A:List Uop} {p q:Int},PChain p (A++v::Y) q→PChain p A v.pc∧∀ x∈A,stopB x=false
 |[],p,q,⟨h1,_⟩=>⟨h1.symm,fun x hx=>by cases hx⟩
 |a::A,p,q,⟨h1,h2⟩=>by
  by_cases hs:stopB a=true
  ·rw [if_pos hs] at h2
   simp at h2
  ·rw [if_neg hs] at h2
   obtain⟨h3,h4⟩:=PChain.cut h2
   refine⟨⟨h1,by rw [if_neg hs];exact h3⟩,fun x hx=>?_⟩
   rcases List.mem_cons.1 hx with rfl | hx
   ·simpa using hs
   ·exact h4 x hx
theorem PChain.snoc {u:Uop}:∀ {A:List Uop} {p:Int},PChain p A u.pc→(∀ x∈A,stopB x=false)→∀ q,(stopB u=false→u.next=q)→PChain p (A++[u]) q
 |[],p,h,_,q,hq=>by
  refine⟨(show p=u.pc from h).symm,?_⟩
  split
  ·rfl
  ·rename_i hs
   exact hq (by simpa using hs)
 |a::A,p,⟨h1,h2⟩,hs,q,hq=>by
  have ha:=hs a (by simp)
  refine⟨h1,?_⟩
  rw [if_neg (by rw [ha];simp)] at h2 ⊢
  exact PChain.snoc h2 (fun x hx=>hs x (by simp [hx])) q hq
theorem PChain.put {u u':Uop} {X:List Uop} (hpc:u'.pc=u.pc) (hn:u'.next=u.next) (hs:stopB u'=stopB u) {q:Int}:∀ {L:List Uop} {p:Int},PChain p (L++u::X) q→PChain p (L++u'::X) q
 |[],p,⟨h1,h2⟩=>⟨by rw [hpc];exact h1,by rw [hs,hn];exact h2⟩
 |a::L,p,⟨h1,h2⟩=>by
  refine⟨h1,?_⟩
  by_cases hst:stopB a=true
  ·rw [if_pos hst] at h2
   simp at h2
  ·rw [if_neg hst] at h2 ⊢
   exact PChain.put hpc hn hs h2
theorem Inv.done {C:Core} (h:Inv C) {L X Y:List Uop} {u u':Uop} (ho:C.ops=L++u::(X++Y)) (h1:u.state=1)
  (hu:u'={ u with state:=2,commit:=execP C L u,next:=u'.next }) (words:List Int) (there:List Bool)
  (hw:words.length=96∧∀ x∈words,0≤x∧x≤4294967295) (ht:there.length=96)
  (hsame:∀ p:Int,0≤p→(0<u.dest→p≠u.dest)→words.getD p.toNat 0=C.word p∧there.getD p.toNat false=C.has p)
  (hd:0<u.dest→there.getD u.dest.toNat false=true∧words.getD u.dest.toNat 0=(execP C L u).value)
  (hold:X≠[]→0<u.dest→C.has u.dest=true→C.word u.dest=(execP C L u).value)
  (M:RMap) (hM:∀ N,NChain N (L++u::X++Y) C.names→NGood N→NChain N (L++u::X) M)
  (hf:∀ X1 v X2,X=X1++v::X2→seeAt (known (L++u'::X1)) C.mem v.seq v.pc=seeAt (known (L++u::X1)) C.mem v.seq v.pc)
  (hl:∀ X1 v X2,X=X1++v::X2→loadsB v.ins=true→v.state=2→loadX (known (L++u'::X1)) C.mem v (C.word v.a)=loadX (known (L++u::X1)) C.mem v (C.word v.a))
  (pc backs:Int) (still:Bool) (hpc:PChain C.hart.pc (L++u'::X) pc) (hpcr:0≤pc∧pc≤4294967295)
  (hnr:0≤u'.next∧u'.next≤4294967295) (hnx:stopB u'=false→u'.next=(execP C L u).next) (hns:(storesB u.ins || aloneB u.ins)=true→u'.next=u32 (u.pc+4))
  (hlast:lastB u'=true→X=[]∧still=true) (hst:Y=[]→X≠[]→C.still=true→still=true) :
  Inv { C with ops:=L++u'::X,slots:=(L++u'::X).map slotOf,access:=((L++u'::X).filter memB).map (accOf words),names:=M,words:=words,there:=there,pc:=pc,still:=still,backs:=backs }:=by
 obtain⟨N,hgN,hlN,hcN,hvN⟩:=h.names
 have hap:=h.apart
 have hreg:∀ L' v R',C.ops=L'++v::R'→(0≤v.a∧v.a<96)∧(0≤v.b∧v.b<96)∧0≤v.dest∧v.dest<96:=fun L' v R' e=>uop_regs (by rw [←e];exact hcN) hgN (h.ops L' v R' e)
 have hops:=h.ops
 have hsq:=h.seqs
 rw [ho] at hap hcN hops hreg hsq
 obtain⟨hap1,hap2,hap3⟩:=List.pairwise_append.1 hap
 have huR:=(List.pairwise_cons.1 hap2).1
 have hOu:=hops L u (X++Y) rfl
 have e':∀ {α:Type} (f:Uop→α),f u'=f { u with state:=2,commit:=execP C L u,next:=u'.next }:=fun f=>congrArg f hu
 have i1:u'.ins=u.ins:=e' Uop.ins
 have i2:u'.cause=u.cause:=e' Uop.cause
 have i3:u'.a=u.a:=e' Uop.a
 have i4:u'.b=u.b:=e' Uop.b
 have i5:u'.dest=u.dest:=e' Uop.dest
 have i6:u'.seq=u.seq:=e' Uop.seq
 have i7:u'.pc=u.pc:=e' Uop.pc
 have i9:u'.state=2:=e' Uop.state
 have i10:u'.commit=execP C L u:=e' Uop.commit
 have i11:u'.guessed=u.guessed:=e' Uop.guessed
 have i12:u'.old=u.old:=e' Uop.old
 have hcz:u.cause=0:=by
  rcases Decidable.em (u.cause=0) with hc | hc
  ·exact hc
  ·have:=(hOu.fault hc).1;omega
 have hmem:memB u'=memB u:=by unfold memB;rw [i1]
 have hbeh:∀ v∈X++Y,0<v.dest→u.a≠v.dest∧u.b≠v.dest∧u.dest≠v.dest:=fun v hv hd'=>⟨(huR v hv).a hd',(huR v hv).b hd',(huR v hv).d hd'⟩
 have hself:0<u.dest→u.a≠u.dest∧u.b≠u.dest:=by
  intro hd'
  obtain⟨K,_,hK,hNk,_⟩:=chain_regs hcN hgN rfl
  have hfr:u.dest∈K.free:=by rw [(hNk.dst hd').2.2.1];simp
  have hi:=is_op (Inv.insOk hOu hcz)
  obtain⟨m1,m2⟩:=hNk.src_mem hK (fun _=>⟨by omega,by omega⟩) hcz
  exact⟨fun e=>hK.disjoint m1 (e▸hfr),fun e=>hK.disjoint m2 (e▸hfr)⟩
 have hLw:∀ v∈L,words.getD v.a.toNat 0=C.word v.a∧there.getD v.a.toNat false=C.has v.a∧words.getD v.b.toNat 0=C.word v.b∧there.getD v.b.toNat false=C.has v.b∧words.getD v.dest.toNat 0=C.word v.dest∧there.getD v.dest.toNat false=C.has v.dest:=by
  intro v hv
  obtain⟨P,Q,e⟩:=List.append_of_mem hv
  obtain⟨q1,q2,q3,_⟩:=hreg P v (Q++u::(X++Y)) (by rw [e];simp)
  have ha:=hap3 v hv u (by simp)
  obtain⟨a1,a2⟩:=hsame v.a q1.1 ha.a
  obtain⟨b1,b2⟩:=hsame v.b q2.1 ha.b
  obtain⟨d1,d2⟩:=hsame v.dest q3 ha.d
  exact⟨a1,a2,b1,b2,d1,d2⟩
 have hUw:words.getD u.a.toNat 0=C.word u.a∧there.getD u.a.toNat false=C.has u.a∧words.getD u.b.toNat 0=C.word u.b∧there.getD u.b.toNat false=C.has u.b:=by
  obtain⟨q1,q2,_⟩:=hreg L u (X++Y) rfl
  obtain⟨a1,a2⟩:=hsame u.a q1.1 fun hd'=>(hself hd').1
  obtain⟨b1,b2⟩:=hsame u.b q2.1 fun hd'=>(hself hd').2
  exact⟨a1,a2,b1,b2⟩
 have hXw:∀ X1 v X2,X=X1++v::X2→v.cause=0→v.state≠0→words.getD v.a.toNat 0=C.word v.a∧there.getD v.a.toNat false=C.has v.a∧words.getD v.b.toNat 0=C.word v.b∧there.getD v.b.toNat false=C.has v.b:=by
  intro X1 v X2 e hc hs
  have hOv:=hops (L++u::X1) v (X2++Y) (by rw [e];simp)
  obtain⟨q1,q2,_⟩:=hreg (L++u::X1) v (X2++Y) (by rw [e];simp)
  obtain⟨s1,s2⟩:=hOv.src hc hs
  have key:∀ p:Int,0≤p→C.has p=true→words.getD p.toNat 0=C.word p∧there.getD p.toNat false=C.has p:=by
   intro p hp hh
   by_cases hpd:0<u.dest∧p=u.dest
   ·obtain⟨hd',rfl⟩:=hpd
    obtain⟨d1,d2⟩:=hd hd'
    rw [d1,d2,hh,hold (by rw [e];simp) hd' hh]
    exact⟨rfl,rfl⟩
   ·exact hsame p hp fun hd' hpe=>hpd ⟨hd',hpe⟩
  obtain⟨a1,a2⟩:=key v.a q1.1 s1
  obtain⟨b1,b2⟩:=key v.b q2.1 s2
  exact⟨a1,a2,b1,b2⟩
 refine⟨h.cfg,h.hart,h.may,h.runs,h.bytes,h.room,h.tab,hw,ht,rfl,?_,rfl,⟨N,hgN,hlN,?_,fun r hr=>?_⟩,hpc,?_,h.seq0,hpcr,?_⟩
 ·show(L++u'::X).Pairwise _
  rw [List.pairwise_append,List.pairwise_cons] at hsq ⊢
  obtain⟨p1,⟨p2,p3⟩,p4⟩:=hsq
  refine⟨p1,⟨fun v hv=>by rw [i6];exact p2 v (by simp [hv]),p3.sublist (List.sublist_append_left _ _)⟩,fun a ha b hb=>?_⟩
  rcases List.mem_cons.1 hb with rfl | hb
  ·rw [i6];exact p4 a ha u (by simp)
  ·exact p4 a ha b (by simp [hb])
 ·show NChain N (L++u'::X) M
  have:=hM N (by rw [List.append_assoc];exact hcN) hgN
  rw [NChain.append] at this ⊢
  obtain⟨K,k1,k2,k3⟩:=this
  refine⟨K,k1,?_,?_⟩
  ·rw [hu];exact⟨k2.src,k2.dst,k2.nodst⟩
  ·have:nextN K u'=nextN K u:=by unfold nextN;rw [i5,i1]
   rw [this]
   exact k3
 ·have hr0:=hgN.reg_range (i:=r) hr
  have hne:0<u.dest→N.regs.getD r 0≠u.dest:=fun hd' e=>hgN.disjoint (hgN.reg_mem hr) (e▸hcN.dest_free u (by simp) hd')
  obtain⟨e1,e2⟩:=hsame _ hr0.1 hne
  exact⟨e2.trans (hvN r hr).1,e1.trans (hvN r hr).2⟩
 ·show((L++u'::X).length:Int)≤C.window
  have:=h.len
  rw [ho] at this
  simp at this ⊢
  omega
 ·intro L' v R' e
  have e:L++u'::X=L'++v::R':=e
  rcases split_at e with⟨rfl,rfl,rfl⟩ | ⟨P,e1,e2⟩ | ⟨P,e1,e2⟩
  ·
   refine⟨by rw [i6];exact hOu.seq,Or.inr (Or.inr i9),fun hc=>absurd hcz (by rw [←i2];exact hc),by rw [i2];exact hOu.cause,by rw [i1,i2,i6,i7];exact hOu.fetch,by rw [i7];exact hOu.pc,hnr,
    fun _=>by rw [i1,i7];exact hns,fun _ _=>?_,fun hg=>?_,fun _ hs=>absurd i9 hs,fun hd' _=>?_,fun _ _=>?_,fun _ hs=>by rw [i10];exact hnx hs,fun hal hs=>?_,hlast⟩
   ·obtain⟨s1,s2⟩:=hOu.src hcz (by omega)
    rw [i3,i4]
    exact⟨hUw.2.1.trans s1,hUw.2.2.2.trans s2⟩
   ·have:=hOu.gs (by rw [←i11];exact hg)
    exact⟨by rw [i9];omega,by rw [i5];exact this.2.1,by rw [i1];exact this.2.2⟩
   ·rw [i5] at hd' ⊢
    rw [i10]
    exact hd hd'
   ·rw [i10]
    have:execP { C with ops:=L'++v::R',slots:=(L'++v::R').map slotOf,access:=((L'++v::R').filter memB).map (accOf words),names:=M,words:=words,there:=there,pc:=pc,still:=still,backs:=backs } L' v=execP { C with words:=words } L' u:=by
     unfold execP loadX regsP
     rw [i1,i3,i4,i6,i7]
     rfl
    rw [this]
    exact(execP_congr (C:=C) (C':={ C with words:=words }) (L:=L') (L':=L') (v:=u) rfl rfl rfl hUw.1 hUw.2.2.1).symm
   ·rw [i1] at hal
    exact hOu.lone hal (by omega)
  ·
   subst e1 e2
   have hO:=hops L' v (P++u::(X++Y)) (by simp)
   obtain⟨a1,a2,b1,b2,d1,d2⟩:=hLw v (by simp)
   refine hO.congr hO.seq.2 id (fun hh=>by simp at hh) (fun hl' _=>?_) rfl (fun hc hs=>⟨fun x=>a2.trans x,fun x=>b2.trans x⟩) (fun hd'=>⟨d2,d1⟩) (fun hc hs=>execP_congr rfl rfl rfl a1 b1)
   exact absurd (hO.last hl').1 (by simp)
  ·
   subst e1 e2
   have hO:=hops (L++u::P) v (R'++Y) (by simp)
   obtain⟨q1,q2,q3,_⟩:=hreg (L++u::P) v (R'++Y) (by simp)
   refine hO.congr hO.seq.2 (fun hh=>by simp at hh) (fun hh=>by simp at hh;exact hh.1) (fun hl' hstill=>?_) (hf P v R' rfl) (fun hc hs=>?_) (fun hd'=>?_) (fun hc hs=>?_)
   ·have:=(hO.last hl').1
    simp at this
    exact hst this.2 (by simp) hstill
   ·obtain⟨a1,a2,b1,b2⟩:=hXw P v R' rfl hc hs
    exact⟨fun x=>a2.trans x,fun x=>b2.trans x⟩
   ·have hne:=(hbeh v (by simp) hd').2.2
    obtain⟨d1,d2⟩:=hsame v.dest q3 fun _ e=>hne e.symm
    exact⟨d2,d1⟩
   ·obtain⟨a1,a2,b1,b2⟩:=hXw P v R' rfl hc (by omega)
    have a1':words.getD v.a.toNat 0=C.word v.a:=a1
    have b1':words.getD v.b.toNat 0=C.word v.b:=b1
    unfold execP regsP
    split
    ·rename_i hlv
     show loadX (known (L++u'::P)) C.mem v (words.getD v.a.toNat 0)=_
     rw [a1']
     exact hl P v R' rfl hlv hs
    ·show doesP v.ins ⟨(C.hart.regs.set v.ins.rs1.toNat (words.getD v.a.toNat 0)).set v.ins.rs2.toNat (words.getD v.b.toNat 0),v.pc,0,0⟩ C.mem=_
     rw [a1',b1']
theorem loads_op {i:Ins}:loadsB i=true↔11≤i.op∧i.op≤15:=by unfold loadsB;simp
theorem stores_op {i:Ins}:storesB i=true↔16≤i.op∧i.op≤18:=by unfold storesB;simp
theorem alone_op {i:Ins}:aloneB i=true↔i.op=47∨i.op=48:=by unfold aloneB;simp
theorem loadBytes_size {op:Int} (h:11≤op∧op≤15):loadBytes op=sizeI op∧(sizeI op=1∨sizeI op=2∨sizeI op=4):=by
 obtain rfl | rfl | rfl | rfl | rfl:op=11∨op=12∨op=13∨op=14∨op=15:=by omega
 all_goals exact⟨rfl,by decide⟩
theorem reg_zero (pc:Int) (i:Int):(⟨List.replicate 32 0,pc,0,0⟩:Hart).reg i=0:=by
 unfold Hart.reg
 simp only [List.getD]
 rw [List.getElem?_replicate]
 split<;>rfl
theorem load_four {op:Int} (h:11≤op∧op≤15) (w:Int):(loadP (bytesOf w) op 0).2=true:=by
 obtain rfl | rfl | rfl | rfl | rfl:op=11∨op=12∨op=13∨op=14∨op=15:=by omega
 all_goals rfl
theorem seeP_ok (K:List Acc) (m:List Int) (seq p many:Int):(seeP K m seq p many).2.1=seeOk m p many:=by
 unfold seeP
 split
 ·rename_i h;exact h.symm
 ·rename_i h;simp at h;exact h.symm
def loadCom (i:Ins) (pc w:Int):Com:=⟨pc,u32 (pc+4),0,0,if givesP i=true then i.rd else 0,if givesP i=true then (loadP (bytesOf w) i.op 0).1 else 0,0,0,0,false,0⟩
theorem loadX_eq {u:Uop} (hl:loadsB u.ins=true) (K:List Acc) (m:List Int) (wa:Int) :
  loadX K m u wa=if seeOk m (u32 (wa+u.ins.imm)) (loadBytes u.ins.op)=true then loadCom u.ins u.pc (seeP K m u.seq (u32 (wa+u.ins.imm)) (loadBytes u.ins.op)).1 else trapC u.pc 3:=by
 have h:=loads_op.1 hl
 unfold loadX
 simp only [seeP_ok]
 split
 ·unfold doesP
  simp only [reg_zero]
  rw [if_pos h]
  have:u32 (0+0)=0:=by decide
  rw [this,if_pos (load_four h _)]
  rfl
 ·rfl
theorem loadX_state {u:Uop} (hl:loadsB u.ins=true) (K:List Acc) (m:List Int) (wa:Int) :
  (loadX K m u wa).state=0↔seeOk m (u32 (wa+u.ins.imm)) (loadBytes u.ins.op)=true:=by
 rw [loadX_eq hl]
 split
 ·rename_i h
  exact⟨fun _=>h,fun _=>rfl⟩
 ·rename_i h
  exact⟨fun hh=>absurd hh (by decide:¬ ((2:Int)=0)),fun hh=>absurd hh h⟩
theorem bytesOf_bytes (w:Int):Bytes (bytesOf w):=by
 intro b hb
 unfold bytesOf at hb
 simp at hb
 omega
theorem loadCom_wf {i:Ins} {pc:Int} (w:Int) (hi:0≤i.rd∧i.rd≤31) (hp:0≤pc∧pc≤4294967295):(loadCom i pc w).Wf:=by
 have z:(0:Int)≤0∧(0:Int)≤4294967295:=by omega
 refine⟨hp,u32_bd _,?_,?_,z,Or.inl rfl,z,z,Or.inr ⟨Or.inl rfl,rfl⟩⟩
 ·show 0≤(if givesP i=true then i.rd else 0)∧(if givesP i=true then i.rd else 0)≤31
  split<;>omega
 ·show 0≤(if givesP i=true then (loadP (bytesOf w) i.op 0).1 else 0)∧(if givesP i=true then (loadP (bytesOf w) i.op 0).1 else 0)≤4294967295
  split
  ·exact loadP_bd (bytesOf_bytes w) _ _
  ·exact z
theorem regsP_wf {C:Core} {u:Uop} (hh:C.hart.Wf) (hw:∀ x∈C.words,0≤x∧x≤4294967295) (hp:0≤u.pc∧u.pc≤4294967295):(regsP C u).Wf:=by
 have hword:∀ p,0≤C.word p∧C.word p≤4294967295:=fun p=>by
  unfold Core.word
  simp only [List.getD]
  cases h:C.words[p.toNat]? with
  |none=>simp
  |some v=>exact hw v (List.mem_of_getElem? h)
 refine⟨by simp [regsP,hh.len],fun x hx=>?_,hp.1,hp.2⟩
 unfold regsP at hx
 rcases List.mem_or_eq_of_mem_set hx with hx | rfl
 ·rcases List.mem_or_eq_of_mem_set hx with hx | rfl
  ·exact hh.word x hx
  ·exact hword _
 ·exact hword _
theorem exec_wf {C:Core} (h:Inv C) {L:List Uop} {u:Uop} (hi:0≤u.ins.rd∧u.ins.rd≤31) (hp:0≤u.pc∧u.pc≤4294967295):(execP C L u).Wf:=by
 unfold execP
 split
 ·rename_i hl
  rw [loadX_eq hl]
  split
  ·exact loadCom_wf _ hi hp
  ·exact trapC_wf hp (by omega)
 ·exact doesP_wf hi (regsP_wf h.hart h.words.2 hp) h.bytes
theorem doesP_store {i:Ins} (h:Hart) (m:List Int) (hi:storesB i=true) (hs:(doesP i h m).state=0) :
  doesP i h m=⟨h.pc,u32 (h.pc+4),0,0,0,0,u32 (h.reg i.rs1+i.imm),bytesI i.op,lowI (h.reg i.rs2) (bytesI i.op),false,0⟩∧thereB m.length (u32 (h.reg i.rs1+i.imm)) (bytesI i.op)=true:=by
 have ho:=stores_op.1 hi
 unfold doesP at hs ⊢
 dsimp only at hs ⊢
 rw [if_neg (by omega),if_pos ho] at hs ⊢
 split at hs
 ·rename_i ht
  exact⟨if_pos ht,ht⟩
 ·cases hs
theorem does_next {i:Ins} (h:Hart) (m:List Int) (hi:(storesB i || aloneB i)=true) (hs:(doesP i h m).state=0):(doesP i h m).next=u32 (h.pc+4):=by
 rw [Bool.or_eq_true] at hi
 rcases hi with hi | hi
 ·rw [(doesP_store h m hi hs).1]
 ·have ho:=alone_op.1 hi
  unfold doesP at hs ⊢
  dsimp only at hs ⊢
  rw [if_neg (by omega),if_neg (by omega)] at hs ⊢
  by_cases h8:i.op=48
  ·rw [if_pos h8] at hs;cases hs
  ·rw [if_neg h8,if_pos (by omega)] at hs ⊢
   split at hs
   ·cases hs
   ·rename_i h1
    rw [if_neg h1] at *
    split at hs
    ·rename_i h2
     rw [if_pos h2]
    ·cases hs
theorem exec_next {C:Core} {L:List Uop} {u:Uop} (hi:(storesB u.ins || aloneB u.ins)=true) (hs:(execP C L u).state=0):(execP C L u).next=u32 (u.pc+4):=by
 have hl:¬ loadsB u.ins=true:=by
  intro hl
  have h1:=loads_op.1 hl
  rw [Bool.or_eq_true] at hi
  rcases hi with hi | hi
  ·have:=stores_op.1 hi;omega
  ·have:=alone_op.1 hi;omega
 unfold execP at hs ⊢
 rw [if_neg hl] at hs ⊢
 exact does_next _ _ hi hs
theorem gives_dest {K:RMap} {u:Uop} (h:NOk K u) (hi:storesB u.ins=true):u.dest=0:=by
 by_cases hd:0<u.dest
 ·have hg:=(h.dst hd).1.1
  have:=stores_op.1 hi
  unfold givesP at hg
  simp at hg
  omega
 ·exact(h.nodst (by omega)).1
theorem regs_rs1 {C:Core} {K:RMap} {u:Uop} (hl:C.hart.regs.length=32) (h:NOk K u) (hc:u.cause=0) (h1:0≤u.ins.rs1∧u.ins.rs1≤31) (h2:0≤u.ins.rs2∧u.ins.rs2≤31):(regsP C u).reg u.ins.rs1=C.word u.a:=by
 obtain⟨e1,e2⟩:=h.src hc
 unfold regsP Hart.reg
 rw [getD_set]
 by_cases e:u.ins.rs2.toNat=u.ins.rs1.toNat
 ·rw [if_pos ⟨e,by simp [hl];omega⟩]
  rw [e1,e2,e]
 ·rw [if_neg (by omega),getD_set,if_pos ⟨rfl,by omega⟩]
theorem doneP_at {seq:Int}:∀ {P Q:List Slt},(∀ s∈P,s.seq≠seq)→doneP (P++⟨seq,false⟩::Q) seq=some (P++⟨seq,true⟩::Q)
 |[],Q,_=>by
  show(if (⟨seq,false⟩:Slt)=⟨seq,false⟩ then _ else _)=_
  rw [if_pos rfl]
  rfl
 |s::P,Q,h=>by
  show(if s=(⟨seq,false⟩:Slt) then _ else (doneP (P++⟨seq,false⟩::Q) seq).map (s::·))=_
  rw [if_neg (fun e=>h s (by simp) (by rw [e])),doneP_at (fun x hx=>h x (by simp [hx]))]
  rfl
theorem putW32_eq (c:Core) (d w:Int):putW32 c d w={ c with words:=if 0<d then c.words.set d.toNat w else c.words,there:=if 0<d then c.there.set d.toNat true else c.there }:=by
 unfold putW32
 split<;>rfl
theorem access_set {g:Uop→Acc} {L R:List Uop} {u:Uop} (hm:memB u=true) (hg:∀ v,(g v).seq=v.seq) (hL:∀ v∈L,v.seq≠u.seq) (a:Acc) :
  (findA (((L++u::R).filter memB).map g) u.seq).toNat=(L.filter memB).length∧(((L++u::R).filter memB).map g).getD (L.filter memB).length default=g u ∧
   (((L++u::R).filter memB).map g).set (L.filter memB).length a=(L.filter memB).map g++a::(R.filter memB).map g:=by
 have e:((L++u::R).filter memB).map g=(L.filter memB).map g++g u::(R.filter memB).map g:=by
  rw [List.filter_append,List.filter_cons_of_pos hm,List.map_append,List.map_cons]
 have hlen:((L.filter memB).map g).length=(L.filter memB).length:=List.length_map _
 rw [e]
 refine⟨?_,?_,?_⟩
 ·unfold findA
  rw [idxP_at (fun x:Acc=>decide (x.seq=u.seq)) _ (g u) _ 0 (fun x hx=>?_) (decide_eq_true (hg u)),hlen]
  ·omega
  ·obtain⟨v,hv,rfl⟩:=List.mem_map.1 hx
   exact decide_eq_false (by rw [hg];exact hL v (List.mem_filter.1 hv).1)
 ·rw [←hlen];simp [List.getD]
 ·rw [←hlen];simp
def wordsD (C:Core) (u:Uop) (v:Int):List Int:=if 0<u.dest then C.words.set u.dest.toNat v else C.words
def thereD (C:Core) (u:Uop):List Bool:=if 0<u.dest then C.there.set u.dest.toNat true else C.there
def entD (C:Core) (u:Uop) (l:Com):Acc:=
 if loadsB u.ins=true∧l.state=0 then ⟨u.seq,false,true,u32 (C.word u.a+u.ins.imm),loadBytes u.ins.op,0,true⟩ else ⟨u.seq,storesB u.ins,false,0,0,0,false⟩
def gD (C:Core) (u:Uop) (a:Acc) (v:Uop):Acc:=if v.seq=u.seq then { a with seq:=v.seq } else accOf C.words v
theorem gD_seq (C:Core) (u:Uop) (a:Acc) (v:Uop):(gD C u a v).seq=v.seq:=by
 unfold gD
 split
 ·rfl
 ·exact accOf_seq _ _
theorem entD_seq (C:Core) (u:Uop) (l:Com):(entD C u l).seq=u.seq:=by
 unfold entD
 split<;>rfl
def uD (u:Uop) (l:Com):Uop:={ u with state:=2,commit:=l }
def coreD (C:Core) (L R:List Uop) (u:Uop) (l:Com) (u':Uop) (a:Acc):Core:=
 { C with access:=((L++u'::R).filter memB).map (gD C u a),words:=wordsD C u l.value,there:=thereD C u,ops:=L++u'::R,slots:=(L++u'::R).map slotOf }
theorem seqs_ne {L R:List Uop} {u:Uop} (h:(L++u::R).Pairwise (fun u v=>u.seq<v.seq)):(∀ v∈L,v.seq≠u.seq)∧∀ v∈R,v.seq≠u.seq:=
 ⟨fun v hv e=>by have:=(seqs_split h).1 v hv;omega,fun v hv e=>by have:=(seqs_split h).2 v hv;omega⟩
theorem gD_list {C:Core} {u:Uop} {a:Acc} {A:List Uop} (h:∀ v∈A,v.seq≠u.seq):(A.filter memB).map (gD C u a)=(A.filter memB).map (accOf C.words):=
 List.map_congr_left fun v hv=>by
  unfold gD
  rw [if_neg (h v (List.mem_filter.1 hv).1)]
theorem gD_all {C:Core} {L R:List Uop} {u u':Uop} {a:Acc} (hq:(L++u::R).Pairwise (fun u v=>u.seq<v.seq)) (hm:memB u=true) (hm':memB u'=memB u) (hs:u'.seq=u.seq) (ha:a.seq=u.seq) :
  ((L++u'::R).filter memB).map (gD C u a)=(L.filter memB).map (accOf C.words)++a::(R.filter memB).map (accOf C.words):=by
 rw [List.filter_append,List.filter_cons_of_pos (by rw [hm'];exact hm),List.map_append,List.map_cons,gD_list (seqs_ne hq).1,gD_list (seqs_ne hq).2]
 congr 2
 unfold gD
 rw [if_pos hs,hs,←ha]
theorem gD_none {C:Core} {L R:List Uop} {u u':Uop} {a:Acc} (hq:(L++u::R).Pairwise (fun u v=>u.seq<v.seq)) (hm:memB u=false) (hm':memB u'=memB u) :
  ((L++u'::R).filter memB).map (gD C u a)=((L++u::R).filter memB).map (accOf C.words):=by
 rw [List.filter_append,List.filter_append,List.filter_cons_of_neg (by rw [hm',hm];simp),List.filter_cons_of_neg (by rw [hm];simp),List.map_append,List.map_append,gD_list (seqs_ne hq).1,gD_list (seqs_ne hq).2]
theorem slots_done {L R:List Uop} {u u':Uop} (hq:(L++u::R).Pairwise (fun u v=>u.seq<v.seq)) (h1:u.state=1) (h2:u'.state=2) (hs:u'.seq=u.seq) :
  doneP ((L++u::R).map slotOf) u.seq=some ((L++u'::R).map slotOf):=by
 rw [List.map_append,List.map_cons,List.map_append,List.map_cons]
 have e1:slotOf u=⟨u.seq,false⟩:=by unfold slotOf;rw [h1];rfl
 have e2:slotOf u'=⟨u.seq,true⟩:=by unfold slotOf;rw [h2,hs];rfl
 rw [e1,e2]
 exact doneP_at fun s hs=>by
  obtain⟨v,hv,rfl⟩:=List.mem_map.1 hs
  exact(seqs_ne hq).1 v hv
theorem loadC_eq {C:Core} (h:Inv C) {L R:List Uop} {u:Uop} (ho:C.ops=L++u::R) (h1:u.state=1) :
  (if loadsB u.ins=true then loadC C u else (doesP u.ins (regsP C u) C.mem,C.access))=(execP C L u,((L++uD u (execP C L u)::R).filter memB).map (gD C u (entD C u (execP C L u)))):=by
 obtain⟨N,hgN,_,hcN,_⟩:=h.names
 have hO:=h.ops L u R ho
 have hsq:=h.seqs
 have hac:=h.access
 rw [ho] at hcN hsq hac
 have hcz:u.cause=0:=by
  rcases Decidable.em (u.cause=0) with hc | hc
  ·exact hc
  ·have:=(hO.fault hc).1;omega
 have hi:=is_op (Inv.insOk hO hcz)
 obtain⟨K,_,hK,hNk,_⟩:=chain_regs hcN hgN rfl
 have hr1:=regs_rs1 (C:=C) (by exact h.hart.len) hNk hcz (by omega) (by omega)
 have hm':memB (uD u (execP C L u))=memB u:=rfl
 have hbase:accOf C.words u=⟨u.seq,storesB u.ins,false,0,0,0,false⟩:=by
  unfold accOf stKnown
  rw [h1]
  simp
 have hsee:=fun(p many:Int)=>see_access (words:=C.words) (A:=L) (B:=u::R) (seq:=u.seq) C.mem p many (fun v hv=>by
  rcases List.mem_cons.1 hv with rfl | hv
  ·omega
  ·have:=(seqs_split hsq).2 v hv;omega)
 by_cases hl:loadsB u.ins=true
 ·have hmem:memB u=true:=by unfold memB;rw [hl];rfl
  have hst:storesB u.ins=false:=by
   rcases e:storesB u.ins with _ | _
   ·rfl
   ·have:=stores_op.1 e;have:=loads_op.1 hl;omega
  obtain⟨q1,q2,q3⟩:=access_set (g:=accOf C.words) (R:=R) hmem (accOf_seq _) (seqs_ne hsq).1 (entD C u (execP C L u))
  have hex:execP C L u=loadX (known L) C.mem u (C.word u.a):=by unfold execP;rw [if_pos hl]
  have hss:=hsee (u32 (C.word u.a+u.ins.imm)) (loadBytes u.ins.op)
  rw [if_pos hl,gD_all hsq hmem hm' rfl (entD_seq _ _ _)]
  unfold loadC
  simp only [hr1]
  rw [hac,hss.1,hss.2]
  have hx:=hex
  unfold loadX at hx
  simp only at hx
  split
  ·rename_i hok
   rw [if_pos hok] at hx
   rw [←hx,q1,q2]
   have hst0:(execP C L u).state=0:=by
    rw [hex]
    exact(loadX_state hl _ _ _).2 (by rw [←seeP_ok (known L) C.mem u.seq];exact hok)
   have:({ accOf C.words u with known:=true,at_:=u32 (C.word u.a+u.ins.imm),many:=loadBytes u.ins.op,done:=true }:Acc)=entD C u (execP C L u):=by
    rw [hbase]
    unfold entD
    rw [if_pos ⟨hl,hst0⟩,hst]
   rw [this,q3]
  ·rename_i hok
   rw [if_neg hok] at hx
   rw [←hx]
   have hst0:¬ (execP C L u).state=0:=by
    rw [hex,loadX_state hl,←seeP_ok (known L) C.mem u.seq]
    exact hok
   have:entD C u (execP C L u)=accOf C.words u:=by
    unfold entD
    rw [if_neg (fun hh=>hst0 hh.2),hbase]
   rw [this,List.filter_append,List.filter_cons_of_pos hmem,List.map_append,List.map_cons]
 ·rw [if_neg hl]
  have hex:execP C L u=doesP u.ins (regsP C u) C.mem:=by unfold execP;rw [if_neg hl]
  rw [←hex]
  congr 1
  rw [hac]
  rcases hmem:memB u with _ | _
  ·rw [gD_none hsq hmem hm']
  ·rw [gD_all hsq hmem hm' rfl (entD_seq _ _ _)]
   have:entD C u (execP C L u)=accOf C.words u:=by
    unfold entD
    rw [if_neg (fun hh=>hl hh.1),hbase]
   rw [this,List.filter_append,List.filter_cons_of_pos hmem,List.map_append,List.map_cons]
def missP (C:Core) (L:List Uop) (u:Uop):Bool:=(u.guessed&&decide (C.word u.dest≠(execP C L u).value)) || decide ((execP C L u).next≠u.next)
theorem complete_eq {C:Core} (h:Inv C) {L R:List Uop} {u:Uop} (ho:C.ops=L++u::R) (h1:u.state=1) :
  completeP C L.length =
   (let l:=execP C L u
    let c2:=coreD C L R u l (uD u l) (entD C u l)
    if l.state≠0 then { backP c2 (u.seq+1) u.pc with still:=true }
    else
     let c3:=if missP C L u=true then backP (coreD C L R u l { uD u l with next:=l.next } (entD C u l)) (u.seq+1) l.next else c2
     if storesB u.ins=true then storedP c3 L.length else c3):=by
 have hsq:=h.seqs
 rw [ho] at hsq
 have hu:C.op L.length=u:=Core.op_at ho
 have hlc:=loadC_eq h ho h1
 unfold completeP
 rw [hu]
 simp only [hlc]
 have hf:finishP { putW32 { C with access:=((L++uD u (execP C L u)::R).filter memB).map (gD C u (entD C u (execP C L u))) } u.dest (execP C L u).value with ops:=C.ops.set L.length { u with commit:=execP C L u } } L.length=coreD C L R u (execP C L u) (uD u (execP C L u)) (entD C u (execP C L u)):=by
  unfold finishP
  rw [putW32_eq]
  have e1:C.ops.set L.length { u with commit:=execP C L u }=L++{ u with commit:=execP C L u }::R:=by rw [ho];exact set_at
  simp only [e1]
  have e2:Core.op { C with access:=((L++uD u (execP C L u)::R).filter memB).map (gD C u (entD C u (execP C L u))),words:=if 0<u.dest then C.words.set u.dest.toNat (execP C L u).value else C.words,there:=if 0<u.dest then C.there.set u.dest.toNat true else C.there,ops:=L++{ u with commit:=execP C L u }::R } L.length={ u with commit:=execP C L u }:=Core.op_at rfl
  rw [e2,set_at]
  have e3:(doneP C.slots u.seq).getD []=(L++uD u (execP C L u)::R).map slotOf:=by
   rw [h.slots,ho,slots_done hsq h1 (u':=uD u (execP C L u)) rfl rfl]
   rfl
  simp only [e3]
  rfl
 rw [hf]
 have hop:Core.op (coreD C L R u (execP C L u) (uD u (execP C L u)) (entD C u (execP C L u))) L.length=uD u (execP C L u):=Core.op_at rfl
 have hset:(coreD C L R u (execP C L u) (uD u (execP C L u)) (entD C u (execP C L u))).ops.set L.length { uD u (execP C L u) with next:=(execP C L u).next }=L++{ uD u (execP C L u) with next:=(execP C L u).next }::R:=set_at
 rw [hop,hset]
 have hcc:({ coreD C L R u (execP C L u) (uD u (execP C L u)) (entD C u (execP C L u)) with ops:=L++{ uD u (execP C L u) with next:=(execP C L u).next }::R }:Core)=coreD C L R u (execP C L u) { uD u (execP C L u) with next:=(execP C L u).next } (entD C u (execP C L u)):=by
  unfold coreD
  have e1:(L++{ uD u (execP C L u) with next:=(execP C L u).next }::R).map slotOf=(L++uD u (execP C L u)::R).map slotOf:=by simp [slotOf]
  have e2:((L++{ uD u (execP C L u) with next:=(execP C L u).next }::R).filter memB).map (gD C u (entD C u (execP C L u)))=((L++uD u (execP C L u)::R).filter memB).map (gD C u (entD C u (execP C L u))):=by
   rw [List.filter_append,List.filter_append,List.filter_cons,List.filter_cons]
   have:memB { uD u (execP C L u) with next:=(execP C L u).next }=memB (uD u (execP C L u)):=rfl
   rw [this]
   split
   ·simp [gD,uD]
   ·rfl
  rw [e1,e2]
 rw [hcc]
 rfl
def minStep {α:Type} (P:α→Bool) (k:α→Int) (x:Int×Bool) (a:α):Int×Bool:=if (P a&&(!x.2 || decide (k a<x.1)))=true then (k a,true) else x
theorem min_spec {α:Type} (P:α→Bool) (k:α→Int):∀ (l:List α) (x:Int×Bool),
  ((l.foldl (minStep P k) x).2=true→(x.2=true∧(l.foldl (minStep P k) x).1=x.1)∨∃ a∈l,P a=true∧(l.foldl (minStep P k) x).1=k a) ∧
  (∀ a∈l,P a=true→(l.foldl (minStep P k) x).2=true∧(l.foldl (minStep P k) x).1≤k a)∧(x.2=true→(l.foldl (minStep P k) x).2=true∧(l.foldl (minStep P k) x).1≤x.1)
 |[],x=>⟨fun h=>Or.inl ⟨h,rfl⟩,fun a ha _=>absurd ha List.not_mem_nil,fun h=>⟨h,Int.le_refl _⟩⟩
 |b::l,x=>by
  rw [List.foldl_cons]
  obtain⟨i1,i2,i3⟩:=min_spec P k l (minStep P k x b)
  generalize l.foldl (minStep P k) (minStep P k x b)=f at i1 i2 i3
  by_cases hb:(P b&&(!x.2 || decide (k b<x.1)))=true
  ·have e:minStep P k x b=(k b,true):=if_pos hb
   rw [e] at i1 i3
   obtain⟨j1,j2⟩:=i3 rfl
   have hPb:P b=true:=by rw [Bool.and_eq_true] at hb;exact hb.1
   refine⟨fun h=>Or.inr ?_,fun a ha hP=>?_,fun hx=>⟨j1,?_⟩⟩
   ·rcases i1 h with⟨_,h2⟩ | ⟨a,ha,h2⟩
    ·exact⟨b,by simp,hPb,h2⟩
    ·exact⟨a,by simp [ha],h2⟩
   ·rcases List.mem_cons.1 ha with rfl | ha
    ·exact⟨j1,j2⟩
    ·exact i2 a ha hP
   ·rw [Bool.and_eq_true,hx] at hb
    simp at hb
    have:f.1≤k b:=j2
    omega
  ·have e:minStep P k x b=x:=if_neg hb
   rw [e] at i1 i3
   refine⟨fun h=>?_,fun a ha hP=>?_,i3⟩
   ·rcases i1 h with h2 | ⟨a,ha,h2⟩
    ·exact Or.inl h2
    ·exact Or.inr ⟨a,by simp [ha],h2⟩
   ·rcases List.mem_cons.1 ha with rfl | ha
    ·rw [hP] at hb
     simp at hb
     obtain⟨h1,h2⟩:=hb
     obtain⟨h3,h4⟩:=i3 h1
     exact⟨h3,by omega⟩
    ·exact i2 a ha hP
def victA (s a:Acc):Bool:=!a.store&&a.known&&a.done&&decide (s.seq<a.seq)&&meetB s a
theorem wrong_min (s:Acc):wrongStep s=minStep (victA s) (·.seq):=rfl
def victU (seq at_ many:Int) (v:Uop):Bool:=decide (seq<v.seq)&&overB v.pc at_ many
theorem first_min (seq at_ many:Int):firstStep seq at_ many=minStep (victU seq at_ many) (·.seq):=rfl
theorem wrongGo_at (l:List Acc) {seq:Int} {s:Acc} {Q:List Acc} (hs:isStore seq s=true):∀ {P:List Acc},(∀ x∈P,isStore seq x=false)→wrongGo l seq (P++s::Q)=l.foldl (wrongStep s) (0,false)
 |[],_=>by
  show(if isStore seq s=true then _ else _)=_
  rw [if_pos hs]
 |x::P,h=>by
  show(if isStore seq x=true then _ else wrongGo l seq (P++s::Q))=_
  rw [if_neg (by rw [h x (by simp)];simp),wrongGo_at l hs (fun y hy=>h y (by simp [hy]))]
theorem meet_no {s a:Acc} (h:meetB s a=false) {q:Int} (h1:hasB s q=true) (h2:hasB a q=true):False:=by
 have h1':=h1
 unfold hasB at h1'
 simp only [Bool.and_eq_true,decide_eq_true_eq] at h1'
 have:=manyI_hi s.many
 obtain⟨k,hk,rfl⟩:∃ k:Nat,k<4∧q=s.at_+k:=⟨(q - s.at_).toNat,by omega,by omega⟩
 unfold meetB meetFrom meetFrom meetFrom meetFrom meetFrom at h
 simp only [Bool.or_eq_false_iff] at h
 obtain⟨m0,m1,m2,m3,_⟩:=h
 have key:∀ c:Int,(k:Int)=c→(hasB s (s.at_+c)&&hasB a (s.at_+c))=false→False:=fun c e hh=>by
  subst e
  rw [h1,h2] at hh
  cases hh
 obtain rfl | rfl | rfl | rfl:k=0∨k=1∨k=2∨k=3:=by omega
 ·exact key _ (by omega) m0
 ·exact key _ (by omega) m1
 ·exact key _ (by omega) m2
 ·exact key _ (by omega) m3
theorem byte_store {L X:List Uop} {u u':Uop} (h:stKnown u=false) (h':stKnown u'=true) (m:List Int) (seq q:Int) (hq:hasB (accS u') q=false):byteP (known (L++u'::X)) m seq q=byteP (known (L++u::X)) m seq q:=by
 apply byteP_congr
 have e1:known (u'::X)=accS u'::known X:=by unfold known;rw [List.filter_cons_of_pos h'];rfl
 have e2:known (u::X)=known X:=by unfold known;rw [List.filter_cons_of_neg (by simp [h])]
 rw [known_append,known_append,e1,e2,List.filter_append,List.filter_append,List.filter_cons_of_neg]
 unfold relB
 rw [hq]
 simp
theorem accOf_congr {w w':List Int} {v:Uop} (h:w.getD v.a.toNat 0=w'.getD v.a.toNat 0):accOf w v=accOf w' v:=by
 unfold accOf wordOf
 rw [h]
theorem chain_same {M K K2:RMap} {B:List Uop} (h:NChain K B M) (h2:NChain K2 B M) (hg:NGood K) (hg2:NGood K2) (hp:B.Pairwise (fun u v=>u.seq<v.seq)):K=K2:=by
 have e1:=undo_all (A:=[]) h hg (by simpa using hp)
 have e2:=undo_all (A:=[]) h2 hg2 (by simpa using hp)
 exact e1.symm.trans e2
structure DoneAt (C:Core) (L R:List Uop) (u:Uop):Prop where
 ops:C.ops=L++u::R
 st:u.state=1
 cause:u.cause=0
 is:IsP u.ins=true
 ok:OpOk C L u R
 self:0<u.dest→u.a≠u.dest
 dest:0≤u.dest∧u.dest<96
 a:0≤u.a∧u.a<96
 ahead:∀ v∈L,(0≤v.a)∧(0<u.dest→v.a≠u.dest)
 val:0≤(execP C L u).value∧(execP C L u).value≤4294967295
 nx:0≤(execP C L u).next∧(execP C L u).next≤4294967295
 store:storesB u.ins=true→u.dest=0
theorem doneAt {C:Core} (h:Inv C) {L R:List Uop} {u:Uop} (ho:C.ops=L++u::R) (h1:u.state=1):DoneAt C L R u:=by
 obtain⟨N,hgN,_,hcN,_⟩:=h.names
 have hO:=h.ops L u R ho
 have hap:=h.apart
 have hreg:=fun L' v R' (e:C.ops=L'++v::R')=>uop_regs (by rw [←e];exact hcN) hgN (h.ops L' v R' e)
 rw [ho] at hcN hap
 have hcz:u.cause=0:=by
  rcases Decidable.em (u.cause=0) with hc | hc
  ·exact hc
  ·have:=(hO.fault hc).1;omega
 have his:=Inv.insOk hO hcz
 have hi:=is_op his
 obtain⟨K,_,hK,hNk,_⟩:=chain_regs hcN hgN rfl
 obtain⟨_,_,hap3⟩:=List.pairwise_append.1 hap
 have hwf:=exec_wf h (L:=L) (u:=u) (by omega) hO.pc
 refine⟨ho,h1,hcz,his,hO,fun hd e=>?_,(hreg L u R ho).2.2,(hreg L u R ho).1,fun v hv=>⟨?_,(hap3 v hv u (by simp)).a⟩,hwf.value,hwf.next,fun hs=>gives_dest hNk hs⟩
 ·have hfr:u.dest∈K.free:=by rw [(hNk.dst hd).2.2.1];simp
  obtain⟨m1,_⟩:=hNk.src_mem hK (fun _=>⟨by omega,by omega⟩) hcz
  exact hK.disjoint m1 (e▸hfr)
 ·obtain⟨P,Q,e⟩:=List.append_of_mem hv
  exact(hreg P v (Q++u::R) (by rw [ho,e];simp)).1.1
theorem DoneAt.same {C:Core} {L R:List Uop} {u:Uop} (d:DoneAt C L R u) (v:Int) {p:Int} (hp:0≤p) (hne:0<u.dest→p≠u.dest):(wordsD C u v).getD p.toNat 0=C.word p∧(thereD C u).getD p.toNat false=C.has p:=by
 unfold wordsD thereD
 split
 ·rename_i hd
  exact⟨word_set v d.dest.1 hp (hne hd),has_set true d.dest.1 hp (hne hd)⟩
 ·exact⟨rfl,rfl⟩
theorem DoneAt.acc_ahead {C:Core} {L R:List Uop} {u:Uop} (d:DoneAt C L R u) (x:Int):∀ v∈L,accOf (wordsD C u x) v=accOf C.words v:=fun v hv=>
 accOf_congr (d.same x (d.ahead v hv).1 (d.ahead v hv).2).1
theorem DoneAt.acc_self {C:Core} {L R:List Uop} {u:Uop} (d:DoneAt C L R u) (x:Int) {u':Uop} (h2:u'={ u with state:=2,commit:=execP C L u,next:=u'.next }) (hk:stKnown u'=false):accOf (wordsD C u x) u'=entD C u (execP C L u):=by
 have e':∀ {α:Type} (f:Uop→α),f u'=f { u with state:=2,commit:=execP C L u,next:=u'.next }:=fun f=>congrArg f h2
 have i1:u'.ins=u.ins:=e' Uop.ins
 have i3:u'.a=u.a:=e' Uop.a
 have i6:u'.seq=u.seq:=e' Uop.seq
 have i9:u'.state=2:=e' Uop.state
 have i10:u'.commit=execP C L u:=e' Uop.commit
 unfold accOf entD
 rw [hk,i1,i9,i10,i6,i3]
 have hw:wordOf (wordsD C u x) u.a=C.word u.a:=(d.same x d.a.1 d.self).1
 rw [hw,if_neg (by simp)]
 by_cases hl:loadsB u.ins=true∧(execP C L u).state=0
 ·rw [if_pos ⟨hl.1,rfl,hl.2⟩,if_pos hl]
 ·rw [if_neg (fun hh=>hl ⟨hh.1,hh.2.2⟩),if_neg hl]
theorem DoneAt.back {C:Core} (h:Inv C) {L R:List Uop} {u:Uop} (d:DoneAt C L R u) {u':Uop} (h2:u'={ u with state:=2,commit:=execP C L u,next:=u'.next }) (hk:stKnown u'=false) (pc:Int) :
  ∃ M,(∀ N,NChain N (L++u::[]++R) C.names→NGood N→NChain N (L++u::[]) M) ∧
   backP (coreD C L R u (execP C L u) u' (entD C u (execP C L u))) (u.seq+1) pc =
    { C with ops:=L++u'::[],slots:=(L++u'::[]).map slotOf,access:=((L++u'::[]).filter memB).map (accOf (wordsD C u (execP C L u).value)),names:=M,words:=wordsD C u (execP C L u).value,there:=thereD C u,pc:=pc,still:=false,backs:=C.backs+1 }:=by
 obtain⟨N0,hgN,_,hcN,_⟩:=h.names
 have hsq:=h.seqs
 rw [d.ops] at hcN hsq
 have e':∀ {α:Type} (f:Uop→α),f u'=f { u with state:=2,commit:=execP C L u,next:=u'.next }:=fun f=>congrArg f h2
 have i6:u'.seq=u.seq:=e' Uop.seq
 obtain⟨K,K',hK,hNk,hc1,hK',hc2⟩:=chain_regs hcN hgN rfl
 have hgK':NGood K':=by rw [hK'];exact hK.next hNk
 have hpR:R.Pairwise (fun u v=>u.seq<v.seq):=(List.pairwise_cons.1 (List.pairwise_append.1 hsq).2.1).2
 have hsq':(L++[u']++R).Pairwise (fun u v=>u.seq<v.seq):=by
  rw [List.append_assoc,List.singleton_append]
  rw [List.pairwise_append,List.pairwise_cons] at hsq ⊢
  obtain⟨p1,⟨p2,p3⟩,p4⟩:=hsq
  refine⟨p1,⟨fun v hv=>by rw [i6];exact p2 v hv,p3⟩,fun a ha b hb=>?_⟩
  rcases List.mem_cons.1 hb with rfl | hb
  ·rw [i6];exact p4 a ha u (by simp)
  ·exact p4 a ha b (by simp [hb])
 refine⟨K',fun N hN hg=>?_,?_⟩
 ·rw [List.append_assoc] at hN
  have hN':NChain N (L++u::R) C.names:=hN
  obtain⟨K2,_,hK2,hNk2,hd1,hK2',hd2⟩:=chain_regs hN' hg rfl
  have hgK2':NGood (nextN K2 u):=hK2.next hNk2
  rw [hK2'] at hd2
  have:=chain_same hc2 hd2 hgK' hgK2' hpR
  rw [this]
  exact hd1.snoc hNk2
 ·have hb:=back_eq (c:=coreD C L R u (execP C L u) u' (entD C u (execP C L u))) (A:=L++[u']) (B:=R) (K:=K') (g:=gD C u (entD C u (execP C L u))) (s:=u.seq+1) pc (by simp [coreD]) (by simp [coreD]) hsq'
   (fun v hv=>?_) (fun v hv=>?_) (gD_seq C u _) (by simp [coreD]) hc2 hgK'
  ·rw [hb]
   have hlist:((L++[u']).filter memB).map (gD C u (entD C u (execP C L u)))=((L++[u']).filter memB).map (accOf (wordsD C u (execP C L u).value)):=by
    refine List.map_congr_left fun v hv=>?_
    rcases List.mem_append.1 (List.mem_filter.1 hv).1 with hv | hv
    ·unfold gD
     rw [if_neg ((seqs_ne hsq).1 v hv),d.acc_ahead _ v hv]
    ·obtain rfl:=List.mem_singleton.1 hv
     rw [d.acc_self _ h2 hk]
     unfold gD
     rw [if_pos i6,i6,←entD_seq C u (execP C L u)]
   rw [hlist]
   rfl
  ·rcases List.mem_append.1 hv with hv | hv
   ·have:=(seqs_split hsq).1 v hv;omega
   ·obtain rfl:=List.mem_singleton.1 hv;omega
  ·have:=(seqs_split hsq).2 v hv;omega
end Go.Proofs.Ytapgojgcmlnbgac
