/- Parts of a proof. -/
import Derived.Test.YtapgojgcmlnbgacGreatK05
set_option linter.unusedSimpArgs false
set_option linter.unusedVariables false
set_option maxRecDepth 100000
set_option maxHeartbeats 16000000
namespace Go.Proofs.YtapgojgcmlnbgacGreat
open Go
theorem Ei.cut {v:Uop} {Y:List Uop}:∀ {A:List Uop} {p q:Int},Ei p (A++v::Y) q→Ei p A v.pc∧∀ x∈A,Cz x=false
 |[],p,q,⟨h1,_⟩=>⟨h1.symm,fun x hx=>by cases hx⟩
 |a::A,p,q,⟨h1,h2⟩=>by
  by_cases hs:Cz a=true
  ·rw [if_pos hs] at h2
   simp at h2
  ·rw [if_neg hs] at h2
   obtain⟨h3,h4⟩:=Ei.cut h2
   refine⟨⟨h1,by rw [if_neg hs];exact h3⟩,fun x hx=>?_⟩
   rcases List.mem_cons.1 hx with rfl | hx
   ·simpa using hs
   ·exact h4 x hx
theorem Ei.snoc {u:Uop}:∀ {A:List Uop} {p:Int},Ei p A u.pc→(∀ x∈A,Cz x=false)→∀ q,(Cz u=false→u.next=q)→Ei p (A++[u]) q
 |[],p,h,_,q,hq=>by
  refine⟨(show p=u.pc from h).symm,?_⟩
  split
  ·rfl
  ·rename_i hs
   exact hq (by simpa using hs)
 |a::A,p,⟨h1,h2⟩,hs,q,hq=>by
  have ha:=hs a (by simp)
  refine⟨h1,?_⟩
  rw [if_neg (by rw [ha];simp)] at h2 ⊢
  exact Ei.snoc h2 (fun x hx=>hs x (by simp [hx])) q hq
theorem Ei.put {u u':Uop} {X:List Uop} (hpc:u'.pc=u.pc) (hn:u'.next=u.next) (hs:Cz u'=Cz u) {q:Int}:∀ {L:List Uop} {p:Int},Ei p (L++u::X) q→Ei p (L++u'::X) q
 |[],p,⟨h1,h2⟩=>⟨by rw [hpc];exact h1,by rw [hs,hn];exact h2⟩
 |a::L,p,⟨h1,h2⟩=>by
  refine⟨h1,?_⟩
  by_cases hst:Cz a=true
  ·rw [if_pos hst] at h2
   simp at h2
  ·rw [if_neg hst] at h2 ⊢
   exact Ei.put hpc hn hs h2
theorem Inv.done {C:Core} (h:Inv C) {L X Y:List Uop} {u u':Uop} (ho:C.ops=L++u::(X++Y)) (h1:u.state=1)
  (hu:u'={ u with state:=2,commit:=Ad C L u,next:=u'.next }) (words:List Int) (there:List Bool)
  (hw:words.length=96∧∀ x∈words,0≤x∧x≤4294967295) (ht:there.length=96)
  (hsame:∀ p:Int,0≤p→(0<u.dest→p≠u.dest)→words.getD p.toNat 0=C.word p∧there.getD p.toNat false=C.has p)
  (hd:0<u.dest→there.getD u.dest.toNat false=true∧words.getD u.dest.toNat 0=(Ad C L u).value)
  (hold:X≠[]→0<u.dest→C.has u.dest=true→C.word u.dest=(Ad C L u).value)
  (M:A1) (hM:∀ N,Bt N (L++u::X++Y) C.names→Dp N→Bt N (L++u::X) M)
  (hf:∀ X1 v X2,X=X1++v::X2→Ds (known (L++u'::X1)) C.mem v.seq v.pc=Ds (known (L++u::X1)) C.mem v.seq v.pc)
  (hl:∀ X1 v X2,X=X1++v::X2→Bs v.ins=true→v.state=2→Ko (known (L++u'::X1)) C.mem v (C.word v.a)=Ko (known (L++u::X1)) C.mem v (C.word v.a))
  (pc backs:Int) (still:Bool) (hpc:Ei C.hart.pc (L++u'::X) pc) (hpcr:0≤pc∧pc≤4294967295)
  (hnr:0≤u'.next∧u'.next≤4294967295) (hnx:Cz u'=false→u'.next=(Ad C L u).next) (hns:(Ba u.ins || Be u.ins)=true→u'.next=u32 (u.pc+4))
  (hlast:Eu u'=true→X=[]∧still=true) (hst:Y=[]→X≠[]→C.still=true→still=true) :
  Inv { C with ops:=L++u'::X,slots:=(L++u'::X).map B6,access:=((L++u'::X).filter Bm).map (Bn words),names:=M,words:=words,there:=there,pc:=pc,still:=still,backs:=backs }:=by
 obtain⟨N,hgN,hlN,hcN,hvN⟩:=h.names
 have hap:=h.apart
 have hreg:∀ L' v R',C.ops=L'++v::R'→(0≤v.a∧v.a<96)∧(0≤v.b∧v.b<96)∧0≤v.dest∧v.dest<96:=fun L' v R' e=>Kc (by rw [←e];exact hcN) hgN (h.ops L' v R' e)
 have hops:=h.ops
 have hsq:=h.seqs
 rw [ho] at hap hcN hops hreg hsq
 obtain⟨hap1,hap2,hap3⟩:=List.pairwise_append.1 hap
 have huR:=(List.pairwise_cons.1 hap2).1
 have hOu:=hops L u (X++Y) rfl
 have e':∀ {α:Type} (f:Uop→α),f u'=f { u with state:=2,commit:=Ad C L u,next:=u'.next }:=fun f=>congrArg f hu
 have i1:u'.ins=u.ins:=e' Uop.ins
 have i2:u'.cause=u.cause:=e' Uop.cause
 have i3:u'.a=u.a:=e' Uop.a
 have i4:u'.b=u.b:=e' Uop.b
 have i5:u'.dest=u.dest:=e' Uop.dest
 have i6:u'.seq=u.seq:=e' Uop.seq
 have i7:u'.pc=u.pc:=e' Uop.pc
 have i9:u'.state=2:=e' Uop.state
 have i10:u'.commit=Ad C L u:=e' Uop.commit
 have i11:u'.guessed=u.guessed:=e' Uop.guessed
 have i12:u'.old=u.old:=e' Uop.old
 have hcz:u.cause=0:=by
  rcases Decidable.em (u.cause=0) with hc | hc
  ·exact hc
  ·have:=(hOu.fault hc).1;omega
 have hmem:Bm u'=Bm u:=by unfold Bm;rw [i1]
 have hbeh:∀ v∈X++Y,0<v.dest→u.a≠v.dest∧u.b≠v.dest∧u.dest≠v.dest:=fun v hv hd'=>⟨(huR v hv).a hd',(huR v hv).b hd',(huR v hv).d hd'⟩
 have hself:0<u.dest→u.a≠u.dest∧u.b≠u.dest:=by
  intro hd'
  obtain⟨K,_,hK,hNk,_⟩:=Gc hcN hgN rfl
  have hfr:u.dest∈K.free:=by rw [(hNk.dst hd').2.2.1];simp
  have hi:=Iu (Inv.insOk hOu hcz)
  obtain⟨m1,m2⟩:=hNk.src_mem hK (fun _=>⟨by omega,by omega⟩) hcz
  exact⟨fun e=>hK.disjoint m1 (e▸hfr),fun e=>hK.disjoint m2 (e▸hfr)⟩
 have hLw:∀ v∈L,words.getD v.a.toNat 0=C.word v.a∧there.getD v.a.toNat false=C.has v.a∧words.getD v.b.toNat 0=C.word v.b∧there.getD v.b.toNat false=C.has v.b∧words.getD v.dest.toNat 0=C.word v.dest∧there.getD v.dest.toNat false=C.has v.dest:=by
  intro v hv
  obtain⟨P,Q,e⟩:=List.append_of_mem hv
  obtain⟨q1,q2,q3,_⟩:=hreg P v (Q++u::(X++Y)) (by rw [e];simp)
  have ha:=hap3 v hv u (by simp)
  obtain⟨a1,a2⟩:=hsame v.a q1.1 ha.a
  obtain⟨b1,b2⟩:=hsame v.b q2.1 ha.b
  obtain⟨d1,d2⟩:=hsame v.dest q3 ha.d
  exact⟨a1,a2,b1,b2,d1,d2⟩
 have hUw:words.getD u.a.toNat 0=C.word u.a∧there.getD u.a.toNat false=C.has u.a∧words.getD u.b.toNat 0=C.word u.b∧there.getD u.b.toNat false=C.has u.b:=by
  obtain⟨q1,q2,_⟩:=hreg L u (X++Y) rfl
  obtain⟨a1,a2⟩:=hsame u.a q1.1 fun hd'=>(hself hd').1
  obtain⟨b1,b2⟩:=hsame u.b q2.1 fun hd'=>(hself hd').2
  exact⟨a1,a2,b1,b2⟩
 have hXw:∀ X1 v X2,X=X1++v::X2→v.cause=0→v.state≠0→words.getD v.a.toNat 0=C.word v.a∧there.getD v.a.toNat false=C.has v.a∧words.getD v.b.toNat 0=C.word v.b∧there.getD v.b.toNat false=C.has v.b:=by
  intro X1 v X2 e hc hs
  have hOv:=hops (L++u::X1) v (X2++Y) (by rw [e];simp)
  obtain⟨q1,q2,_⟩:=hreg (L++u::X1) v (X2++Y) (by rw [e];simp)
  obtain⟨s1,s2⟩:=hOv.src hc hs
  have key:∀ p:Int,0≤p→C.has p=true→words.getD p.toNat 0=C.word p∧there.getD p.toNat false=C.has p:=by
   intro p hp hh
   by_cases hpd:0<u.dest∧p=u.dest
   ·obtain⟨hd',rfl⟩:=hpd
    obtain⟨d1,d2⟩:=hd hd'
    rw [d1,d2,hh,hold (by rw [e];simp) hd' hh]
    exact⟨rfl,rfl⟩
   ·exact hsame p hp fun hd' hpe=>hpd ⟨hd',hpe⟩
  obtain⟨a1,a2⟩:=key v.a q1.1 s1
  obtain⟨b1,b2⟩:=key v.b q2.1 s2
  exact⟨a1,a2,b1,b2⟩
 refine⟨h.cfg,h.hart,h.may,h.runs,h.bytes,h.room,h.tab,hw,ht,rfl,?_,rfl,⟨N,hgN,hlN,?_,fun r hr=>?_⟩,hpc,?_,h.seq0,hpcr,?_⟩
 ·show(L++u'::X).Pairwise _
  rw [List.pairwise_append,List.pairwise_cons] at hsq ⊢
  obtain⟨p1,⟨p2,p3⟩,p4⟩:=hsq
  refine⟨p1,⟨fun v hv=>by rw [i6];exact p2 v (by simp [hv]),p3.sublist (List.sublist_append_left _ _)⟩,fun a ha b hb=>?_⟩
  rcases List.mem_cons.1 hb with rfl | hb
  ·rw [i6];exact p4 a ha u (by simp)
  ·exact p4 a ha b (by simp [hb])
 ·show Bt N (L++u'::X) M
  have:=hM N (by rw [List.append_assoc];exact hcN) hgN
  rw [Bt.append] at this ⊢
  obtain⟨K,k1,k2,k3⟩:=this
  refine⟨K,k1,?_,?_⟩
  ·rw [hu];exact⟨k2.src,k2.dst,k2.nodst⟩
  ·have:Dm K u'=Dm K u:=by unfold Dm;rw [i5,i1]
   rw [this]
   exact k3
 ·have hr0:=hgN.reg_range (i:=r) hr
  have hne:0<u.dest→N.regs.getD r 0≠u.dest:=fun hd' e=>hgN.disjoint (hgN.reg_mem hr) (e▸hcN.dest_free u (by simp) hd')
  obtain⟨e1,e2⟩:=hsame _ hr0.1 hne
  exact⟨e2.trans (hvN r hr).1,e1.trans (hvN r hr).2⟩
 ·show((L++u'::X).length:Int)≤C.window
  have:=h.len
  rw [ho] at this
  simp at this ⊢
  omega
 ·intro L' v R' e
  have e:L++u'::X=L'++v::R':=e
  rcases Up e with⟨rfl,rfl,rfl⟩ | ⟨P,e1,e2⟩ | ⟨P,e1,e2⟩
  ·
   refine⟨by rw [i6];exact hOu.seq,Or.inr (Or.inr i9),fun hc=>absurd hcz (by rw [←i2];exact hc),by rw [i2];exact hOu.cause,by rw [i1,i2,i6,i7];exact hOu.fetch,by rw [i7];exact hOu.pc,hnr,
    fun _=>by rw [i1,i7];exact hns,fun _ _=>?_,fun hg=>?_,fun _ hs=>absurd i9 hs,fun hd' _=>?_,fun _ _=>?_,fun _ hs=>by rw [i10];exact hnx hs,fun hal hs=>?_,hlast⟩
   ·obtain⟨s1,s2⟩:=hOu.src hcz (by omega)
    rw [i3,i4]
    exact⟨hUw.2.1.trans s1,hUw.2.2.2.trans s2⟩
   ·have:=hOu.gs (by rw [←i11];exact hg)
    exact⟨by rw [i9];omega,by rw [i5];exact this.2.1,by rw [i1];exact this.2.2⟩
   ·rw [i5] at hd' ⊢
    rw [i10]
    exact hd hd'
   ·rw [i10]
    have:Ad { C with ops:=L'++v::R',slots:=(L'++v::R').map B6,access:=((L'++v::R').filter Bm).map (Bn words),names:=M,words:=words,there:=there,pc:=pc,still:=still,backs:=backs } L' v=Ad { C with words:=words } L' u:=by
     unfold Ad Ko Eg
     rw [i1,i3,i4,i6,i7]
     rfl
    rw [this]
    exact(Jd (C:=C) (C':={ C with words:=words }) (L:=L') (L':=L') (v:=u) rfl rfl rfl hUw.1 hUw.2.2.1).symm
   ·rw [i1] at hal
    exact hOu.lone hal (by omega)
  ·
   subst e1 e2
   have hO:=hops L' v (P++u::(X++Y)) (by simp)
   obtain⟨a1,a2,b1,b2,d1,d2⟩:=hLw v (by simp)
   refine hO.congr hO.seq.2 id (fun hh=>by simp at hh) (fun hl' _=>?_) rfl (fun hc hs=>⟨fun x=>a2.trans x,fun x=>b2.trans x⟩) (fun hd'=>⟨d2,d1⟩) (fun hc hs=>Jd rfl rfl rfl a1 b1)
   exact absurd (hO.last hl').1 (by simp)
  ·
   subst e1 e2
   have hO:=hops (L++u::P) v (R'++Y) (by simp)
   obtain⟨q1,q2,q3,_⟩:=hreg (L++u::P) v (R'++Y) (by simp)
   refine hO.congr hO.seq.2 (fun hh=>by simp at hh) (fun hh=>by simp at hh;exact hh.1) (fun hl' hstill=>?_) (hf P v R' rfl) (fun hc hs=>?_) (fun hd'=>?_) (fun hc hs=>?_)
   ·have:=(hO.last hl').1
    simp at this
    exact hst this.2 (by simp) hstill
   ·obtain⟨a1,a2,b1,b2⟩:=hXw P v R' rfl hc hs
    exact⟨fun x=>a2.trans x,fun x=>b2.trans x⟩
   ·have hne:=(hbeh v (by simp) hd').2.2
    obtain⟨d1,d2⟩:=hsame v.dest q3 fun _ e=>hne e.symm
    exact⟨d2,d1⟩
   ·obtain⟨a1,a2,b1,b2⟩:=hXw P v R' rfl hc (by omega)
    have a1':words.getD v.a.toNat 0=C.word v.a:=a1
    have b1':words.getD v.b.toNat 0=C.word v.b:=b1
    unfold Ad Eg
    split
    ·rename_i hlv
     show Ko (known (L++u'::P)) C.mem v (words.getD v.a.toNat 0)=_
     rw [a1']
     exact hl P v R' rfl hlv hs
    ·show Cl v.ins ⟨(C.hart.regs.set v.ins.rs1.toNat (words.getD v.a.toNat 0)).set v.ins.rs2.toNat (words.getD v.b.toNat 0),v.pc,0,0⟩ C.mem=_
     rw [a1',b1']
theorem D6 {i:Ins}:Bs i=true↔11≤i.op∧i.op≤15:=by unfold Bs;simp
theorem Fl {i:Ins}:Ba i=true↔16≤i.op∧i.op≤18:=by unfold Ba;simp
theorem K7 {i:Ins}:Be i=true↔i.op=47∨i.op=48:=by unfold Be;simp
theorem J2 {op:Int} (h:11≤op∧op≤15):loadBytes op=B1 op∧(B1 op=1∨B1 op=2∨B1 op=4):=by
 obtain rfl | rfl | rfl | rfl | rfl:op=11∨op=12∨op=13∨op=14∨op=15:=by omega
 all_goals exact⟨rfl,by decide⟩
theorem Ag3 (pc:Int) (i:Int):(⟨List.replicate 32 0,pc,0,0⟩:Al).reg i=0:=by
 unfold Al.reg
 simp only [List.getD]
 rw [List.getElem?_replicate]
 split<;>rfl
theorem Q7 {op:Int} (h:11≤op∧op≤15) (w:Int):(Cd (bytesOf w) op 0).2=true:=by
 obtain rfl | rfl | rfl | rfl | rfl:op=11∨op=12∨op=13∨op=14∨op=15:=by omega
 all_goals rfl
theorem N2 (K:List Acc) (m:List Int) (seq p many:Int):(Ee K m seq p many).2.1=Gu m p many:=by
 unfold Ee
 split
 ·rename_i h;exact h.symm
 ·rename_i h;simp at h;exact h.symm
def Sm (i:Ins) (pc w:Int):Com:=⟨pc,u32 (pc+4),0,0,if Bf i=true then i.rd else 0,if Bf i=true then (Cd (bytesOf w) i.op 0).1 else 0,0,0,0,false,0⟩
theorem J3 {u:Uop} (hl:Bs u.ins=true) (K:List Acc) (m:List Int) (wa:Int) :
  Ko K m u wa=if Gu m (u32 (wa+u.ins.imm)) (loadBytes u.ins.op)=true then Sm u.ins u.pc (Ee K m u.seq (u32 (wa+u.ins.imm)) (loadBytes u.ins.op)).1 else Aw u.pc 3:=by
 have h:=D6.1 hl
 unfold Ko
 simp only [N2]
 split
 ·unfold Cl
  simp only [Ag3]
  rw [if_pos h]
  have:u32 (0+0)=0:=by decide
  rw [this,if_pos (Q7 h _)]
  rfl
 ·rfl
theorem Nf {u:Uop} (hl:Bs u.ins=true) (K:List Acc) (m:List Int) (wa:Int) :
  (Ko K m u wa).state=0↔Gu m (u32 (wa+u.ins.imm)) (loadBytes u.ins.op)=true:=by
 rw [J3 hl]
 split
 ·rename_i h
  exact⟨fun _=>h,fun _=>rfl⟩
 ·rename_i h
  exact⟨fun hh=>absurd hh (by decide:¬ ((2:Int)=0)),fun hh=>absurd hh h⟩
theorem Gx (w:Int):Bytes (bytesOf w):=by
 intro b hb
 unfold bytesOf at hb
 simp at hb
 omega
theorem Abi {i:Ins} {pc:Int} (w:Int) (hi:0≤i.rd∧i.rd≤31) (hp:0≤pc∧pc≤4294967295):(Sm i pc w).Wf:=by
 have z:(0:Int)≤0∧(0:Int)≤4294967295:=by omega
 refine⟨hp,Dc _,?_,?_,z,Or.inl rfl,z,z,Or.inr ⟨Or.inl rfl,rfl⟩⟩
 ·show 0≤(if Bf i=true then i.rd else 0)∧(if Bf i=true then i.rd else 0)≤31
  split<;>omega
 ·show 0≤(if Bf i=true then (Cd (bytesOf w) i.op 0).1 else 0)∧(if Bf i=true then (Cd (bytesOf w) i.op 0).1 else 0)≤4294967295
  split
  ·exact Nc (Gx w) _ _
  ·exact z
theorem Ug {C:Core} {u:Uop} (hh:C.hart.Wf) (hw:∀ x∈C.words,0≤x∧x≤4294967295) (hp:0≤u.pc∧u.pc≤4294967295):(Eg C u).Wf:=by
 have hword:∀ p,0≤C.word p∧C.word p≤4294967295:=fun p=>by
  unfold Core.word
  simp only [List.getD]
  cases h:C.words[p.toNat]? with
  |none=>simp
  |some v=>exact hw v (List.mem_of_getElem? h)
 refine⟨by simp [Eg,hh.len],fun x hx=>?_,hp.1,hp.2⟩
 unfold Eg at hx
 rcases List.mem_or_eq_of_mem_set hx with hx | rfl
 ·rcases List.mem_or_eq_of_mem_set hx with hx | rfl
  ·exact hh.word x hx
  ·exact hword _
 ·exact hword _
theorem Pv {C:Core} (h:Inv C) {L:List Uop} {u:Uop} (hi:0≤u.ins.rd∧u.ins.rd≤31) (hp:0≤u.pc∧u.pc≤4294967295):(Ad C L u).Wf:=by
 unfold Ad
 split
 ·rename_i hl
  rw [J3 hl]
  split
  ·exact Abi _ hi hp
  ·exact Ka hp (by omega)
 ·exact Yq hi (Ug h.hart h.words.2 hp) h.bytes
theorem Na {i:Ins} (h:Al) (m:List Int) (hi:Ba i=true) (hs:(Cl i h m).state=0) :
  Cl i h m=⟨h.pc,u32 (h.pc+4),0,0,0,0,u32 (h.reg i.rs1+i.imm),Ej i.op,O3 (h.reg i.rs2) (Ej i.op),false,0⟩∧Bv m.length (u32 (h.reg i.rs1+i.imm)) (Ej i.op)=true:=by
 have ho:=Fl.1 hi
 unfold Cl at hs ⊢
 dsimp only at hs ⊢
 rw [if_neg (by omega),if_pos ho] at hs ⊢
 split at hs
 ·rename_i ht
  exact⟨if_pos ht,ht⟩
 ·cases hs
theorem Ad2 {i:Ins} (h:Al) (m:List Int) (hi:(Ba i || Be i)=true) (hs:(Cl i h m).state=0):(Cl i h m).next=u32 (h.pc+4):=by
 rw [Bool.or_eq_true] at hi
 rcases hi with hi | hi
 ·rw [(Na h m hi hs).1]
 ·have ho:=K7.1 hi
  unfold Cl at hs ⊢
  dsimp only at hs ⊢
  rw [if_neg (by omega),if_neg (by omega)] at hs ⊢
  by_cases h8:i.op=48
  ·rw [if_pos h8] at hs;cases hs
  ·rw [if_neg h8,if_pos (by omega)] at hs ⊢
   split at hs
   ·cases hs
   ·rename_i h1
    rw [if_neg h1] at *
    split at hs
    ·rename_i h2
     rw [if_pos h2]
    ·cases hs
theorem Vv {C:Core} {L:List Uop} {u:Uop} (hi:(Ba u.ins || Be u.ins)=true) (hs:(Ad C L u).state=0):(Ad C L u).next=u32 (u.pc+4):=by
 have hl:¬ Bs u.ins=true:=by
  intro hl
  have h1:=D6.1 hl
  rw [Bool.or_eq_true] at hi
  rcases hi with hi | hi
  ·have:=Fl.1 hi;omega
  ·have:=K7.1 hi;omega
 unfold Ad at hs ⊢
 rw [if_neg hl] at hs ⊢
 exact Ad2 _ _ hi hs
theorem Aa8 {K:A1} {u:Uop} (h:NOk K u) (hi:Ba u.ins=true):u.dest=0:=by
 by_cases hd:0<u.dest
 ·have hg:=(h.dst hd).1.1
  have:=Fl.1 hi
  unfold Bf at hg
  simp at hg
  omega
 ·exact(h.nodst (by omega)).1
theorem Ag4 {C:Core} {K:A1} {u:Uop} (hl:C.hart.regs.length=32) (h:NOk K u) (hc:u.cause=0) (h1:0≤u.ins.rs1∧u.ins.rs1≤31) (h2:0≤u.ins.rs2∧u.ins.rs2≤31):(Eg C u).reg u.ins.rs1=C.word u.a:=by
 obtain⟨e1,e2⟩:=h.src hc
 unfold Eg Al.reg
 rw [Fh]
 by_cases e:u.ins.rs2.toNat=u.ins.rs1.toNat
 ·rw [if_pos ⟨e,by simp [hl];omega⟩]
  rw [e1,e2,e]
 ·rw [if_neg (by omega),Fh,if_pos ⟨rfl,by omega⟩]
theorem Tk {seq:Int}:∀ {P Q:List Slt},(∀ s∈P,s.seq≠seq)→It (P++⟨seq,false⟩::Q) seq=some (P++⟨seq,true⟩::Q)
 |[],Q,_=>by
  show(if (⟨seq,false⟩:Slt)=⟨seq,false⟩ then _ else _)=_
  rw [if_pos rfl]
  rfl
 |s::P,Q,h=>by
  show(if s=(⟨seq,false⟩:Slt) then _ else (It (P++⟨seq,false⟩::Q) seq).map (s::·))=_
  rw [if_neg (fun e=>h s (by simp) (by rw [e])),Tk (fun x hx=>h x (by simp [hx]))]
  rfl
theorem Wi (c:Core) (d w:Int):Dk c d w={ c with words:=if 0<d then c.words.set d.toNat w else c.words,there:=if 0<d then c.there.set d.toNat true else c.there }:=by
 unfold Dk
 split<;>rfl
theorem Sx {g:Uop→Acc} {L R:List Uop} {u:Uop} (hm:Bm u=true) (hg:∀ v,(g v).seq=v.seq) (hL:∀ v∈L,v.seq≠u.seq) (a:Acc) :
  (Jm (((L++u::R).filter Bm).map g) u.seq).toNat=(L.filter Bm).length∧(((L++u::R).filter Bm).map g).getD (L.filter Bm).length default=g u ∧
   (((L++u::R).filter Bm).map g).set (L.filter Bm).length a=(L.filter Bm).map g++a::(R.filter Bm).map g:=by
 have e:((L++u::R).filter Bm).map g=(L.filter Bm).map g++g u::(R.filter Bm).map g:=by
  rw [List.filter_append,List.filter_cons_of_pos hm,List.map_append,List.map_cons]
 have hlen:((L.filter Bm).map g).length=(L.filter Bm).length:=List.length_map _
 rw [e]
 refine⟨?_,?_,?_⟩
 ·unfold Jm
  rw [W6 (fun x:Acc=>decide (x.seq=u.seq)) _ (g u) _ 0 (fun x hx=>?_) (decide_eq_true (hg u)),hlen]
  ·omega
  ·obtain⟨v,hv,rfl⟩:=List.mem_map.1 hx
   exact decide_eq_false (by rw [hg];exact hL v (List.mem_filter.1 hv).1)
 ·rw [←hlen];simp [List.getD]
 ·rw [←hlen];simp
def Ey (C:Core) (u:Uop) (v:Int):List Int:=if 0<u.dest then C.words.set u.dest.toNat v else C.words
def I2 (C:Core) (u:Uop):List Bool:=if 0<u.dest then C.there.set u.dest.toNat true else C.there
def Ck (C:Core) (u:Uop) (l:Com):Acc:=
 if Bs u.ins=true∧l.state=0 then ⟨u.seq,false,true,u32 (C.word u.a+u.ins.imm),loadBytes u.ins.op,0,true⟩ else ⟨u.seq,Ba u.ins,false,0,0,0,false⟩
def gD (C:Core) (u:Uop) (a:Acc) (v:Uop):Acc:=if v.seq=u.seq then { a with seq:=v.seq } else Bn C.words v
theorem Tr (C:Core) (u:Uop) (a:Acc) (v:Uop):(gD C u a v).seq=v.seq:=by
 unfold gD
 split
 ·rfl
 ·exact Ez _ _
theorem Pu (C:Core) (u:Uop) (l:Com):(Ck C u l).seq=u.seq:=by
 unfold Ck
 split<;>rfl
def uD (u:Uop) (l:Com):Uop:={ u with state:=2,commit:=l }
def Cc (C:Core) (L R:List Uop) (u:Uop) (l:Com) (u':Uop) (a:Acc):Core:=
 { C with access:=((L++u'::R).filter Bm).map (gD C u a),words:=Ey C u l.value,there:=I2 C u,ops:=L++u'::R,slots:=(L++u'::R).map B6 }
theorem Gr {L R:List Uop} {u:Uop} (h:(L++u::R).Pairwise (fun u v=>u.seq<v.seq)):(∀ v∈L,v.seq≠u.seq)∧∀ v∈R,v.seq≠u.seq:=
 ⟨fun v hv e=>by have:=(Dz h).1 v hv;omega,fun v hv e=>by have:=(Dz h).2 v hv;omega⟩
theorem Nv {C:Core} {u:Uop} {a:Acc} {A:List Uop} (h:∀ v∈A,v.seq≠u.seq):(A.filter Bm).map (gD C u a)=(A.filter Bm).map (Bn C.words):=
 List.map_congr_left fun v hv=>by
  unfold gD
  rw [if_neg (h v (List.mem_filter.1 hv).1)]
theorem Af9 {C:Core} {L R:List Uop} {u u':Uop} {a:Acc} (hq:(L++u::R).Pairwise (fun u v=>u.seq<v.seq)) (hm:Bm u=true) (hm':Bm u'=Bm u) (hs:u'.seq=u.seq) (ha:a.seq=u.seq) :
  ((L++u'::R).filter Bm).map (gD C u a)=(L.filter Bm).map (Bn C.words)++a::(R.filter Bm).map (Bn C.words):=by
 rw [List.filter_append,List.filter_cons_of_pos (by rw [hm'];exact hm),List.map_append,List.map_cons,Nv (Gr hq).1,Nv (Gr hq).2]
 congr 2
 unfold gD
 rw [if_pos hs,hs,←ha]
theorem Ahx {C:Core} {L R:List Uop} {u u':Uop} {a:Acc} (hq:(L++u::R).Pairwise (fun u v=>u.seq<v.seq)) (hm:Bm u=false) (hm':Bm u'=Bm u) :
  ((L++u'::R).filter Bm).map (gD C u a)=((L++u::R).filter Bm).map (Bn C.words):=by
 rw [List.filter_append,List.filter_append,List.filter_cons_of_neg (by rw [hm',hm];simp),List.filter_cons_of_neg (by rw [hm];simp),List.map_append,List.map_append,Nv (Gr hq).1,Nv (Gr hq).2]
theorem Un {L R:List Uop} {u u':Uop} (hq:(L++u::R).Pairwise (fun u v=>u.seq<v.seq)) (h1:u.state=1) (h2:u'.state=2) (hs:u'.seq=u.seq) :
  It ((L++u::R).map B6) u.seq=some ((L++u'::R).map B6):=by
 rw [List.map_append,List.map_cons,List.map_append,List.map_cons]
 have e1:B6 u=⟨u.seq,false⟩:=by unfold B6;rw [h1];rfl
 have e2:B6 u'=⟨u.seq,true⟩:=by unfold B6;rw [h2,hs];rfl
 rw [e1,e2]
 exact Tk fun s hs=>by
  obtain⟨v,hv,rfl⟩:=List.mem_map.1 hs
  exact(Gr hq).1 v hv
theorem Zh {C:Core} (h:Inv C) {L R:List Uop} {u:Uop} (ho:C.ops=L++u::R) (h1:u.state=1) :
  (if Bs u.ins=true then Mq C u else (Cl u.ins (Eg C u) C.mem,C.access))=(Ad C L u,((L++uD u (Ad C L u)::R).filter Bm).map (gD C u (Ck C u (Ad C L u)))):=by
 obtain⟨N,hgN,_,hcN,_⟩:=h.names
 have hO:=h.ops L u R ho
 have hsq:=h.seqs
 have hac:=h.access
 rw [ho] at hcN hsq hac
 have hcz:u.cause=0:=by
  rcases Decidable.em (u.cause=0) with hc | hc
  ·exact hc
  ·have:=(hO.fault hc).1;omega
 have hi:=Iu (Inv.insOk hO hcz)
 obtain⟨K,_,hK,hNk,_⟩:=Gc hcN hgN rfl
 have hr1:=Ag4 (C:=C) (by exact h.hart.len) hNk hcz (by omega) (by omega)
 have hm':Bm (uD u (Ad C L u))=Bm u:=rfl
 have hbase:Bn C.words u=⟨u.seq,Ba u.ins,false,0,0,0,false⟩:=by
  unfold Bn Bc
  rw [h1]
  simp
 have hsee:=fun(p many:Int)=>Uk (words:=C.words) (A:=L) (B:=u::R) (seq:=u.seq) C.mem p many (fun v hv=>by
  rcases List.mem_cons.1 hv with rfl | hv
  ·omega
  ·have:=(Dz hsq).2 v hv;omega)
 by_cases hl:Bs u.ins=true
 ·have hmem:Bm u=true:=by unfold Bm;rw [hl];rfl
  have hst:Ba u.ins=false:=by
   rcases e:Ba u.ins with _ | _
   ·rfl
   ·have:=Fl.1 e;have:=D6.1 hl;omega
  obtain⟨q1,q2,q3⟩:=Sx (g:=Bn C.words) (R:=R) hmem (Ez _) (Gr hsq).1 (Ck C u (Ad C L u))
  have hex:Ad C L u=Ko (known L) C.mem u (C.word u.a):=by unfold Ad;rw [if_pos hl]
  have hss:=hsee (u32 (C.word u.a+u.ins.imm)) (loadBytes u.ins.op)
  rw [if_pos hl,Af9 hsq hmem hm' rfl (Pu _ _ _)]
  unfold Mq
  simp only [hr1]
  rw [hac,hss.1,hss.2]
  have hx:=hex
  unfold Ko at hx
  simp only at hx
  split
  ·rename_i hok
   rw [if_pos hok] at hx
   rw [←hx,q1,q2]
   have hst0:(Ad C L u).state=0:=by
    rw [hex]
    exact(Nf hl _ _ _).2 (by rw [←N2 (known L) C.mem u.seq];exact hok)
   have:({ Bn C.words u with known:=true,at_:=u32 (C.word u.a+u.ins.imm),many:=loadBytes u.ins.op,done:=true }:Acc)=Ck C u (Ad C L u):=by
    rw [hbase]
    unfold Ck
    rw [if_pos ⟨hl,hst0⟩,hst]
   rw [this,q3]
  ·rename_i hok
   rw [if_neg hok] at hx
   rw [←hx]
   have hst0:¬ (Ad C L u).state=0:=by
    rw [hex,Nf hl,←N2 (known L) C.mem u.seq]
    exact hok
   have:Ck C u (Ad C L u)=Bn C.words u:=by
    unfold Ck
    rw [if_neg (fun hh=>hst0 hh.2),hbase]
   rw [this,List.filter_append,List.filter_cons_of_pos hmem,List.map_append,List.map_cons]
 ·rw [if_neg hl]
  have hex:Ad C L u=Cl u.ins (Eg C u) C.mem:=by unfold Ad;rw [if_neg hl]
  rw [←hex]
  congr 1
  rw [hac]
  rcases hmem:Bm u with _ | _
  ·rw [Ahx hsq hmem hm']
  ·rw [Af9 hsq hmem hm' rfl (Pu _ _ _)]
   have:Ck C u (Ad C L u)=Bn C.words u:=by
    unfold Ck
    rw [if_neg (fun hh=>hl hh.1),hbase]
   rw [this,List.filter_append,List.filter_cons_of_pos hmem,List.map_append,List.map_cons]
def Oi (C:Core) (L:List Uop) (u:Uop):Bool:=(u.guessed&&decide (C.word u.dest≠(Ad C L u).value)) || decide ((Ad C L u).next≠u.next)
theorem M4 {C:Core} (h:Inv C) {L R:List Uop} {u:Uop} (ho:C.ops=L++u::R) (h1:u.state=1) :
  B9 C L.length =
   (let l:=Ad C L u
    let c2:=Cc C L R u l (uD u l) (Ck C u l)
    if l.state≠0 then { F8 c2 (u.seq+1) u.pc with still:=true }
    else
     let c3:=if Oi C L u=true then F8 (Cc C L R u l { uD u l with next:=l.next } (Ck C u l)) (u.seq+1) l.next else c2
     if Ba u.ins=true then Fc c3 L.length else c3):=by
 have hsq:=h.seqs
 rw [ho] at hsq
 have hu:C.op L.length=u:=Core.op_at ho
 have hlc:=Zh h ho h1
 unfold B9
 rw [hu]
 simp only [hlc]
 have hf:Et { Dk { C with access:=((L++uD u (Ad C L u)::R).filter Bm).map (gD C u (Ck C u (Ad C L u))) } u.dest (Ad C L u).value with ops:=C.ops.set L.length { u with commit:=Ad C L u } } L.length=Cc C L R u (Ad C L u) (uD u (Ad C L u)) (Ck C u (Ad C L u)):=by
  unfold Et
  rw [Wi]
  have e1:C.ops.set L.length { u with commit:=Ad C L u }=L++{ u with commit:=Ad C L u }::R:=by rw [ho];exact Gi
  simp only [e1]
  have e2:Core.op { C with access:=((L++uD u (Ad C L u)::R).filter Bm).map (gD C u (Ck C u (Ad C L u))),words:=if 0<u.dest then C.words.set u.dest.toNat (Ad C L u).value else C.words,there:=if 0<u.dest then C.there.set u.dest.toNat true else C.there,ops:=L++{ u with commit:=Ad C L u }::R } L.length={ u with commit:=Ad C L u }:=Core.op_at rfl
  rw [e2,Gi]
  have e3:(It C.slots u.seq).getD []=(L++uD u (Ad C L u)::R).map B6:=by
   rw [h.slots,ho,Un hsq h1 (u':=uD u (Ad C L u)) rfl rfl]
   rfl
  simp only [e3]
  rfl
 rw [hf]
 have hop:Core.op (Cc C L R u (Ad C L u) (uD u (Ad C L u)) (Ck C u (Ad C L u))) L.length=uD u (Ad C L u):=Core.op_at rfl
 have hset:(Cc C L R u (Ad C L u) (uD u (Ad C L u)) (Ck C u (Ad C L u))).ops.set L.length { uD u (Ad C L u) with next:=(Ad C L u).next }=L++{ uD u (Ad C L u) with next:=(Ad C L u).next }::R:=Gi
 rw [hop,hset]
 have hcc:({ Cc C L R u (Ad C L u) (uD u (Ad C L u)) (Ck C u (Ad C L u)) with ops:=L++{ uD u (Ad C L u) with next:=(Ad C L u).next }::R }:Core)=Cc C L R u (Ad C L u) { uD u (Ad C L u) with next:=(Ad C L u).next } (Ck C u (Ad C L u)):=by
  unfold Cc
  have e1:(L++{ uD u (Ad C L u) with next:=(Ad C L u).next }::R).map B6=(L++uD u (Ad C L u)::R).map B6:=by simp [B6]
  have e2:((L++{ uD u (Ad C L u) with next:=(Ad C L u).next }::R).filter Bm).map (gD C u (Ck C u (Ad C L u)))=((L++uD u (Ad C L u)::R).filter Bm).map (gD C u (Ck C u (Ad C L u))):=by
   rw [List.filter_append,List.filter_append,List.filter_cons,List.filter_cons]
   have:Bm { uD u (Ad C L u) with next:=(Ad C L u).next }=Bm (uD u (Ad C L u)):=rfl
   rw [this]
   split
   ·simp [gD,uD]
   ·rfl
  rw [e1,e2]
 rw [hcc]
 rfl
def Ft {α:Type} (P:α→Bool) (k:α→Int) (x:Int×Bool) (a:α):Int×Bool:=if (P a&&(!x.2 || decide (k a<x.1)))=true then (k a,true) else x
theorem Nh {α:Type} (P:α→Bool) (k:α→Int):∀ (l:List α) (x:Int×Bool),
  ((l.foldl (Ft P k) x).2=true→(x.2=true∧(l.foldl (Ft P k) x).1=x.1)∨∃ a∈l,P a=true∧(l.foldl (Ft P k) x).1=k a) ∧
  (∀ a∈l,P a=true→(l.foldl (Ft P k) x).2=true∧(l.foldl (Ft P k) x).1≤k a)∧(x.2=true→(l.foldl (Ft P k) x).2=true∧(l.foldl (Ft P k) x).1≤x.1)
 |[],x=>⟨fun h=>Or.inl ⟨h,rfl⟩,fun a ha _=>absurd ha List.not_mem_nil,fun h=>⟨h,Int.le_refl _⟩⟩
 |b::l,x=>by
  rw [List.foldl_cons]
  obtain⟨i1,i2,i3⟩:=Nh P k l (Ft P k x b)
  generalize l.foldl (Ft P k) (Ft P k x b)=f at i1 i2 i3
  by_cases hb:(P b&&(!x.2 || decide (k b<x.1)))=true
  ·have e:Ft P k x b=(k b,true):=if_pos hb
   rw [e] at i1 i3
   obtain⟨j1,j2⟩:=i3 rfl
   have hPb:P b=true:=by rw [Bool.and_eq_true] at hb;exact hb.1
   refine⟨fun h=>Or.inr ?_,fun a ha hP=>?_,fun hx=>⟨j1,?_⟩⟩
   ·rcases i1 h with⟨_,h2⟩ | ⟨a,ha,h2⟩
    ·exact⟨b,by simp,hPb,h2⟩
    ·exact⟨a,by simp [ha],h2⟩
   ·rcases List.mem_cons.1 ha with rfl | ha
    ·exact⟨j1,j2⟩
    ·exact i2 a ha hP
   ·rw [Bool.and_eq_true,hx] at hb
    simp at hb
    have:f.1≤k b:=j2
    omega
  ·have e:Ft P k x b=x:=if_neg hb
   rw [e] at i1 i3
   refine⟨fun h=>?_,fun a ha hP=>?_,i3⟩
   ·rcases i1 h with h2 | ⟨a,ha,h2⟩
    ·exact Or.inl h2
    ·exact Or.inr ⟨a,by simp [ha],h2⟩
   ·rcases List.mem_cons.1 ha with rfl | ha
    ·rw [hP] at hb
     simp at hb
     obtain⟨h1,h2⟩:=hb
     obtain⟨h3,h4⟩:=i3 h1
     exact⟨h3,by omega⟩
    ·exact i2 a ha hP
def R8 (s a:Acc):Bool:=!a.store&&a.known&&a.done&&decide (s.seq<a.seq)&&Qa s a
theorem Afm (s:Acc):Fo s=Ft (R8 s) (·.seq):=rfl
def Aaf (seq at_ many:Int) (v:Uop):Bool:=decide (seq<v.seq)&&Ua v.pc at_ many
theorem Vz (seq at_ many:Int):Dl seq at_ many=Ft (Aaf seq at_ many) (·.seq):=rfl
theorem Ux (l:List Acc) {seq:Int} {s:Acc} {Q:List Acc} (hs:Ja seq s=true):∀ {P:List Acc},(∀ x∈P,Ja seq x=false)→Iq l seq (P++s::Q)=l.foldl (Fo s) (0,false)
 |[],_=>by
  show(if Ja seq s=true then _ else _)=_
  rw [if_pos hs]
 |x::P,h=>by
  show(if Ja seq x=true then _ else Iq l seq (P++s::Q))=_
  rw [if_neg (by rw [h x (by simp)];simp),Ux l hs (fun y hy=>h y (by simp [hy]))]
theorem Ah8 {s a:Acc} (h:Qa s a=false) {q:Int} (h1:hasB s q=true) (h2:hasB a q=true):False:=by
 have h1':=h1
 unfold hasB at h1'
 simp only [Bool.and_eq_true,decide_eq_true_eq] at h1'
 have:=P9 s.many
 obtain⟨k,hk,rfl⟩:∃ k:Nat,k<4∧q=s.at_+k:=⟨(q - s.at_).toNat,by omega,by omega⟩
 unfold Qa Fi Fi Fi Fi Fi at h
 simp only [Bool.or_eq_false_iff] at h
 obtain⟨m0,m1,m2,m3,_⟩:=h
 have key:∀ c:Int,(k:Int)=c→(hasB s (s.at_+c)&&hasB a (s.at_+c))=false→False:=fun c e hh=>by
  subst e
  rw [h1,h2] at hh
  cases hh
 obtain rfl | rfl | rfl | rfl:k=0∨k=1∨k=2∨k=3:=by omega
 ·exact key _ (by omega) m0
 ·exact key _ (by omega) m1
 ·exact key _ (by omega) m2
 ·exact key _ (by omega) m3
theorem Aas {L X:List Uop} {u u':Uop} (h:Bc u=false) (h':Bc u'=true) (m:List Int) (seq q:Int) (hq:hasB (G7 u') q=false):Dj (known (L++u'::X)) m seq q=Dj (known (L++u::X)) m seq q:=by
 apply Rl
 have e1:known (u'::X)=G7 u'::known X:=by unfold known;rw [List.filter_cons_of_pos h'];rfl
 have e2:known (u::X)=known X:=by unfold known;rw [List.filter_cons_of_neg (by simp [h])]
 rw [Ma,Ma,e1,e2,List.filter_append,List.filter_append,List.filter_cons_of_neg]
 unfold Ho
 rw [hq]
 simp
theorem Rj {w w':List Int} {v:Uop} (h:w.getD v.a.toNat 0=w'.getD v.a.toNat 0):Bn w v=Bn w' v:=by
 unfold Bn Us
 rw [h]
theorem S8 {M K K2:A1} {B:List Uop} (h:Bt K B M) (h2:Bt K2 B M) (hg:Dp K) (hg2:Dp K2) (hp:B.Pairwise (fun u v=>u.seq<v.seq)):K=K2:=by
 have e1:=Qm (A:=[]) h hg (by simpa using hp)
 have e2:=Qm (A:=[]) h2 hg2 (by simpa using hp)
 exact e1.symm.trans e2
structure F5 (C:Core) (L R:List Uop) (u:Uop):Prop where
 ops:C.ops=L++u::R
 st:u.state=1
 cause:u.cause=0
 is:IsP u.ins=true
 ok:Su C L u R
 self:0<u.dest→u.a≠u.dest
 dest:0≤u.dest∧u.dest<96
 a:0≤u.a∧u.a<96
 ahead:∀ v∈L,(0≤v.a)∧(0<u.dest→v.a≠u.dest)
 val:0≤(Ad C L u).value∧(Ad C L u).value≤4294967295
 nx:0≤(Ad C L u).next∧(Ad C L u).next≤4294967295
 store:Ba u.ins=true→u.dest=0
theorem Ai1 {C:Core} (h:Inv C) {L R:List Uop} {u:Uop} (ho:C.ops=L++u::R) (h1:u.state=1):F5 C L R u:=by
 obtain⟨N,hgN,_,hcN,_⟩:=h.names
 have hO:=h.ops L u R ho
 have hap:=h.apart
 have hreg:=fun L' v R' (e:C.ops=L'++v::R')=>Kc (by rw [←e];exact hcN) hgN (h.ops L' v R' e)
 rw [ho] at hcN hap
 have hcz:u.cause=0:=by
  rcases Decidable.em (u.cause=0) with hc | hc
  ·exact hc
  ·have:=(hO.fault hc).1;omega
 have his:=Inv.insOk hO hcz
 have hi:=Iu his
 obtain⟨K,_,hK,hNk,_⟩:=Gc hcN hgN rfl
 obtain⟨_,_,hap3⟩:=List.pairwise_append.1 hap
 have hwf:=Pv h (L:=L) (u:=u) (by omega) hO.pc
 refine⟨ho,h1,hcz,his,hO,fun hd e=>?_,(hreg L u R ho).2.2,(hreg L u R ho).1,fun v hv=>⟨?_,(hap3 v hv u (by simp)).a⟩,hwf.value,hwf.next,fun hs=>Aa8 hNk hs⟩
 ·have hfr:u.dest∈K.free:=by rw [(hNk.dst hd).2.2.1];simp
  obtain⟨m1,_⟩:=hNk.src_mem hK (fun _=>⟨by omega,by omega⟩) hcz
  exact hK.disjoint m1 (e▸hfr)
 ·obtain⟨P,Q,e⟩:=List.append_of_mem hv
  exact(hreg P v (Q++u::R) (by rw [ho,e];simp)).1.1
theorem F5.same {C:Core} {L R:List Uop} {u:Uop} (d:F5 C L R u) (v:Int) {p:Int} (hp:0≤p) (hne:0<u.dest→p≠u.dest):(Ey C u v).getD p.toNat 0=C.word p∧(I2 C u).getD p.toNat false=C.has p:=by
 unfold Ey I2
 split
 ·rename_i hd
  exact⟨Aag v d.dest.1 hp (hne hd),W5 true d.dest.1 hp (hne hd)⟩
 ·exact⟨rfl,rfl⟩
theorem F5.acc_ahead {C:Core} {L R:List Uop} {u:Uop} (d:F5 C L R u) (x:Int):∀ v∈L,Bn (Ey C u x) v=Bn C.words v:=fun v hv=>
 Rj (d.same x (d.ahead v hv).1 (d.ahead v hv).2).1
theorem F5.acc_self {C:Core} {L R:List Uop} {u:Uop} (d:F5 C L R u) (x:Int) {u':Uop} (h2:u'={ u with state:=2,commit:=Ad C L u,next:=u'.next }) (hk:Bc u'=false):Bn (Ey C u x) u'=Ck C u (Ad C L u):=by
 have e':∀ {α:Type} (f:Uop→α),f u'=f { u with state:=2,commit:=Ad C L u,next:=u'.next }:=fun f=>congrArg f h2
 have i1:u'.ins=u.ins:=e' Uop.ins
 have i3:u'.a=u.a:=e' Uop.a
 have i6:u'.seq=u.seq:=e' Uop.seq
 have i9:u'.state=2:=e' Uop.state
 have i10:u'.commit=Ad C L u:=e' Uop.commit
 unfold Bn Ck
 rw [hk,i1,i9,i10,i6,i3]
 have hw:Us (Ey C u x) u.a=C.word u.a:=(d.same x d.a.1 d.self).1
 rw [hw,if_neg (by simp)]
 by_cases hl:Bs u.ins=true∧(Ad C L u).state=0
 ·rw [if_pos ⟨hl.1,rfl,hl.2⟩,if_pos hl]
 ·rw [if_neg (fun hh=>hl ⟨hh.1,hh.2.2⟩),if_neg hl]
theorem F5.back {C:Core} (h:Inv C) {L R:List Uop} {u:Uop} (d:F5 C L R u) {u':Uop} (h2:u'={ u with state:=2,commit:=Ad C L u,next:=u'.next }) (hk:Bc u'=false) (pc:Int) :
  ∃ M,(∀ N,Bt N (L++u::[]++R) C.names→Dp N→Bt N (L++u::[]) M) ∧
   F8 (Cc C L R u (Ad C L u) u' (Ck C u (Ad C L u))) (u.seq+1) pc =
    { C with ops:=L++u'::[],slots:=(L++u'::[]).map B6,access:=((L++u'::[]).filter Bm).map (Bn (Ey C u (Ad C L u).value)),names:=M,words:=Ey C u (Ad C L u).value,there:=I2 C u,pc:=pc,still:=false,backs:=C.backs+1 }:=by
 obtain⟨N0,hgN,_,hcN,_⟩:=h.names
 have hsq:=h.seqs
 rw [d.ops] at hcN hsq
 have e':∀ {α:Type} (f:Uop→α),f u'=f { u with state:=2,commit:=Ad C L u,next:=u'.next }:=fun f=>congrArg f h2
 have i6:u'.seq=u.seq:=e' Uop.seq
 obtain⟨K,K',hK,hNk,hc1,hK',hc2⟩:=Gc hcN hgN rfl
 have hgK':Dp K':=by rw [hK'];exact hK.next hNk
 have hpR:R.Pairwise (fun u v=>u.seq<v.seq):=(List.pairwise_cons.1 (List.pairwise_append.1 hsq).2.1).2
 have hsq':(L++[u']++R).Pairwise (fun u v=>u.seq<v.seq):=by
  rw [List.append_assoc,List.singleton_append]
  rw [List.pairwise_append,List.pairwise_cons] at hsq ⊢
  obtain⟨p1,⟨p2,p3⟩,p4⟩:=hsq
  refine⟨p1,⟨fun v hv=>by rw [i6];exact p2 v hv,p3⟩,fun a ha b hb=>?_⟩
  rcases List.mem_cons.1 hb with rfl | hb
  ·rw [i6];exact p4 a ha u (by simp)
  ·exact p4 a ha b (by simp [hb])
 refine⟨K',fun N hN hg=>?_,?_⟩
 ·rw [List.append_assoc] at hN
  have hN':Bt N (L++u::R) C.names:=hN
  obtain⟨K2,_,hK2,hNk2,hd1,hK2',hd2⟩:=Gc hN' hg rfl
  have hgK2':Dp (Dm K2 u):=hK2.next hNk2
  rw [hK2'] at hd2
  have:=S8 hc2 hd2 hgK' hgK2' hpR
  rw [this]
  exact hd1.snoc hNk2
 ·have hb:=Acs (c:=Cc C L R u (Ad C L u) u' (Ck C u (Ad C L u))) (A:=L++[u']) (B:=R) (K:=K') (g:=gD C u (Ck C u (Ad C L u))) (s:=u.seq+1) pc (by simp [Cc]) (by simp [Cc]) hsq'
   (fun v hv=>?_) (fun v hv=>?_) (Tr C u _) (by simp [Cc]) hc2 hgK'
  ·rw [hb]
   have hlist:((L++[u']).filter Bm).map (gD C u (Ck C u (Ad C L u)))=((L++[u']).filter Bm).map (Bn (Ey C u (Ad C L u).value)):=by
    refine List.map_congr_left fun v hv=>?_
    rcases List.mem_append.1 (List.mem_filter.1 hv).1 with hv | hv
    ·unfold gD
     rw [if_neg ((Gr hsq).1 v hv),d.acc_ahead _ v hv]
    ·obtain rfl:=List.mem_singleton.1 hv
     rw [d.acc_self _ h2 hk]
     unfold gD
     rw [if_pos i6,i6,←Pu C u (Ad C L u)]
   rw [hlist]
   rfl
  ·rcases List.mem_append.1 hv with hv | hv
   ·have:=(Dz hsq).1 v hv;omega
   ·obtain rfl:=List.mem_singleton.1 hv;omega
  ·have:=(Dz hsq).2 v hv;omega
structure Kept (C C':Core) (L R:List Uop) (u:Uop):Prop where
 inv:Inv C'
 ops:∃ u' X Y,R=X++Y∧C'.ops=L++u'::X∧u'.state=2∧u'.seq=u.seq
 hart:C'.hart=C.hart
 mem:C'.mem=C.mem
 commits:C'.commits=C.commits
 cfg:C'.wide=C.wide∧C'.window=C.window∧C'.phys=C.phys
 cycles:C'.cycles=C.cycles
 taken:C'.taken=C.taken
 backs:C.backs≤C'.backs∧C'.backs≤C.backs+1
 seq:C'.seq=C.seq
theorem F5.words {C:Core} {L R:List Uop} {u:Uop} (h:Inv C) (d:F5 C L R u):((Ey C u (Ad C L u).value).length=96∧∀ x∈Ey C u (Ad C L u).value,0≤x∧x≤4294967295)∧(I2 C u).length=96:=by
 unfold Ey I2
 split
 ·refine⟨⟨by simp [h.words.1],fun x hx=>?_⟩,by simp [h.there]⟩
  rcases List.mem_or_eq_of_mem_set hx with hx | rfl
  ·exact h.words.2 x hx
  ·exact d.val
 ·exact⟨h.words,h.there⟩
theorem F5.got {C:Core} {L R:List Uop} {u:Uop} (h:Inv C) (d:F5 C L R u):0<u.dest→(I2 C u).getD u.dest.toNat false=true∧(Ey C u (Ad C L u).value).getD u.dest.toNat 0=(Ad C L u).value:=by
 intro hd
 unfold Ey I2
 rw [if_pos hd,if_pos hd]
 exact⟨Tw true d.dest.1 (by rw [h.there];exact d.dest.2),Afj _ d.dest.1 (by rw [h.words.1];exact d.dest.2)⟩
theorem Z9 {u:Uop} (hc:u.cause=0) (h1:u.state=1):Cz u=false:=by unfold Cz;rw [hc,h1];rfl
theorem F5.chain {C:Core} {L R:List Uop} {u:Uop} (h:Inv C) (d:F5 C L R u):Ei C.hart.pc L u.pc∧∀ x∈L,Cz x=false:=by
 have:=h.pcs
 rw [d.ops] at this
 exact this.cut
theorem Vk {C:Core} (h:Inv C) {L R:List Uop} {u u':Uop} (d:F5 C L R u) (h2:u'={ u with state:=2,commit:=Ad C L u,next:=u'.next }) (hk:Bc u'=false) (pc:Int) (still:Bool) (hpcr:0≤pc∧pc≤4294967295)
  (hq:Cz u'=false→u'.next=pc) (hnr:0≤u'.next∧u'.next≤4294967295) (hnx:Cz u'=false→u'.next=(Ad C L u).next) (hns:(Ba u.ins || Be u.ins)=true→u'.next=u32 (u.pc+4)) (hlast:Eu u'=true→still=true) :
  Kept C { F8 (Cc C L R u (Ad C L u) u' (Ck C u (Ad C L u))) (u.seq+1) pc with still:=still } L R u:=by
 obtain⟨M,hM,hb⟩:=d.back h h2 hk pc
 obtain⟨hw,ht⟩:=d.words h
 have e':∀ {α:Type} (f:Uop→α),f u'=f { u with state:=2,commit:=Ad C L u,next:=u'.next }:=fun f=>congrArg f h2
 rw [hb]
 have hI:=h.done (X:=[]) (Y:=R) d.ops d.st h2 (Ey C u (Ad C L u).value) (I2 C u) hw ht (fun p hp hne=>d.same _ hp hne) (d.got h) (fun hx=>absurd rfl hx) M hM
  (fun X1 v X2 e=>absurd e.symm (by simp)) (fun X1 v X2 e=>absurd e.symm (by simp)) pc (C.backs+1) still
  (by
   obtain⟨p1,p2⟩:=d.chain h
   refine Ei.snoc ?_ p2 pc hq
   rw [show u'.pc=u.pc from e' Uop.pc]
   exact p1)
  hpcr hnr hnx hns (fun hl=>⟨rfl,hlast hl⟩) (fun _ hx=>absurd rfl hx)
 exact⟨hI,⟨u',[],R,rfl,rfl,e' Uop.state,e' Uop.seq⟩,rfl,rfl,rfl,⟨rfl,rfl,rfl⟩,rfl,rfl,⟨by show C.backs≤C.backs+1;omega,Int.le_refl _⟩,rfl⟩
theorem Ae9 {C:Core} (h:Inv C) {L R:List Uop} {u:Uop} (d:F5 C L R u) (hst:Ba u.ins=false) (h0:(Ad C L u).state=0) (hmiss:Oi C L u=false) :
  Kept C (Cc C L R u (Ad C L u) (uD u (Ad C L u)) (Ck C u (Ad C L u))) L R u:=by
 obtain⟨hw,ht⟩:=d.words h
 unfold Oi at hmiss
 simp only [Bool.or_eq_false_iff,Bool.and_eq_false_iff,decide_eq_false_iff_not,Decidable.not_not] at hmiss
 obtain⟨m1,m2⟩:=hmiss
 have hk:Bc (uD u (Ad C L u))=false:=by unfold Bc uD;simp only [hst];rfl
 have hk0:Bc u=false:=by unfold Bc;rw [hst];rfl
 have hsq:=h.seqs
 rw [d.ops] at hsq
 have hstop:Cz (uD u (Ad C L u))=false:=by unfold Cz uD;simp only [d.cause,h0];rfl
 have hold:R≠[]→0<u.dest→C.has u.dest=true→C.word u.dest=(Ad C L u).value:=by
  intro _ hd hh
  have hg:=d.ok.d1 hd (by rw [d.st];omega) hh
  rw [hg] at m1
  simpa using m1
 have hwX:∀ v∈R,Bn (Ey C u (Ad C L u).value) v=Bn C.words v:=by
  intro v hv
  by_cases hl:Bs v.ins=true∧v.state=2∧v.commit.state=0
  ·obtain⟨X1,X2,e⟩:=List.append_of_mem hv
   have hOv:=h.ops (L++u::X1) v X2 (by rw [d.ops,e];simp)
   have hcv:v.cause=0:=by
    rcases Decidable.em (v.cause=0) with hc | hc
    ·exact hc
    ·obtain⟨_,e1,_⟩:=hOv.fault hc
     have:=hl.2.2
     rw [e1] at this
     cases this
   obtain⟨s1,_⟩:=hOv.src hcv (by omega)
   obtain⟨N,hgN,_,hcN,_⟩:=h.names
   have hr:=(Kc (by rw [d.ops,e] at hcN;rw [List.append_assoc];exact hcN) hgN hOv).1
   apply Rj
   by_cases hpd:0<u.dest∧v.a=u.dest
   ·obtain⟨hd',e2⟩:=hpd
    rw [e2] at s1 ⊢
    rw [(d.got h hd').2]
    exact(hold (by rw [e];simp) hd' s1).symm
   ·exact(d.same _ hr.1 fun hd' hpe=>hpd ⟨hd',hpe⟩).1
  ·unfold Bn
   rw [if_neg hl,if_neg hl]
 have hlist:((L++uD u (Ad C L u)::R).filter Bm).map (gD C u (Ck C u (Ad C L u)))=((L++uD u (Ad C L u)::R).filter Bm).map (Bn (Ey C u (Ad C L u).value)):=by
  refine List.map_congr_left fun v hv=>?_
  rcases List.mem_append.1 (List.mem_filter.1 hv).1 with hv | hv
  ·unfold gD
   rw [if_neg ((Gr hsq).1 v hv),d.acc_ahead _ v hv]
  ·rcases List.mem_cons.1 hv with rfl | hv
   ·rw [d.acc_self _ rfl hk]
    unfold gD
    rw [if_pos (show(uD u (Ad C L u)).seq=u.seq from rfl)]
    show { Ck C u (Ad C L u) with seq:=u.seq }=_
    rw [←Pu C u (Ad C L u)]
   ·unfold gD
    rw [if_neg ((Gr hsq).2 v hv),hwX v hv]
 have hkn:∀ X1,known (L++uD u (Ad C L u)::X1)=known (L++u::X1):=fun X1=>Wc hk0 hk
 have hI:=h.done (X:=R) (Y:=[]) (by rw [List.append_nil];exact d.ops) d.st (u':=uD u (Ad C L u)) rfl (Ey C u (Ad C L u).value) (I2 C u) hw ht (fun p hp hne=>d.same _ hp hne) (d.got h) hold C.names
  (fun N hN _=>by rw [List.append_nil] at hN;exact hN) (fun X1 v X2 _=>by rw [hkn]) (fun X1 v X2 _ _ _=>by rw [hkn]) C.pc C.backs C.still
  (by
   have:=h.pcs
   rw [d.ops] at this
   exact Ei.put (u:=u) (u':=uD u (Ad C L u)) rfl rfl (hstop.trans (Z9 d.cause d.st).symm) this)
  h.pc d.ok.next (fun _=>m2.symm) (d.ok.nextS d.cause)
  (fun hl=>by
   have:Eu u=true:=by
    unfold Eu at hl ⊢
    rw [hstop,Bool.or_false] at hl
    rw [show Be u.ins=true from hl]
    rfl
   exact d.ok.last this) (fun _ _ hh=>hh)
 have hcore:Cc C L R u (Ad C L u) (uD u (Ad C L u)) (Ck C u (Ad C L u))={ C with ops:=L++uD u (Ad C L u)::R,slots:=(L++uD u (Ad C L u)::R).map B6,access:=((L++uD u (Ad C L u)::R).filter Bm).map (Bn (Ey C u (Ad C L u).value)),names:=C.names,words:=Ey C u (Ad C L u).value,there:=I2 C u,pc:=C.pc,still:=C.still,backs:=C.backs }:=by
  unfold Cc
  rw [hlist]
 rw [hcore]
 exact⟨hI,⟨uD u (Ad C L u),R,[],by simp,rfl,rfl,rfl⟩,rfl,rfl,rfl,⟨rfl,rfl,rfl⟩,rfl,rfl,⟨Int.le_refl _,by show C.backs≤C.backs+1;omega⟩,rfl⟩
theorem Aic {pc at_ many:Int} (_hm:many=1∨many=2∨many=4) (h:Ua pc at_ many=false) {u:Uop} (h1:u.commit.at_=at_) (h2:u.commit.many=many) {q:Int} (q1:pc≤q) (q2:q<pc+4):hasB (G7 u) q=false:=by
 rcases hh:hasB (G7 u) q with _ | _
 ·rfl
 ·exfalso
  unfold hasB G7 Gy at hh
  rw [h1,h2] at hh
  unfold Ua at h
  simp at hh h
  omega
theorem Wk {L X:List Uop} {u u':Uop} (h:Bc u=false) (h':Bc u'=true) {m:List Int} {seq p many:Int} (hq:∀ q,p≤q→q<p+4→(many=1→q<p+1)→(many=2→q<p+2)→hasB (G7 u') q=false) :
  (Ee (known (L++u'::X)) m seq p many).1=(Ee (known (L++u::X)) m seq p many).1∧(Ee (known (L++u'::X)) m seq p many).2.1=(Ee (known (L++u::X)) m seq p many).2.1:=
 O6 rfl fun q q1 q2 q3 q4=>Aas h h' m seq q (hq q q1 q2 q3 q4)
theorem Yz {L X:List Uop} {u u' v:Uop} (h:Bc u=false) (h':Bc u'=true) {m:List Int} (hm:u'.commit.many=1∨u'.commit.many=2∨u'.commit.many=4) (ho:Ua v.pc u'.commit.at_ u'.commit.many=false) :
  Ds (known (L++u'::X)) m v.seq v.pc=Ds (known (L++u::X)) m v.seq v.pc:=by
 obtain⟨e1,e2⟩:=Wk (L:=L) (X:=X) h h' (m:=m) (seq:=v.seq) (p:=v.pc) (many:=4) fun q q1 q2 _ _=>Aic hm ho rfl rfl q1 q2
 unfold Ds
 rw [e1,e2]
theorem Zi {L X:List Uop} {u u' v:Uop} {w:Int} (h:Bc u=false) (h':Bc u'=true) {m:List Int} (hl:Bs v.ins=true) (hlen:m.length≤4096)
  (hv:Gu m (u32 (w+v.ins.imm)) (loadBytes v.ins.op)=true→Qa (G7 u') ⟨v.seq,false,true,u32 (w+v.ins.imm),loadBytes v.ins.op,0,true⟩=false) :
  Ko (known (L++u'::X)) m v w=Ko (known (L++u::X)) m v w:=by
 rw [J3 hl,J3 hl]
 split
 ·rename_i hok
  have hmeet:=hv hok
  have hb:=J2 (D6.1 hl)
  have hok':=hok
  unfold Gu Bv at hok'
  simp only [Bool.and_eq_true,decide_eq_true_eq,Bool.or_eq_true] at hok'
  have hu:=Dc (w+v.ins.imm)
  obtain⟨e1,_⟩:=Wk (L:=L) (X:=X) h h' (m:=m) (seq:=v.seq) (p:=u32 (w+v.ins.imm)) (many:=loadBytes v.ins.op) fun q q1 q2 q3 q4=>by
   rcases hh:hasB (G7 u') q with _ | _
   ·rfl
   ·exfalso
    refine Ah8 hmeet hh ?_
    have hmi:Gy (loadBytes v.ins.op)=loadBytes v.ins.op:=by unfold Gy;omega
    unfold hasB
    rw [hmi]
    simp
    omega
  rw [e1]
 ·rfl
theorem Ab6 {C:Core} (h:Inv C) {L R:List Uop} {u:Uop} (d:F5 C L R u) (hst:Ba u.ins=true) (h0:(Ad C L u).state=0) (hmiss:Oi C L u=false) :
  Kept C (Fc (Cc C L R u (Ad C L u) (uD u (Ad C L u)) (Ck C u (Ad C L u))) L.length) L R u:=by
 have hw:Ey C u (Ad C L u).value=C.words:=by unfold Ey;rw [d.store hst];rfl
 have ht:I2 C u=C.there:=by unfold I2;rw [d.store hst];rfl
 have hsq:=h.seqs
 rw [d.ops] at hsq
 have hm2:(Ad C L u).next=u.next:=by
  unfold Oi at hmiss
  simp only [Bool.or_eq_false_iff,decide_eq_false_iff_not,Decidable.not_not] at hmiss
  exact hmiss.2
 have hk:Bc (uD u (Ad C L u))=true:=by unfold Bc uD;simp only [hst,h0];rfl
 have hk0:Bc u=false:=by unfold Bc;rw [d.st];simp
 have hmemu:Bm u=true:=by unfold Bm;rw [hst,Bool.or_true]
 have hstop:Cz (uD u (Ad C L u))=false:=by unfold Cz uD;simp only [d.cause,h0];rfl
 have hal:Be u.ins=false:=by
  rcases e:Be u.ins with _ | _
  ·rfl
  ·have:=K7.1 e;have:=Fl.1 hst;omega
 have hlo:Bs u.ins=false:=by
  rcases e:Bs u.ins with _ | _
  ·rfl
  ·have:=D6.1 e;have:=Fl.1 hst;omega
 have hlast:Eu (uD u (Ad C L u))=false:=by unfold Eu;rw [hstop];exact(by rw [show Be (uD u (Ad C L u)).ins=Be u.ins from rfl,hal];rfl)
 have hmany:(uD u (Ad C L u)).commit.many=1∨(uD u (Ad C L u)).commit.many=2∨(uD u (Ad C L u)).commit.many=4:=by
  show(Ad C L u).many=1∨(Ad C L u).many=2∨(Ad C L u).many=4
  have hx:Ad C L u=Cl u.ins (Eg C u) C.mem:=by unfold Ad;rw [if_neg (by rw [hlo];simp)]
  rw [hx] at h0 ⊢
  rw [(Na _ _ hst h0).1]
  show Ej _=1∨Ej _=2∨Ej _=4
  unfold Ej
  (repeat' split)<;>omega
 obtain⟨u',hu'⟩:∃ u',u'=uD u (Ad C L u):=⟨_,rfl⟩
 have i6:u'.seq=u.seq:=by rw [hu'];rfl
 have hsq':(L++u'::R).Pairwise (fun u v=>u.seq<v.seq):=by
  rw [List.pairwise_append,List.pairwise_cons] at hsq ⊢
  obtain⟨p1,⟨p2,p3⟩,p4⟩:=hsq
  refine⟨p1,⟨fun v hv=>by rw [i6];exact p2 v hv,p3⟩,fun a ha b hb=>?_⟩
  rcases List.mem_cons.1 hb with rfl | hb
  ·rw [i6];exact p4 a ha u (by simp)
  ·exact p4 a ha b (by simp [hb])
 have hmem':Bm u'=true:=by rw [hu'];exact hmemu
 have haS:Bn C.words u'=G7 u':=by unfold Bn;rw [if_pos (by rw [hu'];exact hk)]
 have hacc:(Cc C L R u (Ad C L u) u' (Ck C u (Ad C L u))).access.set (Jm (Cc C L R u (Ad C L u) u' (Ck C u (Ad C L u))).access u'.seq).toNat
   { (Cc C L R u (Ad C L u) u' (Ck C u (Ad C L u))).access.getD (Jm (Cc C L R u (Ad C L u) u' (Ck C u (Ad C L u))).access u'.seq).toNat default with known:=true,at_:=u'.commit.at_,many:=u'.commit.many,data:=u'.commit.data }=((L++u'::R).filter Bm).map (Bn C.words):=by
  have hac:(Cc C L R u (Ad C L u) u' (Ck C u (Ad C L u))).access=((L++u'::R).filter Bm).map (gD C u (Ck C u (Ad C L u))):=rfl
  have hgu:gD C u (Ck C u (Ad C L u)) u'=⟨u.seq,true,false,0,0,0,false⟩:=by
   unfold gD Ck
   rw [if_pos i6,if_neg (by rw [hlo];simp),hst,i6]
  obtain⟨q1,q2,q3⟩:=Sx (g:=gD C u (Ck C u (Ad C L u))) (L:=L) (R:=R) hmem' (Tr C u _) (fun v hv=>by rw [i6];exact(Gr hsq).1 v hv) (G7 u')
  rw [hac,q1,q2,hgu]
  have:({ (⟨u.seq,true,false,0,0,0,false⟩:Acc) with known:=true,at_:=u'.commit.at_,many:=u'.commit.many,data:=u'.commit.data }:Acc)=G7 u':=by unfold G7;rw [i6]
  rw [this,q3,Nv (Gr hsq).1,Nv (Gr hsq).2,List.filter_append,List.filter_cons_of_pos hmem',List.map_append,List.map_cons,haS]
 have hwr:I3 (((L++u'::R).filter Bm).map (Bn C.words)) u'.seq=(((L++u'::R).filter Bm).map (Bn C.words)).foldl (Ft (R8 (G7 u')) (·.seq)) (0,false):=by
  unfold I3
  generalize hl0:((L++u'::R).filter Bm).map (Bn C.words)=l0
  have e:((L++u'::R).filter Bm).map (Bn C.words)=(L.filter Bm).map (Bn C.words)++G7 u'::(R.filter Bm).map (Bn C.words):=by
   rw [List.filter_append,List.filter_cons_of_pos hmem',List.map_append,List.map_cons,haS]
  rw [←hl0]
  conv=>lhs;arg 3;rw [e]
  rw [Ux _ (s:=G7 u') (by unfold Ja G7;simp) (fun x hx=>by
   obtain⟨v,hv,rfl⟩:=List.mem_map.1 hx
   unfold Ja
   rw [Ez,decide_eq_false (by rw [i6];exact(Gr hsq).1 v (List.mem_filter.1 hv).1),Bool.and_false])]
  rfl
 have hmemR:∀ v∈L++u'::R,u'.seq<v.seq→v∈R:=by
  intro v hv hlt
  rcases List.mem_append.1 hv with hv | hv
  ·have:=(Dz hsq').1 v hv;omega
  ·rcases List.mem_cons.1 hv with rfl | hv
   ·omega
   ·exact hv
 obtain⟨w1,w2,_⟩:=Nh (R8 (G7 u')) (·.seq) (((L++u'::R).filter Bm).map (Bn C.words)) (0,false)
 rw [←hwr] at w1 w2
 obtain⟨f1,f2,f3⟩:=Nh (Aaf u'.seq u'.commit.at_ u'.commit.many) (·.seq) (L++u'::R) (I3 (((L++u'::R).filter Bm).map (Bn C.words)) u'.seq)
 rw [←Vz] at f1 f2 f3
 generalize hf:(L++u'::R).foldl (Dl u'.seq u'.commit.at_ u'.commit.many) (I3 (((L++u'::R).filter Bm).map (Bn C.words)) u'.seq)=f at f1 f2 f3
 generalize hw0:I3 (((L++u'::R).filter Bm).map (Bn C.words)) u'.seq=w0 at w1 w2 f1 f3 hf
 have F1:f.2=true→∃ v∈R,f.1=v.seq:=by
  intro ht'
  rcases f1 ht' with⟨h2,h3⟩ | ⟨v,hv,hP,h3⟩
  ·rcases w1 h2 with⟨h4,_⟩ | ⟨a,ha,hP,h4⟩
   ·cases h4
   ·obtain⟨v,hv,rfl⟩:=List.mem_map.1 ha
    refine⟨v,hmemR v (List.mem_filter.1 hv).1 ?_,by rw [h3,h4,Ez]⟩
    unfold R8 at hP
    simp only [Bool.and_eq_true,decide_eq_true_eq] at hP
    have:=hP.1.2
    rw [Ez] at this
    exact this
  ·refine⟨v,hmemR v hv ?_,h3⟩
   unfold Aaf at hP
   simp only [Bool.and_eq_true,decide_eq_true_eq] at hP
   exact hP.1
 have F2:∀ v∈R,Ua v.pc u'.commit.at_ u'.commit.many=true→f.2=true∧f.1≤v.seq:=fun v hv ho=>
  f2 v (by simp [hv]) (by unfold Aaf;rw [ho,decide_eq_true (by have:=(Dz hsq').2 v hv;exact this)];rfl)
 have F3:∀ v∈R,Bm v=true→R8 (G7 u') (Bn C.words v)=true→f.2=true∧f.1≤v.seq:=fun v hv hm hP=>by
  have:=w2 (Bn C.words v) (List.mem_map.2 ⟨v,List.mem_filter.2 ⟨by simp [hv],hm⟩,rfl⟩) hP
  obtain⟨g1,g2⟩:=f3 this.1
  rw [Ez] at this
  exact⟨g1,by omega⟩
 have see:∀ X Y,R=X++Y→(∀ v∈X,f.2=true→v.seq<f.1)→(∀ X1 v X2,X=X1++v::X2→Ds (known (L++u'::X1)) C.mem v.seq v.pc=Ds (known (L++u::X1)) C.mem v.seq v.pc) ∧
   (∀ X1 v X2,X=X1++v::X2→Bs v.ins=true→v.state=2→Ko (known (L++u'::X1)) C.mem v (C.word v.a)=Ko (known (L++u::X1)) C.mem v (C.word v.a)):=by
  intro X Y hR hlt
  refine⟨fun X1 v X2 e=>?_,fun X1 v X2 e hl hs2=>?_⟩
  ·have hvR:v∈R:=by rw [hR,e];simp
   refine Yz hk0 (by rw [hu'];exact hk) (by rw [hu'];exact hmany) ?_
   rcases ho:Ua v.pc u'.commit.at_ u'.commit.many with _ | _
   ·rfl
   ·obtain⟨g1,g2⟩:=F2 v hvR ho
    have:=hlt v (by rw [e];simp) g1
    omega
  ·have hvR:v∈R:=by rw [hR,e];simp
   have hOv:=h.ops (L++u::X1) v (X2++Y) (by rw [d.ops,hR,e];simp)
   have hcv:v.cause=0:=by
    rcases Decidable.em (v.cause=0) with hc | hc
    ·exact hc
    ·exfalso
     have hff:=hOv.fetch
     have hop:=D6.1 hl
     have hins:v.ins=Fs:=by
      have e1:v.ins=(Ds (known (L++u::X1)) C.mem v.seq v.pc).1:=congrArg Prod.fst hff
      have e2:v.cause=(Ds (known (L++u::X1)) C.mem v.seq v.pc).2:=congrArg Prod.snd hff
      rw [e1]
      rw [e2] at hc
      unfold Ds at hc ⊢
      split
      ·rename_i hsee
       rw [if_pos hsee] at hc
       unfold Da at hc ⊢
       split
       ·rename_i hld
        rw [if_pos hld] at hc
        cases hdd:Ld (Cd (bytesOf (Ee (known (L++u::X1)) C.mem v.seq v.pc 4).1) 13 0).1 with
        |none=>rfl
        |some i=>rw [hdd] at hc;exact absurd rfl hc
       ·rfl
      ·rfl
     rw [hins] at hop
     have:Fs.op=0:=rfl
     omega
   refine Zi hk0 (by rw [hu'];exact hk) hl h.room fun hok=>?_
   have hcs:v.commit.state=0:=by
    rw [hOv.com hcv hs2]
    unfold Ad
    rw [if_pos hl]
    exact(Nf hl _ _ _).2 hok
   have hkv:Bc v=false:=by
    unfold Bc
    rcases e:Ba v.ins with _ | _
    ·rfl
    ·have:=Fl.1 e;have:=D6.1 hl;omega
   have hav:Bn C.words v=⟨v.seq,false,true,u32 (C.word v.a+v.ins.imm),loadBytes v.ins.op,0,true⟩:=by
    unfold Bn
    rw [hkv,if_neg (by simp),if_pos ⟨hl,hs2,hcs⟩]
    rfl
   rw [←hav]
   rcases hmm:Qa (G7 u') (Bn C.words v) with _ | _
   ·rfl
   ·have hP:R8 (G7 u') (Bn C.words v)=true:=by
     unfold R8
     rw [hmm,hav]
     have:(G7 u').seq<v.seq:=(Dz hsq').2 v hvR
     simp [this]
    obtain⟨g1,g2⟩:=F3 v hvR (by unfold Bm;rw [hl];rfl) hP
    have:=hlt v (by rw [e];simp) g1
    omega
 have hpch:Ei C.hart.pc (L++u'::R) C.pc:=by
  have:=h.pcs
  rw [d.ops] at this
  exact Ei.put (u:=u) (u':=u') (by rw [hu'];rfl) (by rw [hu'];rfl) (by rw [hu'];exact hstop.trans (Z9 d.cause d.st).symm) this
 obtain⟨hwl,htl⟩:=d.words h
 rw [hw] at hwl
 rw [ht] at htl
 have hgot:0<u.dest→C.there.getD u.dest.toNat false=true∧C.words.getD u.dest.toNat 0=(Ad C L u).value:=fun hd=>by have:=d.store hst;omega
 have hcore:Cc C L R u (Ad C L u) u' (Ck C u (Ad C L u))={ C with access:=((L++u'::R).filter Bm).map (gD C u (Ck C u (Ad C L u))),ops:=L++u'::R,slots:=(L++u'::R).map B6 }:=by
  unfold Cc
  rw [hw,ht]
 have hop:Core.op (Cc C L R u (Ad C L u) u' (Ck C u (Ad C L u))) L.length=u':=Core.op_at rfl
 rw [←hu']
 unfold Fc
 rw [hop]
 simp only [hacc]
 have hopsD:(Cc C L R u (Ad C L u) u' (Ck C u (Ad C L u))).ops=L++u'::R:=rfl
 rw [hopsD,hw0,hf]
 rw [hcore]
 show Kept C (if f.2=true then F8 { C with ops:=L++u'::R,slots:=(L++u'::R).map B6,access:=((L++u'::R).filter Bm).map (Bn C.words) } f.1 ((L++u'::R).getD (Je (L++u'::R) f.1).toNat B3).pc
  else { C with ops:=L++u'::R,slots:=(L++u'::R).map B6,access:=((L++u'::R).filter Bm).map (Bn C.words) }) L R u
 have hu2:u'={ u with state:=2,commit:=Ad C L u,next:=u'.next }:=by rw [hu'];rfl
 have hstop':Cz u'=false:=by rw [hu'];exact hstop
 have hn':u'.next=u.next:=by rw [hu'];rfl
 have hl':Eu u'=true→False:=fun hh=>by rw [hu',hlast] at hh;cases hh
 split
 ·rename_i hft
  obtain⟨v,hvR,hfv⟩:=F1 hft
  obtain⟨X,Y,hR⟩:=List.append_of_mem hvR
  have hsX:=hsq'
  rw [hR] at hsX
  have e1:L++u'::(X++v::Y)=(L++u'::X)++v::Y:=by simp
  rw [e1] at hsX
  have hlt:∀ x∈L++u'::X,x.seq<v.seq:=(Dz hsX).1
  have hgt:∀ x∈Y,v.seq<x.seq:=(Dz hsX).2
  obtain⟨s1,s2⟩:=see X (v::Y) hR (fun x hx _=>by rw [hfv];exact hlt x (by simp [hx]))
  have hpcv:((L++u'::R).getD (Je (L++u'::R) f.1).toNat B3).pc=v.pc:=by
   rw [hR,e1,hfv,Agc hsX]
  have hOv:=h.ops (L++u::X) v Y (by rw [d.ops,hR];simp)
  obtain⟨N0,hgN,_,hcN,_⟩:=h.names
  rw [d.ops,hR] at hcN
  have e2:L++u::(X++v::Y)=(L++u::X)++v::Y:=by simp
  rw [e2] at hcN
  obtain⟨K,_,hK,hNk,hc1,hK',hc2⟩:=Gc hcN hgN rfl
  have hc3:Bt K (v::Y) C.names:=⟨hNk,by rw [←hK'];exact hc2⟩
  have hpY:(v::Y).Pairwise (fun u v=>u.seq<v.seq):=(List.pairwise_append.1 hsX).2.1
  have hM:∀ N,Bt N (L++u::X++v::Y) C.names→Dp N→Bt N (L++u::X) K:=by
   intro N hN hg
   obtain⟨K2,hd1,hd2⟩:=Bt.append.1 hN
   rw [S8 hc3 hd2 hK (hd1.good hg) hpY]
   exact hd1
  rw [hpcv]
  have hb:=Acs (c:={ C with ops:=L++u'::R,slots:=(L++u'::R).map B6,access:=((L++u'::R).filter Bm).map (Bn C.words) }) (A:=L++u'::X) (B:=v::Y) (K:=K) (g:=Bn C.words) (s:=f.1) v.pc
   (by show L++u'::R=_;rw [hR,e1]) (by show(L++u'::R).map B6=_;rw [hR,e1]) hsX (fun x hx=>by rw [hfv];exact hlt x hx) (fun x hx=>by
    rw [hfv]
    rcases List.mem_cons.1 hx with rfl | hx
    ·omega
    ·have:=hgt x hx;omega) (Ez _) (by show((L++u'::R).filter Bm).map _=_;rw [hR,e1]) hc3 hK
  rw [hb]
  have hI:=h.done (X:=X) (Y:=v::Y) (by rw [d.ops,hR]) d.st hu2 C.words C.there hwl htl (fun p _ _=>⟨rfl,rfl⟩) hgot (fun _ hd=>by have:=d.store hst;omega) K hM s1 s2 v.pc (C.backs+1) false
   (by
    have:=hpch
    rw [hR,e1] at this
    exact this.cut.1)
   hOv.pc (by rw [hn'];exact d.ok.next) (fun _=>by rw [hn',hm2]) (fun hh=>by rw [hn'];exact d.ok.nextS d.cause hh) (fun hh=>(hl' hh).elim) (fun hh=>by cases hh)
  exact⟨hI,⟨u',X,v::Y,hR,rfl,by rw [hu'];rfl,i6⟩,rfl,rfl,rfl,⟨rfl,rfl,rfl⟩,rfl,rfl,⟨by show C.backs≤C.backs+1;omega,Int.le_refl _⟩,rfl⟩
 ·rename_i hft
  obtain⟨s1,s2⟩:=see R [] (by simp) (fun x _ hh=>absurd hh hft)
  have hI:=h.done (X:=R) (Y:=[]) (by rw [List.append_nil];exact d.ops) d.st hu2 C.words C.there hwl htl (fun p _ _=>⟨rfl,rfl⟩) hgot (fun _ hd=>by have:=d.store hst;omega) C.names (fun N hN _=>by rw [List.append_nil] at hN;exact hN) s1 s2 C.pc C.backs C.still
   hpch h.pc (by rw [hn'];exact d.ok.next) (fun _=>by rw [hn',hm2]) (fun hh=>by rw [hn'];exact d.ok.nextS d.cause hh) (fun hh=>(hl' hh).elim) (fun _ _ hh=>hh)
  exact⟨hI,⟨u',R,[],by simp,rfl,by rw [hu'];rfl,i6⟩,rfl,rfl,rfl,⟨rfl,rfl,rfl⟩,rfl,rfl,⟨Int.le_refl _,by show C.backs≤C.backs+1;omega⟩,rfl⟩
theorem N9 {C:Core} (h:Inv C) {L R:List Uop} {u:Uop} (ho:C.ops=L++u::R) (h1:u.state=1):Kept C (B9 C L.length) L R u:=by
 have d:=Ai1 h ho h1
 rw [M4 h ho h1]
 simp only
 have hgl:Ba u.ins=true∨Be u.ins=true→(Ad C L u).state=0→Oi C L u=false:=by
  intro hh h0
  have hsa:(Ba u.ins || Be u.ins)=true:=by rcases hh with e | e<;>simp [e]
  have hnl:¬ Bs u.ins=true:=by
   intro hl
   have:=D6.1 hl
   rcases hh with e | e
   ·have:=Fl.1 e;omega
   ·have:=K7.1 e;omega
  have hg:u.guessed=false:=by
   rcases e:u.guessed with _ | _
   ·rfl
   ·exact absurd (d.ok.gs e).2.2 hnl
  unfold Oi
  rw [hg,Vv hsa h0,d.ok.nextS d.cause hsa]
  simp
 split
 ·rename_i h0
  have hk:Bc (uD u (Ad C L u))=false:=by
   unfold Bc uD
   simp [h0]
  have hstop:Cz (uD u (Ad C L u))=true:=by
   unfold Cz uD
   simp [h0]
  exact Vk h d (u':=uD u (Ad C L u)) rfl hk u.pc true d.ok.pc (fun hh=>by rw [hstop] at hh;cases hh) d.ok.next (fun hh=>by rw [hstop] at hh;cases hh) (d.ok.nextS d.cause) (fun _=>rfl)
 ·rename_i h0
  have h0:(Ad C L u).state=0:=Decidable.not_not.1 h0
  rcases hm:Oi C L u with _ | _
  ·rcases hst:Ba u.ins with _ | _
   ·simp only [Bool.false_eq_true,if_false]
    exact Ae9 h d hst h0 hm
   ·simp only [Bool.false_eq_true,if_false,if_true]
    exact Ab6 h d hst h0 hm
  ·have hst:Ba u.ins=false:=by
    rcases e:Ba u.ins with _ | _
    ·rfl
    ·rw [hgl (Or.inl e) h0] at hm;cases hm
   have hal:Be u.ins=false:=by
    rcases e:Be u.ins with _ | _
    ·rfl
    ·rw [hgl (Or.inr e) h0] at hm;cases hm
   rw [hst]
   simp only [Bool.false_eq_true,if_false,if_true]
   obtain⟨u',hu'⟩:∃ u',u'=({ uD u (Ad C L u) with next:=(Ad C L u).next }:Uop):=⟨_,rfl⟩
   rw [←hu']
   have hk:Bc u'=false:=by rw [hu'];unfold Bc uD;simp [hst]
   have hstop:Cz u'=false:=by rw [hu'];unfold Cz uD;simp [d.cause,h0]
   have hlast:Eu u'=false:=by unfold Eu;rw [hstop,hu'];exact(by rw [show Be (uD u (Ad C L u)).ins=Be u.ins from rfl,hal];rfl)
   have hn:u'.next=(Ad C L u).next:=by rw [hu']
   have hkk:=Vk h d (u':=u') (by rw [hu'];rfl) hk (Ad C L u).next false d.nx (fun _=>hn) (by rw [hn];exact d.nx) (fun _=>hn) (fun hh=>by rw [hst,hal] at hh;cases hh) (fun hh=>by rw [hlast] at hh;cases hh)
   exact hkk
theorem Fe.cnt_of {cs:Array Value} (h:Fe cs) (pc:Int):(M2 cs pc).Wf∧Xv cs (Pq pc) (M2 cs pc):=by
 obtain⟨c,hw,hc⟩:=h.cnt (Pq pc) (Pr pc)
 have:M2 cs pc=c:=by
  unfold M2 Rv
  rw [hc.c0,hc.c1]
 rw [this]
 exact⟨hw,hc⟩
theorem Fe.vl_of {cs:Array Value} (h:Fe cs) (pc:Int):(Pf cs pc).Wf∧Wp cs (vlK pc) (Pf cs pc):=by
 obtain⟨v,hw,hv⟩:=h.vl (vlK pc) (Ml pc)
 have:Pf cs pc=v:=by
  unfold Pf Rv
  rw [hv.c0,hv.c1,hv.c2,hv.c3]
 rw [this]
 exact⟨hw,hv⟩
theorem Adk (m:List Int) (seq p:Int):Dj [] m seq p=m.getD p.toNat 0:=rfl
theorem Ow {b0 b1 b2 b3:Int} (h0:0≤b0∧b0≤255) (h1:0≤b1∧b1≤255) (h2:0≤b2∧b2≤255) (h3:0≤b3∧b3≤255):bytesOf (b0+256*b1+65536*b2+16777216*b3)=[b0,b1,b2,b3]:=by
 unfold bytesOf
 simp only [List.cons.injEq,and_true]
 omega
theorem Z2 {m:List Int} (hm:Bytes m) (seq:Int) {op p:Int} (ho:11≤op∧op≤15) (hp:0≤p) :
  Gu m p (B1 op)=(Cd m op p).2∧((Cd m op p).2=true→(Cd (bytesOf (Ee [] m seq p (B1 op)).1) op 0).1=(Cd m op p).1):=by
 have hs:=(J2 ho).2
 have e1:Gu m p (B1 op)=Bv m.length p (B1 op):=by
  unfold Gu
  have:(decide (B1 op=1) || decide (B1 op=2) || decide (B1 op=4))=true:=by simp;omega
  rw [this,Bool.true_and]
 have e2:(Cd m op p).2=Bv m.length p (B1 op):=by
  unfold Cd
  rw [decide_eq_true ho.1,decide_eq_true ho.2]
  simp only [Bool.true_and]
  split
  ·rename_i h;exact h.symm
  ·rename_i h;simp at h;exact h.symm
 refine⟨e1.trans e2.symm,fun hl=>?_⟩
 rw [e2] at hl
 have b0:=hm.getD p.toNat
 have b1:=hm.getD (p.toNat+1)
 have b2:=hm.getD (p.toNat+2)
 have b3:=hm.getD (p.toNat+3)
 have t1:(p+1).toNat=p.toNat+1:=by omega
 have t2:(p+2).toNat=p.toNat+2:=by omega
 have t3:(p+3).toNat=p.toNat+3:=by omega
 have hw:(Ee [] m seq p (B1 op)).1=O7 [] m seq p (B1 op):=by
  unfold Ee
  rw [e1,hl]
  rfl
 have hr:(Cd m op p).1=Ii m op p.toNat:=by
  unfold Cd
  rw [decide_eq_true ho.1,decide_eq_true ho.2]
  simp only [Bool.true_and]
  rw [hl]
  rfl
 have hq:∀ w,(Cd (bytesOf w) op 0).1=Ii (bytesOf w) op 0:=fun w=>by
  have:=Q7 ho w
  unfold Cd at this ⊢
  split at this
  ·rename_i h
   rw [if_pos h]
   rfl
  ·cases this
 rw [hw,hr,hq]
 have z0:=Ow b0 (b1:=0) (b2:=0) (b3:=0) (by omega) (by omega) (by omega)
 have z1:=Ow b0 b1 (b2:=0) (b3:=0) (by omega) (by omega)
 have z3:=Ow b0 b1 b2 b3
 unfold O7 Ii
 simp only [Adk,t1,t2,t3]
 generalize m.getD p.toNat 0=x0 at *
 generalize m.getD (p.toNat+1) 0=x1 at *
 generalize m.getD (p.toNat+2) 0=x2 at *
 generalize m.getD (p.toNat+3) 0=x3 at *
 obtain rfl | rfl | rfl | rfl | rfl:op=11∨op=12∨op=13∨op=14∨op=15:=by omega
 ·rw [if_pos (show B1 11=1 from rfl)]
  simp only [Int.mul_zero,Int.add_zero] at z0
  rw [z0]
  rfl
 ·rw [if_neg (show ¬ B1 12=1 by decide),if_pos (show B1 12=2 from rfl)]
  simp only [Int.mul_zero,Int.add_zero] at z1
  rw [z1]
  rfl
 ·rw [if_neg (show ¬ B1 13=1 by decide),if_neg (show ¬ B1 13=2 by decide),z3]
  rfl
 ·rw [if_pos (show B1 14=1 from rfl)]
  simp only [Int.mul_zero,Int.add_zero] at z0
  rw [z0]
  rfl
 ·rw [if_neg (show ¬ B1 15=1 by decide),if_pos (show B1 15=2 from rfl)]
  simp only [Int.mul_zero,Int.add_zero] at z1
  rw [z1]
  rfl
theorem Wj {m:List Int} (hm:Bytes m) (seq:Int) {pc:Int} (hp:0≤pc):Ds [] m seq pc=Da m pc:=by
 obtain⟨e1,e2⟩:=Z2 hm seq (op:=13) (p:=pc) (by omega) hp
 have e1:Gu m pc 4=(Cd m 13 pc).2:=e1
 unfold Ds
 rw [N2,e1]
 split
 ·rename_i hl
  have e2:=e2 hl
  have e2:(Cd (bytesOf (Ee [] m seq pc 4).1) 13 0).1=(Cd m 13 pc).1:=e2
  unfold Da
  rw [Q7 (by omega),if_pos rfl,if_pos hl,e2]
 ·rename_i hl
  unfold Da
  rw [if_neg hl]
theorem set_self (l:List Int) (k:Nat):l.set k (l.getD k 0)=l:=by
 by_cases h:k<l.length
 ·have:l.getD k 0=l[k]:=by simp [List.getD,List.getElem?_eq_getElem h]
  rw [this,List.set_getElem_self]
 ·rw [List.set_eq_of_length_le (by omega)]
theorem Agg {C:Core} (h:Inv C) {R:List Uop} {u:Uop} (ho:C.ops=u::R) (h2:u.state=2):u.commit=Kt C.hart C.mem∧u.pc=C.hart.pc:=by
 have hO:=h.ops [] u R ho
 obtain⟨N,hgN,_,hcN,hvN⟩:=h.names
 have hpc:=h.pcs
 rw [ho] at hcN hpc
 have hpc:u.pc=C.hart.pc:=hpc.1
 have hNk:NOk N u:=hcN.1
 have hf:=hO.fetch
 have hk:known []=[]:=rfl
 rw [hk,Wj h.bytes _ hO.pc.1,hpc] at hf
 refine⟨?_,hpc⟩
 unfold Kt
 rw [←hf]
 split
 ·rename_i hc
  have hc:u.cause=0:=hc
  have hi:=Iu (Inv.insOk hO hc)
  obtain⟨s1,s2⟩:=hNk.src hc
  have ha:C.word u.a=C.hart.regs.getD u.ins.rs1.toNat 0:=by rw [s1];exact(hvN _ (by omega)).2
  have hb:C.word u.b=C.hart.regs.getD u.ins.rs2.toNat 0:=by rw [s2];exact(hvN _ (by omega)).2
  have hst:C.hart.state=0:=h.runs
  have hca:C.hart.cause=0:=by
   have:=h.may
   unfold Ir at this
   simp at this
   omega
  have hregs:Eg C u=C.hart:=by
   unfold Eg
   rw [ha,set_self,hb,set_self,hpc]
   have:∀ H:Al,H.state=0→H.cause=0→(⟨H.regs,H.pc,0,0⟩:Al)=H:=fun H h1 h2=>by
    obtain⟨a,b,c,d⟩:=H
    simp only at h1 h2
    rw [h1,h2]
   exact this _ hst hca
  rw [hO.com hc h2]
  unfold Ad
  split
  ·rename_i hl
   have hlo:=D6.1 hl
   rw [J3 hl,(J2 hlo).1,ha]
   obtain⟨e1,e2⟩:=Z2 h.bytes u.seq hlo (Dc (C.hart.regs.getD u.ins.rs1.toNat 0+u.ins.imm)).1
   rw [e1]
   unfold Cl
   simp only
   rw [if_pos hlo]
   have hreg:C.hart.reg u.ins.rs1=C.hart.regs.getD u.ins.rs1.toNat 0:=rfl
   rw [hreg,hpc]
   split
   ·rename_i hok
    unfold Sm
    rw [hk,e2 hok]
   ·rfl
  ·rw [hregs]
 ·rename_i hc
  have hc:u.cause≠0:=hc
  rw [(hO.fault hc).2.1,hpc]
theorem Ahr {i:Ins} {h:Al} {m:List Int} (hs:(Cl i h m).state=0):(Cl i h m).rd=if Bf i=true then i.rd else 0:=by
 have g1:16≤i.op∧i.op≤18→Bf i=false:=fun h=>by unfold Bf;simp [h.1,h.2]
 have g2:46≤i.op→Bf i=false:=fun h=>by unfold Bf;simp;omega
 unfold Cl at hs ⊢
 dsimp only at hs ⊢
 by_cases c1:11≤i.op∧i.op≤15
 ·rw [if_pos c1] at hs ⊢
  by_cases c2:(Cd m i.op (u32 (h.reg i.rs1+i.imm))).2=true
  ·rw [if_pos c2]
  ·rw [if_neg c2] at hs;exact absurd hs (by show ¬ ((2:Int)=0);decide)
 rw [if_neg c1] at hs ⊢
 by_cases c3:16≤i.op∧i.op≤18
 ·rw [if_pos c3] at hs ⊢
  rw [g1 c3]
  split<;>rfl
 rw [if_neg c3] at hs ⊢
 by_cases c4:i.op=48
 ·rw [if_pos c4] at hs;exact absurd hs (by show ¬ ((2:Int)=0);decide)
 rw [if_neg c4] at hs ⊢
 by_cases c5:i.op=47
 ·rw [if_pos c5] at hs ⊢
  rw [if_neg (h:=instDecidableEqBool (Bf i) true) (by rw [g2 (by omega)];decide)]
  (repeat' split)<;>rfl
 rw [if_neg c5] at hs ⊢
 by_cases c6:i.op=46
 ·rw [if_pos c6] at hs ⊢
  rw [g2 (by omega)]
  rfl
 rw [if_neg c6]
theorem Ad1 {i:Ins} {h:Al} {m:List Int} (hi:Ba i=false):(Cl i h m).many=0:=by
 have c3:¬ (16≤i.op∧i.op≤18):=fun h=>by rw [Fl.2 h] at hi;cases hi
 unfold Cl
 dsimp only
 rw [if_neg c3]
 (repeat' split)<;>rfl
theorem Aa2 {i:Ins} {h h':Al} {m m':List Int} (hl:Bs i=false) (ha:Be i=false) (h1:h'.reg i.rs1=h.reg i.rs1) (h2:h'.reg i.rs2=h.reg i.rs2) (hp:h'.pc=h.pc) (hm:m'.length=m.length) :
  Cl i h' m'=Cl i h m:=by
 have c1:¬ (11≤i.op∧i.op≤15):=fun h=>by rw [D6.2 h] at hl;cases hl
 have c5:¬ i.op=47:=fun h=>by rw [K7.2 (Or.inl h)] at ha;cases ha
 have ht:∀ c,Aw h'.pc c=Aw h.pc c:=fun c=>by rw [hp]
 unfold Cl
 dsimp only
 rw [if_neg c1,if_neg c1,if_neg c5,if_neg c5,h1,h2,hp,hm]
def Afa (t:Array Value) (u:Uop):Array Value:=
 if u.ins.op=4∨(5≤u.ins.op∧u.ins.op≤10) then Gl t (M2 t u.pc) u.pc (decide (u.commit.next≠u32 (u.pc+4))) u.commit.next
 else if Bs u.ins=true then Em t (Pf t u.pc) u.pc u.commit.value
 else t
theorem Ny (c:Core) (u:Uop):Kx c u={ c with table:=Afa c.table u }:=by
 unfold Kx Afa
 split
 ·rfl
 ·split<;>rfl
theorem Ac3 {t:Array Value} (h:Fe t) {u:Uop} (hp:0≤u.pc∧u.pc≤4294967295) (hc:u.commit.Wf):Fe (Afa t u):=by
 unfold Afa
 split
 ·exact h.setCnt (Pr _) (Wd (h.cnt_of u.pc).1 _ hc.next.1 hc.next.2)
 ·split
  ·exact h.setVl (Ml _) (Nz (h.vl_of u.pc).1 hp.1 hp.2 hc.value.1 hc.value.2)
  ·exact h
theorem T8 {N:A1} (h:Dp N) {u:Uop} (hu:NOk N u) (hd:0<u.dest):(0≤u.old∧u.old<N.phys)∧u.old ∉ (Dm N u).all:=by
 obtain⟨_,⟨r1,r2⟩,hf,ho⟩:=hu.dst hd
 have hl:u.ins.rd.toNat<N.regs.length:=by rw [h.len];omega
 have hm:=h.may
 unfold A1.may A1.all at hm
 rw [hf] at hm
 obtain⟨m1,m2,m3⟩:=T5 hl hm
 rw [ho]
 refine⟨m2,?_⟩
 unfold Dm A1.all
 rw [if_pos hd]
 exact m3
theorem Ago {N:A1} {u:Uop} (hu:NOk N u):∀ p∈(Dm N u).all,p∈N.all:=by
 intro p hp
 unfold Dm at hp
 split at hp
 ·rename_i hd
  obtain⟨_,_,hf,_⟩:=hu.dst hd
  unfold A1.all at hp ⊢
  rcases List.mem_append.1 hp with hp | hp
  ·rcases List.mem_or_eq_of_mem_set hp with hp | rfl
   ·exact List.mem_append_left _ hp
   ·exact List.mem_append_right _ (by rw [hf];simp)
  ·exact List.mem_append_right _ (List.mem_of_mem_tail hp)
 ·exact hp
theorem Bt.sub {M:A1}:∀ {L:List Uop} {N:A1},Bt N L M→∀ p∈M.all,p∈N.all
 |[],_,h=>by cases h;exact fun p hp=>hp
 |_::_,_,⟨h,h1⟩=>fun p hp=>Ago h p (h1.sub p hp)
theorem T7 (N:A1) (u:Uop):(Dm N u).phys=N.phys:=by unfold Dm;split<;>rfl
def Mp (N:A1) (u:Uop):A1:=if 0<u.dest then addFree (Dm N u) u.old else N
theorem Aeb {N M:A1} {u:Uop} {R:List Uop} (h:Bt N (u::R) M) (hg:Dp N):(if 0<u.dest then (Le M u.old).getD A1.zero else M)=(if 0<u.dest then addFree M u.old else M):=by
 split
 ·rename_i hd
  obtain⟨hu,h1⟩:=h
  obtain⟨o1,o2⟩:=T8 hg hu hd
  have hM:=h1.good (hg.next hu)
  have hot:Gw M u.old=true:=by
   unfold Gw
   rw [hM.may]
   simp only [Bool.true_and,Bool.and_eq_true,decide_eq_true_eq,Bool.not_eq_true']
   have hph:M.phys=N.phys:=by rw [h1.phys,T7]
   exact⟨⟨o1.1,by rw [hph];exact o1.2⟩,decide_eq_false fun hin=>o2 (h1.sub _ hin)⟩
  unfold Le
  rw [if_pos hot]
  rfl
 ·rfl
theorem Aau {N M:A1} {u:Uop} {R:List Uop} (h:Bt N (u::R) M):Bt (Mp N u) R (if 0<u.dest then addFree M u.old else M):=by
 obtain⟨hu,h1⟩:=h
 unfold Mp
 split
 ·exact h1.addFree _
 ·rename_i hd
  unfold Dm at h1
  rw [if_neg hd] at h1
  exact h1
theorem Aef {N:A1} {u:Uop} (hg:Dp N) (hu:NOk N u):Dp (Mp N u):=by
 unfold Mp
 split
 ·rename_i hd
  obtain⟨o1,o2⟩:=T8 hg hu hd
  have hn:=hg.next hu
  refine⟨hn.len,?_,hn.zero⟩
  have:=hn.may
  unfold A1.may A1.all at this ⊢
  exact Agm this (by show 0≤u.old∧u.old<(Dm N u).phys;rw [T7];exact o1) o2
 ·exact hg
theorem Agb {N:A1} {u:Uop} (hu:NOk N u) (hl:N.all.length=N.phys.toNat):(Mp N u).all.length=(Mp N u).phys.toNat:=by
 unfold Mp
 split
 ·rename_i hd
  obtain⟨_,_,hf,_⟩:=hu.dst hd
  unfold addFree Dm A1.all
  rw [if_pos hd]
  show(_++(N.free.tail++[u.old])).length=N.phys.toNat
  rw [←hl]
  unfold A1.all
  rw [hf]
  simp
 ·exact hl
theorem Aeh {N:A1} (u:Uop) (hg:Dp N) (hu:NOk N u) (r:Nat):(Mp N u).regs.getD r 0=if 0<u.dest∧u.ins.rd.toNat=r then u.dest else N.regs.getD r 0:=by
 unfold Mp
 split
 ·rename_i hd
  obtain⟨_,⟨r1,r2⟩,hf,_⟩:=hu.dst hd
  unfold addFree Dm
  rw [if_pos hd]
  show(N.regs.set u.ins.rd.toNat u.dest).getD r 0=_
  rw [Fh]
  by_cases e:u.ins.rd.toNat=r
  ·rw [if_pos ⟨e,by rw [hg.len];omega⟩,if_pos ⟨hd,e⟩]
  ·rw [if_neg (fun h=>e h.1),if_neg (fun h=>e h.2)]
 ·rename_i hd
  rw [if_neg (fun h=>hd h.1)]
theorem Ep {C:Core} {R:List Uop} {u:Uop} (ho:C.ops=u::R) :
  Bq C={ C with
   ops:=R,hart:=Cq u.commit C.hart,mem:=Cs u.commit C.mem,commits:=C.commits++[u.commit],
   names:=if 0<u.dest then (Le C.names u.old).getD A1.zero else C.names,table:=Afa C.table u,
   access:=C.access.filter (fun a=>!decide (a.seq=u.seq)),still:=if Be u.ins=true then false else C.still }:=by
 have hop:C.op 0=u:=by unfold Core.op;rw [ho];rfl
 unfold Bq
 dsimp only
 rw [Ny,hop,ho]
 rfl
theorem Abf {u:Uop} (h:Bc u=true) (L:List Uop):known (u::L)=G7 u::known L:=by
 unfold known
 rw [List.filter_cons_of_pos h]
 rfl
theorem U8 {u:Uop} (h:Bc u=false) (L:List Uop):known (u::L)=known L:=by
 unfold known
 rw [List.filter_cons_of_neg (by rw [h];simp)]
theorem Adl {u:Uop} {L:List Uop} {m:List Int} {seq q:Int} (hp:(u::L).Pairwise (fun u v=>u.seq<v.seq)) (hs:u.seq<seq) (hc:u.commit.Wf) (hf:Bc u=true→u.commit.at_+u.commit.many≤m.length) (hl:m.length≤4096)
  (hno:Bc u=false→u.commit.many=0) (hq:0≤q):Dj (known L) (Cs u.commit m) seq q=Dj (known (u::L)) m seq q:=by
 rcases hk:Bc u with _ | _
 ·rw [U8 hk]
  have:Cs u.commit m=m:=by
   unfold Cs Qi
   rw [hno hk]
   rfl
  rw [this]
 ·have hp':=Abg hp
  rw [Abf hk] at hp' ⊢
  have h1:=hc.many
  have h2:=hc.at_
  exact Wu (a:=G7 u) hp' rfl rfl hs h1 h2.1 (hf hk) hl hq
structure Afo (C:Core) (u:Uop) (R:List Uop):Prop where
 com:u.commit=Kt C.hart C.mem
 pc:u.pc=C.hart.pc
 wf:u.commit.Wf
 fits:u.commit.Fits C.mem.length
 hart:Cq u.commit C.hart=goH C.hart C.mem
 mem:Cs u.commit C.mem=goM C.hart C.mem
theorem Abd {C:Core} (h:Inv C) {R:List Uop} {u:Uop} (ho:C.ops=u::R) (h2:u.state=2):Afo C u R:=by
 obtain⟨e1,e2⟩:=Agg h ho h2
 refine⟨e1,e2,?_,?_,?_,?_⟩
 ·rw [e1];exact Sj h.hart h.bytes
 ·rw [e1];exact Vo _ _
 ·rw [e1];rfl
 ·rw [e1];rfl
theorem Ai3 {l:List Int} {i:Int} {r:Nat} {x:Int} (hl:l.length=32) (h0:0≤i) (h1:i≤31):(l.set i.toNat x).getD r 0=if i.toNat=r then x else l.getD r 0:=by
 rw [Fh]
 by_cases e:i.toNat=r
 ·rw [if_pos ⟨e,by omega⟩,if_pos e]
 ·rw [if_neg (fun h=>e h.1),if_neg e]
theorem Y8 {C:Core} (h:Inv C) {R:List Uop} {u:Uop} (ho:C.ops=u::R) (h2:u.state=2) (h0:(goH C.hart C.mem).state=0) :
  Inv { Bq C with slots:=R.map B6 }:=by
 have H:=Abd h ho h2
 have hO:=h.ops [] u R ho
 obtain⟨N,hgN,hlN,hcN,hvN⟩:=h.names
 rw [ho] at hcN
 have hNk:NOk N u:=hcN.1
 have hst0:u.commit.state=0:=by
  have:=H.hart
  rw [←this] at h0
  exact h0
 have hc0:u.cause=0:=by
  rcases Decidable.em (u.cause=0) with hc | hc
  ·exact hc
  ·have:=(hO.fault hc).2.1
   rw [this] at hst0
   exact absurd hst0 (by show ¬ ((2:Int)=0);decide)
 have hi:=Iu (Inv.insOk hO hc0)
 have hstop:Cz u=false:=by
  unfold Cz
  rw [hc0,hst0]
  simp
 have hpcs:=h.pcs
 rw [ho] at hpcs
 obtain⟨hp1,hp2⟩:=hpcs
 rw [hstop] at hp2
 rw [if_neg (by simp)] at hp2
 have hseqs:=h.seqs
 rw [ho] at hseqs
 have hcw:=H.wf
 have hdoes:u.commit=Cl u.ins C.hart C.mem:=by
  have hf:=hO.fetch
  have hk:known []=[]:=rfl
  rw [hk,Wj h.bytes _ hO.pc.1,H.pc] at hf
  rw [H.com]
  unfold Kt
  rw [←hf]
  rw [if_pos (show(u.ins,u.cause).2=0 from hc0)]
 have hrd:u.commit.rd=if Bf u.ins=true then u.ins.rd else 0:=by
  rw [hdoes]
  rw [hdoes] at hst0
  exact Ahr hst0
 have hmany:Bc u=false→u.commit.many=0:=by
  intro hk
  rcases hs:Ba u.ins with _ | _
  ·rw [hdoes];exact Ad1 hs
  ·unfold Bc at hk
   rw [hs,decide_eq_true h2,decide_eq_true hst0] at hk
   cases hk
 have hfit:Bc u=true→u.commit.at_+u.commit.many≤C.mem.length:=by
  intro hk
  rcases H.fits with hf | hf
  ·exfalso
   unfold Bc at hk
   simp only [Bool.and_eq_true] at hk
   have hs:=hk.1.1
   have:=Na C.hart C.mem hs (by rw [←hdoes];exact hst0)
   rw [←hdoes] at this
   have e:=congrArg Com.many this.1
   have e:u.commit.many=Ej u.ins.op:=e
   rw [hf] at e
   unfold Ej at e
   split at e
   ·cases e
   ·split at e<;>cases e
  ·exact hf
 have hmlen:(Cs u.commit C.mem).length=C.mem.length:=I7 _ _
 rw [Ep ho,Aeb (N:=N) (R:=R) hcN hgN]
 have hreg:∀ r,r<32→(Cq u.commit C.hart).regs.getD r 0=if 0<u.dest∧u.ins.rd.toNat=r then u.commit.value else C.hart.regs.getD r 0:=by
  intro r hr
  unfold Cq
  dsimp only
  rw [hrd]
  by_cases hd:0<u.dest
  ·obtain⟨⟨g1,_⟩,⟨r1,r2⟩,_,_⟩:=hNk.dst hd
   rw [if_pos g1,if_pos (show 0<u.ins.rd by omega),Ai3 h.hart.len (by omega) r2]
   by_cases e:u.ins.rd.toNat=r
   ·rw [if_pos e,if_pos ⟨hd,e⟩]
   ·rw [if_neg e,if_neg (fun h=>e h.2)]
  ·have hg:Bf u.ins=false:=by
    rcases hg:Bf u.ins with _ | _
    ·rfl
    ·exact absurd ⟨hg,hc0⟩ (hNk.nodst (by omega)).2
   rw [hg,if_neg (h:=instDecidableEqBool false true) (by decide),if_neg (by omega),if_neg (fun h=>hd h.1)]
 refine⟨h.cfg,No hcw h.hart,Sz hcw h.may,?_,Pn h.bytes,?_,Ac3 h.tab hO.pc hcw,h.words,h.there,rfl,(List.pairwise_cons.1 hseqs).2,?_,?_,?_,?_,h.seq0,h.pc,?_⟩
 ·show(Cq u.commit C.hart).state=0
  rw [H.hart];exact h0
 ·show(Cs u.commit C.mem).length≤4096
  rw [hmlen];exact h.room
 ·
  show C.access.filter (fun a=>!decide (a.seq=u.seq))=(R.filter Bm).map (Bn C.words)
  rw [h.access,ho,List.filter_map,List.filter_filter]
  congr 1
  have e1:∀ v∈R,(((fun a:Acc=>!decide (a.seq=u.seq))∘Bn C.words) v&&Bm v)=Bm v:=fun v hv=>by
   have:=(List.pairwise_cons.1 hseqs).1 v hv
   simp only [Function.comp,Ez]
   rw [decide_eq_false (by omega)]
   simp
  rw [List.filter_cons_of_neg (by simp [Ez]),List.filter_congr e1]
 ·refine⟨Mp N u,Aef hgN hNk,Agb hNk hlN,Aau hcN,fun r hr=>?_⟩
  show C.has ((Mp N u).regs.getD r 0)=true∧C.word ((Mp N u).regs.getD r 0)=(Cq u.commit C.hart).regs.getD r 0
  rw [Aeh u hgN hNk,hreg r hr]
  by_cases e:0<u.dest∧u.ins.rd.toNat=r
  ·rw [if_pos e,if_pos e]
   exact hO.d2 e.1 h2
  ·rw [if_neg e,if_neg e]
   exact hvN r hr
 ·show Ei u.commit.next R C.pc
  rw [←hO.nx h2 hstop]
  exact hp2
 ·have:=h.len
  rw [ho] at this
  show R.length≤C.window
  simp at this
  omega
 ·intro L v R' e
  have e:R=L++v::R':=e
  have hOv:=h.ops (u::L) v R' (by rw [ho,e];rfl)
  have hlt:u.seq<v.seq:=(List.pairwise_cons.1 hseqs).1 v (by rw [e];simp)
  have hpL:(u::L).Pairwise (fun u v=>u.seq<v.seq):=by
   rw [e] at hseqs
   exact hseqs.sublist (List.Sublist.cons_cons u (List.sublist_append_left L (v::R')))
  have hbyte:∀ q,0≤q→Dj (known L) (Cs u.commit C.mem) v.seq q=Dj (known (u::L)) C.mem v.seq q:=fun q hq=>Adl hpL hlt hcw hfit h.room hmany hq
  have hsee:∀ p many,0≤p→(Ee (known L) (Cs u.commit C.mem) v.seq p many).1=(Ee (known (u::L)) C.mem v.seq p many).1∧(Ee (known L) (Cs u.commit C.mem) v.seq p many).2.1=(Ee (known (u::L)) C.mem v.seq p many).2.1:=
   fun p many hp=>O6 hmlen fun q h1 _ _ _=>hbyte q (by omega)
  refine hOv.congr hOv.seq.2 (fun e=>by cases e) (fun e=>e) (fun hl hs=>?_) ?_ (fun _ _=>⟨fun h=>h,fun h=>h⟩) (fun _=>⟨rfl,rfl⟩) (fun hcv h2v=>?_)
  ·show(if Be u.ins=true then false else C.still)=true
   rcases ha:Be u.ins with _ | _
   ·exact hs
   ·have:=(hO.last (by unfold Eu;rw [ha];rfl)).1
    rw [this] at e
    cases L<;>cases e
  ·show Ds (known L) (Cs u.commit C.mem) v.seq v.pc=_
   unfold Ds
   obtain⟨s1,s2⟩:=hsee v.pc 4 hOv.pc.1
   rw [s1,s2]
  ·have hlone:Be v.ins=false:=by
    rcases ha:Be v.ins with _ | _
    ·rfl
    ·have:=hOv.lone ha (by omega)
     cases this
   have hiv:=Iu (Inv.insOk hOv hcv)
   unfold Ad
   rcases hl:Bs v.ins with _ | _
   ·show Cl v.ins _ _=Cl v.ins _ _
    have hl32:(Cq u.commit C.hart).regs.length=32:=(No hcw h.hart).len
    have hset:∀ (l:List Int) (x y:Int) (i j r:Int),l.length=32→0≤i→i≤31→0≤j→j≤31→(r=i∨r=j)→((l.set i.toNat x).set j.toNat y).getD r.toNat 0=if r=j then y else x:=by
     intro l x y i j r hl hi0 hi1 hj0 hj1 hr
     rw [Fh,Fh]
     by_cases e:r=j
     ·rw [if_pos e,if_pos ⟨by rw [e],by simp;omega⟩]
     ·rcases hr with rfl | rfl
      ·rw [if_neg e,if_neg (fun h=>e (by omega)),if_pos ⟨rfl,by omega⟩]
      ·exact absurd rfl e
    refine Aa2 hl hlone ?_ ?_ rfl hmlen
    ·show(((Cq u.commit C.hart).regs.set v.ins.rs1.toNat (C.word v.a)).set v.ins.rs2.toNat (C.word v.b)).getD v.ins.rs1.toNat 0=((C.hart.regs.set v.ins.rs1.toNat (C.word v.a)).set v.ins.rs2.toNat (C.word v.b)).getD v.ins.rs1.toNat 0
     rw [hset _ _ _ _ _ _ hl32 (by omega) (by omega) (by omega) (by omega) (Or.inl rfl),hset _ _ _ _ _ _ h.hart.len (by omega) (by omega) (by omega) (by omega) (Or.inl rfl)]
    ·show(((Cq u.commit C.hart).regs.set v.ins.rs1.toNat (C.word v.a)).set v.ins.rs2.toNat (C.word v.b)).getD v.ins.rs2.toNat 0=((C.hart.regs.set v.ins.rs1.toNat (C.word v.a)).set v.ins.rs2.toNat (C.word v.b)).getD v.ins.rs2.toNat 0
     rw [hset _ _ _ _ _ _ hl32 (by omega) (by omega) (by omega) (by omega) (Or.inr rfl),hset _ _ _ _ _ _ h.hart.len (by omega) (by omega) (by omega) (by omega) (Or.inr rfl)]
   ·rw [if_pos rfl,if_pos rfl,J3 hl,J3 hl]
    obtain⟨s1,s2⟩:=hsee (u32 (C.word v.a+v.ins.imm)) (loadBytes v.ins.op) (Dc _).1
    rw [N2,N2] at s2
    show(if Gu (Cs u.commit C.mem) (u32 (C.word v.a+v.ins.imm)) (loadBytes v.ins.op)=true then Sm v.ins v.pc (Ee (known L) (Cs u.commit C.mem) v.seq (u32 (C.word v.a+v.ins.imm)) (loadBytes v.ins.op)).1 else _)=_
    rw [s1,s2]
theorem Su.congr2 {C C':Core} {L L' R R':List Uop} {v:Uop} (h:Su C L v R) (hq:v.seq<C'.seq)
  (hL:L=[]→L'=[]) (hst:Eu v=true→R'=[]∧C'.still=true)
  (hf:Ds (known L') C'.mem v.seq v.pc=Ds (known L) C.mem v.seq v.pc)
  (hs:v.cause=0→v.state≠0→(C.has v.a=true→C'.has v.a=true)∧(C.has v.b=true→C'.has v.b=true))
  (hd:0<v.dest→C'.has v.dest=C.has v.dest∧C'.word v.dest=C.word v.dest)
  (hx:v.cause=0→v.state=2→Ad C' L' v=Ad C L v):Su C' L' v R':=
 ⟨⟨h.seq.1,hq⟩,h.st,h.fault,h.cause,by rw [hf];exact h.fetch,h.pc,h.next,h.nextS,
  fun hc hn=>⟨(hs hc hn).1 (h.src hc hn).1,(hs hc hn).2 (h.src hc hn).2⟩,h.gs,
  fun h1 h2 h3=>h.d1 h1 h2 (by rw [←(hd h1).1];exact h3),fun h1 h2=>by rw [(hd h1).1,(hd h1).2];exact h.d2 h1 h2,
  fun h1 h2=>by rw [hx h1 h2];exact h.com h1 h2,h.nx,fun h1 h2=>hL (h.lone h1 h2),hst⟩
def Ud (C:Core) (u:Uop) (s:List Int) (pc:Int) (still:Bool):Core:=
 { C with
  slots:=(C.ops++[u]).map B6
  ops:=C.ops++[u]
  seq:=C.seq+1
  taken:=C.taken+1
  names:=Dm C.names u
  there:=if 0<u.dest then C.there.set u.dest.toNat false else C.there
  access:=((C.ops++[u]).filter Bm).map (Bn C.words)
  script:=s
  pc:=pc
  still:=still }
theorem Uo {α:Type} {A L R:List α} {u v:α} (h:A++[u]=L++v::R):(∃ R0,R=R0++[u]∧A=L++v::R0)∨(R=[]∧v=u∧L=A):=by
 rcases List.eq_nil_or_concat R with rfl | ⟨R0,w,rfl⟩
 ·right
  have:=List.append_inj' h rfl
  exact⟨rfl,by injection this.2 with h _;exact h.symm,this.1.symm⟩
 ·left
  refine⟨R0,?_⟩
  have e:L++v::(R0++[w])=(L++v::R0)++[w]:=by simp
  rw [List.concat_eq_append,e] at h
  have:=List.append_inj' h rfl
  have e2:u=w:=by injection this.2
  exact⟨by rw [e2,List.concat_eq_append],this.1⟩
theorem Inv.free {C:Core} (h:Inv C) (hs:C.still=false):∀ v∈C.ops,Eu v=false:=by
 intro v hv
 obtain⟨L,R,e⟩:=List.append_of_mem hv
 rcases hl:Eu v with _ | _
 ·rfl
 ·have:=((h.ops L v R e).last hl).2
  rw [hs] at this
  cases this
theorem Inv.pushed {C:Core} (h:Inv C) (hs:C.still=false) (hlen:C.ops.length<C.window) {u:Uop} (s:List Int) {pc:Int} (still:Bool) (hN:NOk C.names u) (hseq:u.seq=C.seq) (hpc:u.pc=C.pc)
  (hpcr:0≤pc∧pc≤4294967295) (hq:Cz u=false→u.next=pc) (hsrc:u.cause=0→(0≤u.ins.rs1∧u.ins.rs1≤31)∧0≤u.ins.rs2∧u.ins.rs2≤31) (hz:u.cause≠0→u.a=0∧u.b=0)
  (hu:Su (Ud C u s pc still) C.ops u []):Inv (Ud C u s pc still):=by
 obtain⟨N,hgN,hlN,hcN,hvN⟩:=h.names
 have hfree:=h.free hs
 have hc2:=hcN.snoc hN
 have hM:=hcN.good hgN
 have hdst:0<u.dest→u.dest∈C.names.free∧u.dest<96:=fun hd=>by
  have:u.dest∈C.names.free:=by rw [(hN.dst hd).2.2.1];simp
  exact⟨this,(hM.free_pos this).2⟩
 have hap:(C.ops++[u]).Pairwise Apart:=by
  refine hc2.apart hgN (fun v hv hcz=>?_) (fun v hv hcn=>?_)
  ·rcases List.mem_append.1 hv with hv | hv
   ·obtain⟨L,R,e⟩:=List.append_of_mem hv
    have:=Iu (Inv.insOk (h.ops L v R e) hcz)
    omega
   ·rw [List.mem_singleton.1 hv] at hcz ⊢
    exact hsrc hcz
  ·rcases List.mem_append.1 hv with hv | hv
   ·obtain⟨L,R,e⟩:=List.append_of_mem hv
    obtain⟨_,_,e1,e2,_⟩:=(h.ops L v R e).fault hcn
    exact⟨e1,e2⟩
   ·rw [List.mem_singleton.1 hv] at hcn ⊢
    exact hz hcn
 have hap:∀ v∈C.ops,Apart v u:=fun v hv=>(List.pairwise_append.1 hap).2.2 v hv u (by simp)
 have hhas:∀ p:Int,0≤p→(0<u.dest→p≠u.dest)→(Ud C u s pc still).has p=C.has p:=by
  intro p hp hne
  show(if 0<u.dest then C.there.set u.dest.toNat false else C.there).getD p.toNat false=C.there.getD p.toNat false
  split
  ·rename_i hd
   exact W5 false (by omega) hp (hne hd)
  ·rfl
 refine⟨h.cfg,h.hart,h.may,h.runs,h.bytes,h.room,h.tab,h.words,?_,rfl,?_,rfl,?_,?_,?_,?_,hpcr,?_⟩
 ·show(if 0<u.dest then C.there.set u.dest.toNat false else C.there).length=96
  split
  ·simp [h.there]
  ·exact h.there
 ·refine List.pairwise_append.2 ⟨h.seqs,by simp,fun v hv w hw=>?_⟩
  rw [List.mem_singleton.1 hw,hseq]
  obtain⟨L,R,e⟩:=List.append_of_mem hv
  exact(h.ops L v R e).seq.2
 ·refine⟨N,hgN,hlN,hc2,fun r hr=>?_⟩
  obtain⟨v1,v2⟩:=hvN r hr
  refine⟨?_,v2⟩
  rw [hhas _ (hgN.reg_range hr).1 (fun hd e=>hgN.disjoint (hgN.reg_mem hr) (e▸hcN.free_sub _ (hdst hd).1))]
  exact v1
 ·show Ei C.hart.pc (C.ops++[u]) pc
  refine Ei.snoc (by rw [hpc];exact h.pcs) (fun x hx=>?_) pc hq
  have:=hfree x hx
  unfold Eu at this
  rw [Bool.or_eq_false_iff] at this
  exact this.2
 ·show(C.ops++[u]).length≤C.window
  simp
  omega
 ·show 0≤C.seq+1
  have:=h.seq0
  omega
 ·intro L v R e
  have e:C.ops++[u]=L++v::R:=e
  rcases Uo e with⟨R0,rfl,e0⟩ | ⟨rfl,rfl,rfl⟩
  ·have hOv:=h.ops L v R0 e0
   have hv:v∈C.ops:=by rw [e0];simp
   obtain⟨q1,q2,q3,_⟩:=Kc (by rw [←e0];exact hcN) hgN hOv
   have ha:=hap v hv
   refine hOv.congr2 (by show v.seq<C.seq+1;have:=hOv.seq.2;omega) id (fun hl=>by rw [hfree v hv] at hl;cases hl) rfl (fun _ _=>⟨fun hh=>?_,fun hh=>?_⟩) (fun hd=>⟨?_,rfl⟩) (fun _ _=>?_)
   ·rw [hhas _ q1.1 ha.a];exact hh
   ·rw [hhas _ q2.1 ha.b];exact hh
   ·rw [hhas _ q3 ha.d]
   ·exact Jd rfl rfl rfl rfl rfl
  ·exact hu
theorem Inv.seen {C:Core} (h:Inv C):Jk C=Ds (known C.ops) C.mem C.seq C.pc:=by
 obtain⟨s1,s2⟩:=Uk (words:=C.words) (A:=C.ops) (B:=[]) (seq:=C.seq) C.mem C.pc 4 (fun v hv=>by cases hv)
 rw [List.append_nil,←h.access] at s1 s2
 unfold Jk Ds
 rw [s1,s2]
theorem Ks (K:List Acc) (m:List Int) (seq pc:Int):(Ds K m seq pc).2=0∧IsP (Ds K m seq pc).1=true∨((Ds K m seq pc).2=1∨(Ds K m seq pc).2=2)∧(Ds K m seq pc).1=Fs:=by
 unfold Ds
 split
 ·have hc:=Px (bytesOf (Ee K m seq pc 4).1) 0
  by_cases h0:(Da (bytesOf (Ee K m seq pc 4).1) 0).2=0
  ·exact Or.inl ⟨h0,(Q3 h0).1⟩
  ·right
   refine⟨by omega,?_⟩
   unfold Da at h0 ⊢
   split at h0
   ·rename_i hl
    rw [if_pos hl]
    cases hd:Ld (Cd (bytesOf (Ee K m seq pc 4).1) 13 0).1 with
    |none=>rfl
    |some i=>rw [hd] at h0;exact absurd rfl h0
   ·rename_i hl
    rw [if_neg hl]
 ·exact Or.inr ⟨Or.inl rfl,rfl⟩
theorem Inv.pushOk {C:Core} (h:Inv C):Jg C.slots C.window C.seq=if C.window≤C.ops.length then none else some (C.slots++[⟨C.seq,false⟩]):=by
 have hl:C.slots.length=C.ops.length:=by rw [h.slots];simp
 have ha:C.slots.any (fun s=>decide (C.seq≤s.seq))=false:=by
  rw [List.any_eq_false]
  intro s hs
  rw [h.slots] at hs
  obtain⟨v,hv,rfl⟩:=List.mem_map.1 hs
  obtain⟨L,R,e⟩:=List.append_of_mem hv
  have:=(h.ops L v R e).seq.2
  show ¬ decide (C.seq≤v.seq)=true
  simp
  omega
 unfold Jg
 rw [ha,hl]
 simp only [Bool.false_eq_true,or_false]
theorem Aea {C:Core} (h:Inv C) (i:Ins) (pc:Int):0≤(Di C i pc).1∧(Di C i pc).1≤4294967295:=by
 obtain⟨ht,_⟩:=h.tab.cnt_of pc
 unfold Di
 dsimp only
 split
 ·exact Dc _
 split
 ·dsimp only
  split
  ·exact Dc _
  ·exact⟨ht.t0,ht.t1⟩
 split
 ·dsimp only
  split
  ·exact Dc _
  ·exact Dc _
 ·exact Dc _
theorem Y6 {C:Core} {i:Ins} (hi:(Ba i || Be i)=true) (pc:Int):(Di C i pc).1=u32 (pc+4):=by
 have:(16≤i.op∧i.op≤18)∨i.op=47∨i.op=48:=by
  rw [Bool.or_eq_true] at hi
  rcases hi with hi | hi
  ·exact Or.inl (Fl.1 hi)
  ·exact Or.inr (K7.1 hi)
 unfold Di
 dsimp only
 rw [if_neg (by omega),if_neg (by omega),if_neg (by omega)]
def Xn (C:Core) (f:Ins×Int):Uop:={ B3 with seq:=C.seq,pc:=C.pc,cause:=f.2,ins:=f.1,state:=2,commit:=Aw C.pc f.2 }
def takeC (C:Core) (i:Ins):A1×Int×Int:=if Bf i=true then (Mr C.names i.rd).getD (A1.zero,0,0) else (C.names,0,0)
def Ht (C:Core) (i:Ins):Uop:=
 { B3 with seq:=C.seq,pc:=C.pc,ins:=i,a:=C.names.regs.getD i.rs1.toNat 0,b:=C.names.regs.getD i.rs2.toNat 0,dest:=(takeC C i).2.1,old:=(takeC C i).2.2,next:=(Di C i C.pc).1 }
theorem Ql {C:Core} (h:Inv C) {i:Ins} (hi:IsP i=true) (hf:C.names.free≠[]):NOk C.names (Ht C i)∧(takeC C i).1=Dm C.names (Ht C i)∧(0<(Ht C i).dest↔Bf i=true):=by
 obtain⟨N,hgN,_,hcN,_⟩:=h.names
 have hM:=hcN.good hgN
 have ho:=Iu hi
 rcases hg:Bf i with _ | _
 ·have e:takeC C i=(C.names,0,0):=by unfold takeC;rw [hg];rfl
  have ed:(Ht C i).dest=0:=by show(takeC C i).2.1=0;rw [e]
  refine⟨⟨fun _=>⟨rfl,rfl⟩,fun hd=>by rw [ed] at hd;omega,fun _=>⟨ed,fun hh=>?_⟩⟩,?_,⟨fun hd=>by rw [ed] at hd;omega,fun hh=>by cases hh⟩⟩
  ·have:Bf i=true:=hh.1
   rw [hg] at this
   cases this
  ·unfold Dm
   rw [ed,e]
   rfl
 ·cases hfr:C.names.free with
  |nil=>exact absurd hfr hf
  |cons p f=>
   have hrd:1≤i.rd∧i.rd≤31:=by
    have h1:=hg
    unfold Bf at h1
    simp only [Bool.and_eq_true,decide_eq_true_eq] at h1
    omega
   have e:takeC C i=(⟨C.names.phys,C.names.regs.set i.rd.toNat p,f⟩,p,C.names.regs.getD i.rd.toNat 0):=by
    unfold takeC Mr
    rw [if_pos hg,hfr]
    dsimp only
    rw [if_pos ⟨hM.may,hrd⟩]
    rfl
   have ed:(Ht C i).dest=p:=by show(takeC C i).2.1=p;rw [e]
   have eo:(Ht C i).old=C.names.regs.getD i.rd.toNat 0:=by show(takeC C i).2.2=_;rw [e]
   have hp:=hM.free_pos (p:=p) (by rw [hfr];simp)
   refine⟨⟨fun _=>⟨rfl,rfl⟩,fun _=>⟨⟨hg,rfl⟩,hrd,by rw [hfr,ed];rfl,eo⟩,fun hd=>by rw [ed] at hd;omega⟩,?_,⟨fun _=>rfl,fun _=>by rw [ed];exact hp.1⟩⟩
   unfold Dm
   rw [ed,if_pos hp.1,e,hfr]
   rfl
theorem Ah9 {u:Uop} (h:u.ins=Fs):Bm u=false:=by unfold Bm;rw [h];decide
theorem Nt {C:Core} (h:Inv C):(Bz C=(false,C)∧(C.still=true∨C.names.free=[]∨C.window≤C.ops.length)) ∨
  (C.still=false∧C.names.free≠[]∧C.ops.length<C.window ∧
   ((((Ds (known C.ops) C.mem C.seq C.pc).2=1∨(Ds (known C.ops) C.mem C.seq C.pc).2=2)∧(Ds (known C.ops) C.mem C.seq C.pc).1=Fs∧Bz C=(false,Ud C (Xn C (Ds (known C.ops) C.mem C.seq C.pc)) C.script C.pc true)) ∨
    ∃ i,Ds (known C.ops) C.mem C.seq C.pc=(i,0)∧IsP i=true∧Bz C=(!Be i,Ud C (Ht C i) (Di C i C.pc).2 (Di C i C.pc).1 (Be i)))):=by
 rcases Decidable.em (C.still=true∨C.names.free=[]) with hc | hc
 ·left
  refine⟨?_,by rcases hc with hc | hc;exact Or.inl hc;exact Or.inr (Or.inl hc)⟩
  unfold Bz
  rw [if_pos hc]
 have hs:C.still=false:=by
  rcases e:C.still with _ | _
  ·rfl
  ·exact absurd (Or.inl e) hc
 have hfr:C.names.free≠[]:=fun e=>hc (Or.inr e)
 by_cases hw:C.window≤C.ops.length
 ·left
  refine⟨?_,Or.inr (Or.inr hw)⟩
  unfold Bz
  rw [if_neg hc,h.pushOk,if_pos hw]
 right
 refine⟨hs,hfr,by omega,?_⟩
 have hex:Bz C=(let f:=Ds (known C.ops) C.mem C.seq C.pc
   let slots:=C.slots++[(⟨C.seq,false⟩:Slt)]
   let c1:={ C with slots:=slots,seq:=C.seq+1,taken:=C.taken+1 }
   if f.2≠0 then
    (false,Et { c1 with ops:=C.ops++[{ B3 with seq:=C.seq,pc:=C.pc,cause:=f.2,ins:=f.1,commit:=Aw C.pc f.2 }],still:=true } C.ops.length)
   else
    let i:=f.1
    let t:=takeC C i
    let u:={ B3 with seq:=C.seq,pc:=C.pc,ins:=i,a:=C.names.regs.getD i.rs1.toNat 0,b:=C.names.regs.getD i.rs2.toNat 0,dest:=t.2.1,old:=t.2.2 }
    let c2:={ c1 with
     names:=t.1
     there:=if Bf i=true then C.there.set t.2.1.toNat false else C.there
     access:=if (Bs i || Ba i)=true then C.access++[(⟨C.seq,Ba i,false,0,0,0,false⟩:Acc)] else C.access }
    let fo:=Di C i C.pc
    (!Be i,{ c2 with ops:=C.ops++[{ u with next:=fo.1 }],script:=fo.2,pc:=fo.1,still:=Be i })):=by
  rw [←h.seen]
  conv=>lhs;unfold Bz
  rw [if_neg hc,h.pushOk,if_neg hw]
  rfl
 rw [hex]
 dsimp only
 have hslots:∀ b,(C.ops.map B6)++[(⟨C.seq,b⟩:Slt)]=C.slots++[⟨C.seq,b⟩]:=fun b=>by rw [h.slots]
 rcases Ks (known C.ops) C.mem C.seq C.pc with⟨h0,his⟩ | ⟨h0,hin⟩
 ·right
  generalize hf:Ds (known C.ops) C.mem C.seq C.pc=f at h0 his ⊢
  obtain⟨i,c⟩:=f
  simp only at h0 his
  subst h0
  refine⟨i,rfl,his,?_⟩
  rw [if_neg (fun hh=>hh rfl)]
  obtain⟨t1,t2,t3⟩:=Ql h his hfr
  congr 1
  unfold Ud
  have e1:(C.ops++[Ht C i]).map B6=C.slots++[⟨C.seq,false⟩]:=by
   rw [List.map_append,h.slots]
   rfl
  have e2:(if 0<(Ht C i).dest then C.there.set (Ht C i).dest.toNat false else C.there)=(if Bf i=true then C.there.set (takeC C i).2.1.toNat false else C.there):=by
   by_cases hg:Bf i=true
   ·rw [if_pos hg,if_pos (t3.2 hg)]
    rfl
   ·rw [if_neg hg,if_neg (fun hd=>hg (t3.1 hd))]
  have e3:((C.ops++[Ht C i]).filter Bm).map (Bn C.words)=(if (Bs i || Ba i)=true then C.access++[(⟨C.seq,Ba i,false,0,0,0,false⟩:Acc)] else C.access):=by
   rw [List.filter_append,List.map_append,←h.access]
   by_cases hm:(Bs i || Ba i)=true
   ·have hm':Bm (Ht C i)=true:=hm
    rw [if_pos hm,List.filter_cons_of_pos hm']
    have hk:Bc (Ht C i)=false:=by unfold Bc;simp [Ht,B3]
    have:Bn C.words (Ht C i)=⟨C.seq,Ba i,false,0,0,0,false⟩:=by
     unfold Bn
     rw [hk,if_neg (h:=instDecidableEqBool false true) (by decide),if_neg (fun hh=>by have h2:(0:Int)=2:=hh.2.1;cases h2)]
     rfl
    rw [List.filter_nil,List.map_cons,List.map_nil,this]
   ·have hm':Bm (Ht C i)=false:=by
     rcases e:Bm (Ht C i) with _ | _
     ·rfl
     ·exact absurd e hm
    rw [if_neg hm,List.filter_cons_of_neg (by rw [hm'];simp)]
    simp
  rw [e1,e2,e3,←t2]
  rfl
 ·left
  refine⟨h0,hin,?_⟩
  rw [if_pos (by omega)]
  congr 1
  generalize hf:Ds (known C.ops) C.mem C.seq C.pc=f at h0 hin ⊢
  obtain⟨i,c⟩:=f
  simp only at h0 hin
  subst hin
  unfold Et
  have hop:Core.op { C with slots:=C.slots++[(⟨C.seq,false⟩:Slt)],seq:=C.seq+1,taken:=C.taken+1,ops:=C.ops++[{ B3 with seq:=C.seq,pc:=C.pc,cause:=c,ins:=Fs,commit:=Aw C.pc c }],still:=true } C.ops.length={ B3 with seq:=C.seq,pc:=C.pc,cause:=c,ins:=Fs,commit:=Aw C.pc c }:=Core.op_at (R:=[]) rfl
  dsimp only
  rw [hop]
  have hd:It (C.slots++[(⟨C.seq,false⟩:Slt)]) C.seq=some (C.slots++[⟨C.seq,true⟩]):=Tk (fun s hs=>by
   rw [h.slots] at hs
   obtain⟨v,hv,rfl⟩:=List.mem_map.1 hs
   obtain⟨L,R,e⟩:=List.append_of_mem hv
   have:=(h.ops L v R e).seq.2
   show v.seq≠C.seq
   omega)
  dsimp only
  rw [hd,Gi]
  unfold Ud
  have e1:(C.ops++[Xn C (Fs,c)]).map B6=C.slots++[⟨C.seq,true⟩]:=by
   rw [List.map_append,h.slots]
   rfl
  have e3:((C.ops++[Xn C (Fs,c)]).filter Bm).map (Bn C.words)=C.access:=by
   rw [List.filter_append,List.map_append,←h.access,List.filter_cons_of_neg (by rw [Ah9 (u:=Xn C (Fs,c)) rfl];simp)]
   simp
  rw [e1,e3]
  rfl
theorem Ad7 {C:Core} (h:Inv C):Inv (Bz C).2:=by
 rcases Nt h with⟨e,_⟩ | ⟨hs,hfr,hw,⟨h0,hin,e⟩ | ⟨i,hf,his,e⟩⟩
 ·rw [e];exact h
 ·rw [e]
  generalize hf:Ds (known C.ops) C.mem C.seq C.pc=f at h0 hin ⊢
  obtain⟨i,c⟩:=f
  simp only at h0 hin
  subst hin
  have hc0:c≠0:=by omega
  refine h.pushed hs hw C.script true ⟨fun hh=>absurd hh hc0,fun hd=>(by cases hd),fun _=>⟨rfl,fun hh=>absurd hh.2 hc0⟩⟩ rfl rfl h.pc (fun hst=>?_) (fun hh=>absurd hh hc0) (fun _=>⟨rfl,rfl⟩) ?_
  ·have:Cz (Xn C (Fs,c))=true:=by
    unfold Cz
    rw [decide_eq_true (show(Xn C (Fs,c)).cause≠0 from hc0)]
    rfl
   rw [this] at hst
   cases hst
  ·refine⟨⟨h.seq0,by show C.seq<C.seq+1;omega⟩,Or.inr (Or.inr rfl),fun _=>⟨rfl,rfl,rfl,rfl,rfl⟩,Or.inr h0,hf.symm,h.pc,by show(0:Int)≤0∧(0:Int)≤4294967295;omega,fun hh=>absurd hh hc0,fun hh=>absurd hh hc0,fun hh=>(by cases hh),fun hd=>(by cases hd),fun hd=>(by cases hd),fun hh=>absurd hh hc0,fun _ hst=>?_,fun ha=>?_,fun _=>⟨rfl,rfl⟩⟩
   ·have:Cz (Xn C (Fs,c))=true:=by
     unfold Cz
     rw [decide_eq_true (show(Xn C (Fs,c)).cause≠0 from hc0)]
     rfl
    rw [this] at hst
    cases hst
   ·exact absurd ha (by decide:¬ Be Fs=true)
 ·rw [e]
  obtain⟨t1,t2,t3⟩:=Ql h his hfr
  have ho:=Iu his
  have hb:=Aea h i C.pc
  refine h.pushed hs hw _ (Be i) t1 rfl rfl hb (fun _=>rfl) (fun _=>⟨by show 0≤i.rs1∧i.rs1≤31;omega,by show 0≤i.rs2∧i.rs2≤31;omega⟩) (fun hh=>absurd rfl hh) ?_
  refine⟨⟨h.seq0,by show C.seq<C.seq+1;omega⟩,Or.inl rfl,fun hh=>absurd rfl hh,Or.inl rfl,hf.symm,h.pc,hb,fun _ hh=>Y6 hh _,fun _ hh=>absurd rfl hh,fun hh=>(by cases hh),fun hd _ hh=>?_,fun _ hh=>?_,fun _ hh=>?_,fun hh=>?_,fun _ hh=>absurd rfl hh,fun hl=>⟨rfl,?_⟩⟩
  ·exfalso
   have hd':0<(Ht C i).dest:=hd
   have:(C.there.set (Ht C i).dest.toNat false).getD (Ht C i).dest.toNat false=true:=by
    have hh:(if 0<(Ht C i).dest then C.there.set (Ht C i).dest.toNat false else C.there).getD (Ht C i).dest.toNat false=true:=hh
    rw [if_pos hd'] at hh
    exact hh
   obtain⟨N,hgN,_,hcN,_⟩:=h.names
   have hM:=hcN.good hgN
   have hfr:(Ht C i).dest∈C.names.free:=by rw [(t1.dst hd').2.2.1];simp
   rw [Tw false (by omega) (by rw [h.there];exact(hM.free_pos hfr).2)] at this
   cases this
  ·have hh:(0:Int)=2:=hh
   cases hh
  ·have hh:(0:Int)=2:=hh
   cases hh
  ·have hh:(0:Int)=2:=hh
   cases hh
  ·show Be i=true
   have hl:(Be i || Cz (Ht C i))=true:=hl
   have hst:Cz (Ht C i)=false:=rfl
   rw [hst,Bool.or_false] at hl
   exact hl
end Go.Proofs.YtapgojgcmlnbgacGreat
