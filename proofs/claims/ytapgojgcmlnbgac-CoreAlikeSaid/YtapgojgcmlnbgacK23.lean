/- Parts of a proof. -/
import Derived.Test.YtapgojgcmlnbgacK22
set_option linter.unusedSimpArgs false
set_option linter.unusedVariables false
set_option maxRecDepth 100000
set_option maxHeartbeats 16000000
namespace Go.Proofs.Ytapgojgcmlnbgac
open Go
structure Kept (C C':Core) (L R:List Uop) (u:Uop):Prop where
 inv:Inv C'
 ops:∃ u' X Y,R=X++Y∧C'.ops=L++u'::X∧u'.state=2∧u'.seq=u.seq
 hart:C'.hart=C.hart
 mem:C'.mem=C.mem
 commits:C'.commits=C.commits
 cfg:C'.wide=C.wide∧C'.window=C.window∧C'.phys=C.phys
 cycles:C'.cycles=C.cycles
 taken:C'.taken=C.taken
 backs:C.backs≤C'.backs∧C'.backs≤C.backs+1
 seq:C'.seq=C.seq
theorem DoneAt.words {C:Core} {L R:List Uop} {u:Uop} (h:Inv C) (d:DoneAt C L R u):((wordsD C u (execP C L u).value).length=96∧∀ x∈wordsD C u (execP C L u).value,0≤x∧x≤4294967295)∧(thereD C u).length=96:=by
 unfold wordsD thereD
 split
 ·refine⟨⟨by simp [h.words.1],fun x hx=>?_⟩,by simp [h.there]⟩
  rcases List.mem_or_eq_of_mem_set hx with hx | rfl
  ·exact h.words.2 x hx
  ·exact d.val
 ·exact⟨h.words,h.there⟩
theorem DoneAt.got {C:Core} {L R:List Uop} {u:Uop} (h:Inv C) (d:DoneAt C L R u):0<u.dest→(thereD C u).getD u.dest.toNat false=true∧(wordsD C u (execP C L u).value).getD u.dest.toNat 0=(execP C L u).value:=by
 intro hd
 unfold wordsD thereD
 rw [if_pos hd,if_pos hd]
 exact⟨has_self true d.dest.1 (by rw [h.there];exact d.dest.2),word_self _ d.dest.1 (by rw [h.words.1];exact d.dest.2)⟩
theorem stop_one {u:Uop} (hc:u.cause=0) (h1:u.state=1):stopB u=false:=by unfold stopB;rw [hc,h1];rfl
theorem DoneAt.chain {C:Core} {L R:List Uop} {u:Uop} (h:Inv C) (d:DoneAt C L R u):PChain C.hart.pc L u.pc∧∀ x∈L,stopB x=false:=by
 have:=h.pcs
 rw [d.ops] at this
 exact this.cut
theorem back_kept {C:Core} (h:Inv C) {L R:List Uop} {u u':Uop} (d:DoneAt C L R u) (h2:u'={ u with state:=2,commit:=execP C L u,next:=u'.next }) (hk:stKnown u'=false) (pc:Int) (still:Bool) (hpcr:0≤pc∧pc≤4294967295)
  (hq:stopB u'=false→u'.next=pc) (hnr:0≤u'.next∧u'.next≤4294967295) (hnx:stopB u'=false→u'.next=(execP C L u).next) (hns:(storesB u.ins || aloneB u.ins)=true→u'.next=u32 (u.pc+4)) (hlast:lastB u'=true→still=true) :
  Kept C { backP (coreD C L R u (execP C L u) u' (entD C u (execP C L u))) (u.seq+1) pc with still:=still } L R u:=by
 obtain⟨M,hM,hb⟩:=d.back h h2 hk pc
 obtain⟨hw,ht⟩:=d.words h
 have e':∀ {α:Type} (f:Uop→α),f u'=f { u with state:=2,commit:=execP C L u,next:=u'.next }:=fun f=>congrArg f h2
 rw [hb]
 have hI:=h.done (X:=[]) (Y:=R) d.ops d.st h2 (wordsD C u (execP C L u).value) (thereD C u) hw ht (fun p hp hne=>d.same _ hp hne) (d.got h) (fun hx=>absurd rfl hx) M hM
  (fun X1 v X2 e=>absurd e.symm (by simp)) (fun X1 v X2 e=>absurd e.symm (by simp)) pc (C.backs+1) still
  (by
   obtain⟨p1,p2⟩:=d.chain h
   refine PChain.snoc ?_ p2 pc hq
   rw [show u'.pc=u.pc from e' Uop.pc]
   exact p1)
  hpcr hnr hnx hns (fun hl=>⟨rfl,hlast hl⟩) (fun _ hx=>absurd rfl hx)
 exact⟨hI,⟨u',[],R,rfl,rfl,e' Uop.state,e' Uop.seq⟩,rfl,rfl,rfl,⟨rfl,rfl,rfl⟩,rfl,rfl,⟨by show C.backs≤C.backs+1;omega,Int.le_refl _⟩,rfl⟩
theorem stay_kept {C:Core} (h:Inv C) {L R:List Uop} {u:Uop} (d:DoneAt C L R u) (hst:storesB u.ins=false) (h0:(execP C L u).state=0) (hmiss:missP C L u=false) :
  Kept C (coreD C L R u (execP C L u) (uD u (execP C L u)) (entD C u (execP C L u))) L R u:=by
 obtain⟨hw,ht⟩:=d.words h
 unfold missP at hmiss
 simp only [Bool.or_eq_false_iff,Bool.and_eq_false_iff,decide_eq_false_iff_not,Decidable.not_not] at hmiss
 obtain⟨m1,m2⟩:=hmiss
 have hk:stKnown (uD u (execP C L u))=false:=by unfold stKnown uD;simp only [hst];rfl
 have hk0:stKnown u=false:=by unfold stKnown;rw [hst];rfl
 have hsq:=h.seqs
 rw [d.ops] at hsq
 have hstop:stopB (uD u (execP C L u))=false:=by unfold stopB uD;simp only [d.cause,h0];rfl
 have hold:R≠[]→0<u.dest→C.has u.dest=true→C.word u.dest=(execP C L u).value:=by
  intro _ hd hh
  have hg:=d.ok.d1 hd (by rw [d.st];omega) hh
  rw [hg] at m1
  simpa using m1
 have hwX:∀ v∈R,accOf (wordsD C u (execP C L u).value) v=accOf C.words v:=by
  intro v hv
  by_cases hl:loadsB v.ins=true∧v.state=2∧v.commit.state=0
  ·obtain⟨X1,X2,e⟩:=List.append_of_mem hv
   have hOv:=h.ops (L++u::X1) v X2 (by rw [d.ops,e];simp)
   have hcv:v.cause=0:=by
    rcases Decidable.em (v.cause=0) with hc | hc
    ·exact hc
    ·obtain⟨_,e1,_⟩:=hOv.fault hc
     have:=hl.2.2
     rw [e1] at this
     cases this
   obtain⟨s1,_⟩:=hOv.src hcv (by omega)
   obtain⟨N,hgN,_,hcN,_⟩:=h.names
   have hr:=(uop_regs (by rw [d.ops,e] at hcN;rw [List.append_assoc];exact hcN) hgN hOv).1
   apply accOf_congr
   by_cases hpd:0<u.dest∧v.a=u.dest
   ·obtain⟨hd',e2⟩:=hpd
    rw [e2] at s1 ⊢
    rw [(d.got h hd').2]
    exact(hold (by rw [e];simp) hd' s1).symm
   ·exact(d.same _ hr.1 fun hd' hpe=>hpd ⟨hd',hpe⟩).1
  ·unfold accOf
   rw [if_neg hl,if_neg hl]
 have hlist:((L++uD u (execP C L u)::R).filter memB).map (gD C u (entD C u (execP C L u)))=((L++uD u (execP C L u)::R).filter memB).map (accOf (wordsD C u (execP C L u).value)):=by
  refine List.map_congr_left fun v hv=>?_
  rcases List.mem_append.1 (List.mem_filter.1 hv).1 with hv | hv
  ·unfold gD
   rw [if_neg ((seqs_ne hsq).1 v hv),d.acc_ahead _ v hv]
  ·rcases List.mem_cons.1 hv with rfl | hv
   ·rw [d.acc_self _ rfl hk]
    unfold gD
    rw [if_pos (show(uD u (execP C L u)).seq=u.seq from rfl)]
    show { entD C u (execP C L u) with seq:=u.seq }=_
    rw [←entD_seq C u (execP C L u)]
   ·unfold gD
    rw [if_neg ((seqs_ne hsq).2 v hv),hwX v hv]
 have hkn:∀ X1,known (L++uD u (execP C L u)::X1)=known (L++u::X1):=fun X1=>known_set hk0 hk
 have hI:=h.done (X:=R) (Y:=[]) (by rw [List.append_nil];exact d.ops) d.st (u':=uD u (execP C L u)) rfl (wordsD C u (execP C L u).value) (thereD C u) hw ht (fun p hp hne=>d.same _ hp hne) (d.got h) hold C.names
  (fun N hN _=>by rw [List.append_nil] at hN;exact hN) (fun X1 v X2 _=>by rw [hkn]) (fun X1 v X2 _ _ _=>by rw [hkn]) C.pc C.backs C.still
  (by
   have:=h.pcs
   rw [d.ops] at this
   exact PChain.put (u:=u) (u':=uD u (execP C L u)) rfl rfl (hstop.trans (stop_one d.cause d.st).symm) this)
  h.pc d.ok.next (fun _=>m2.symm) (d.ok.nextS d.cause)
  (fun hl=>by
   have:lastB u=true:=by
    unfold lastB at hl ⊢
    rw [hstop,Bool.or_false] at hl
    rw [show aloneB u.ins=true from hl]
    rfl
   exact d.ok.last this) (fun _ _ hh=>hh)
 have hcore:coreD C L R u (execP C L u) (uD u (execP C L u)) (entD C u (execP C L u))={ C with ops:=L++uD u (execP C L u)::R,slots:=(L++uD u (execP C L u)::R).map slotOf,access:=((L++uD u (execP C L u)::R).filter memB).map (accOf (wordsD C u (execP C L u).value)),names:=C.names,words:=wordsD C u (execP C L u).value,there:=thereD C u,pc:=C.pc,still:=C.still,backs:=C.backs }:=by
  unfold coreD
  rw [hlist]
 rw [hcore]
 exact⟨hI,⟨uD u (execP C L u),R,[],by simp,rfl,rfl,rfl⟩,rfl,rfl,rfl,⟨rfl,rfl,rfl⟩,rfl,rfl,⟨Int.le_refl _,by show C.backs≤C.backs+1;omega⟩,rfl⟩
end Go.Proofs.Ytapgojgcmlnbgac
