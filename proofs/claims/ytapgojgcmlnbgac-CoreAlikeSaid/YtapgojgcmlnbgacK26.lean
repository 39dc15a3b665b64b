/- Parts of a proof. -/
import Derived.Test.YtapgojgcmlnbgacK25
import Derived.Test.YtapgojgcmlnbgacK18
import Derived.Test.YtapgojgcmlnbgacK21
set_option linter.unusedSimpArgs false
set_option linter.unusedVariables false
set_option maxRecDepth 100000
set_option maxHeartbeats 16000000
namespace Go.Proofs.Ytapgojgcmlnbgac
open Go
structure Ran (k:Nat) (C C':Core):Prop where
 run:(runP k C.hart C.mem).2=(C'.hart,C'.mem)
 commits:C'.commits=C.commits++(runP k C.hart C.mem).1
 len:(runP k C.hart C.mem).1.length=k
 wide:C'.wide=C.wide
 cycles:C'.cycles=C.cycles
 taken:C'.taken=C.taken
 backs:C'.backs=C.backs
theorem Ran.refl (C:Core):Ran 0 C C:=⟨rfl,by simp [runP],rfl,rfl,rfl,rfl,rfl⟩
theorem Ran.trans {a b:Nat} {A B C:Core} (h:Ran a A B) (k:Ran b B C):Ran (a+b) A C:=by
 have e:=runP_add a b A.hart A.mem
 have h1:(runP a A.hart A.mem).2.1=B.hart:=by rw [h.run]
 have h2:(runP a A.hart A.mem).2.2=B.mem:=by rw [h.run]
 rw [h1,h2] at e
 refine⟨by rw [e];exact k.run,by rw [e,k.commits,h.commits,List.append_assoc],by rw [e,List.length_append,h.len,k.len],k.wide.trans h.wide,k.cycles.trans h.cycles,k.taken.trans h.taken,k.backs.trans h.backs⟩
theorem Ran.mid {k:Nat} {A B C:Core} (h:Ran k A B) (m:Mid B C):(runP k A.hart A.mem).2=(C.hart,C.mem)∧C.commits=A.commits++(runP k A.hart A.mem).1:=by
 rw [m.hart,m.mem,m.commits]
 exact⟨h.run,h.commits⟩
def own (C:Core):Core:={ C with slots:=C.ops.map slotOf }
theorem gone_ran {C:Core} (h:Inv (own C)) {u:Uop} {R:List Uop} (ho:C.ops=u::R) (h2:u.state=2):Ran 1 C (goneOne C)∧(goneOne C).ops=R∧(goneOne C).slots=C.slots:=by
 have H:HeadOk C u R:=by
  have H:=headOk h (R:=R) (u:=u) ho h2
  exact⟨H.com,H.pc,H.wf,H.fits,H.hart,H.mem⟩
 have hr:C.hart.state=0:=h.runs
 rw [goneOne_eq ho]
 refine⟨⟨?_,?_,?_,rfl,rfl,rfl,rfl⟩,rfl,rfl⟩
 ·rw [runP_step hr]
  show(goH C.hart C.mem,goM C.hart C.mem)=(applyH u.commit C.hart,applyM u.commit C.mem)
  rw [H.hart,H.mem]
 ·rw [runP_step hr,H.com]
  rfl
 ·rw [runP_step hr]
  rfl
theorem goneP_ran:∀ (n:Nat) (C:Core),Inv (own C)→StillOk C→(∃ L R,C.ops=L++R∧L.length=n∧∀ u∈L,u.state=2) →
  ∃ k,k≤n∧(0<n→0<k)∧Ran k C (goneP n C)∧(goneP n C).slots=C.slots∧((goneP n C).hart.state≠0∨(Inv (own (goneP n C))∧StillOk (goneP n C)∧(goneP n C).ops=C.ops.drop n))
 |0,C,h,hs,_=>⟨0,Nat.le_refl _,fun hh=>hh,Ran.refl C,rfl,Or.inr ⟨h,hs,rfl⟩⟩
 |n+1,C,h,hs,⟨[],R,ho,hl,hd⟩=>by cases hl
 |n+1,C,h,hs,⟨u::L,R,ho,hl,hd⟩=>by
  have h2:=hd u (by simp)
  obtain⟨hr,hops,hsl⟩:=gone_ran h (u:=u) (R:=L++R) ho h2
  have hO:=h.ops [] u (L++R) ho
  show ∃ k,k≤n+1∧(0<n+1→0<k)∧Ran k C (if (goneOne C).hart.state≠0 then goneOne C else goneP n (goneOne C))∧_∧_
  by_cases h0:(goneOne C).hart.state=0
  ·have e:goneP (n+1) C=goneP n (goneOne C):=by
    show(if (goneOne C).hart.state≠0 then goneOne C else goneP n (goneOne C))=_
    rw [if_neg (fun hh=>hh h0)]
   rw [e,if_neg (fun hh=>hh h0)]
   have hgo:(goneOne C).hart=goH C.hart C.mem:=by
    have:=hr.run
    rw [runP_step (show C.hart.state=0 from h.runs)] at this
    have:=congrArg Prod.fst this
    exact this.symm
   have hi1:Inv (own (goneOne C)):=by
    have:=gone_inv h (u:=u) (R:=L++R) ho h2 (by show(goH C.hart C.mem).state=0;rw [←hgo];exact h0)
    rw [goneOne_eq (C:=own C) (u:=u) (R:=L++R) ho] at this
    rw [goneOne_eq ho]
    exact this
   have hstop:stopB u=false:=by
    have hcs:u.commit.state=0:=by
     have:(goneOne C).hart=applyH u.commit C.hart:=by rw [goneOne_eq ho]
     rw [this] at h0
     exact h0
    unfold stopB
    rw [hcs]
    rcases Decidable.em (u.cause=0) with hc | hc
    ·rw [hc];simp
    ·have:=(hO.fault hc).2.1
     rw [this] at hcs
     cases hcs
   have hs1:=gone_still hs ho hstop
   obtain⟨k,k1,k2,k3,k4,k5⟩:=goneP_ran n (goneOne C) hi1 hs1 ⟨L,R,hops,by simpa using hl,fun v hv=>hd v (by simp [hv])⟩
   refine⟨1+k,by omega,fun _=>by omega,hr.trans k3,k4.trans hsl,?_⟩
   rcases k5 with k5 | ⟨k5,k6,k7⟩
   ·exact Or.inl k5
   ·refine Or.inr ⟨k5,k6,?_⟩
    rw [k7,hops,ho]
    rfl
  ·have e:goneP (n+1) C=goneOne C:=by
    show(if (goneOne C).hart.state≠0 then goneOne C else goneP n (goneOne C))=_
    rw [if_pos h0]
   rw [e,if_pos h0]
   exact⟨1,by omega,fun _=>by omega,hr,hsl,Or.inl h0⟩
theorem popK_done:∀ (ops:List Uop) (most:Int),∃ L R,ops=L++R∧L.length=popK (ops.map slotOf) most∧∀ u∈L,u.state=2
 |[],_=>⟨[],[],rfl,rfl,fun u hu=>by cases hu⟩
 |u::ops,most=>by
  show ∃ L R,u::ops=L++R∧L.length=(if 0<most∧(slotOf u).done=true then 1+popK (ops.map slotOf) (most - 1) else 0)∧_
  split
  ·rename_i hc
   obtain⟨L,R,e,hl,hd⟩:=popK_done ops (most - 1)
   refine⟨u::L,R,by rw [e];rfl,by simp [hl];omega,fun v hv=>?_⟩
   rcases List.mem_cons.1 hv with rfl | hv
   ·exact of_decide_eq_true hc.2
   ·exact hd v hv
  ·exact⟨[],u::ops,rfl,rfl,fun u hu=>by cases hu⟩
theorem commit_ran {C:Core} (h:Good C):∃ k:Nat,(k:Int)≤C.wide∧Ran k C (commitP C)∧((commitP C).hart.state≠0∨Good (commitP C)) ∧
  (k=0→(commitP C).ops=C.ops∧∀ u R,C.ops=u::R→u.state≠2)∧(∀ u∈(commitP C).ops,(commitP C).hart.state=0→u∈C.ops):=by
 have hK:popK C.slots C.wide=popK (C.ops.map slotOf) C.wide:=by rw [h.inv.slots]
 have hown:own { C with slots:=C.slots.drop (popK C.slots C.wide) }=C:=by
  unfold own
  show { C with slots:=C.ops.map slotOf }=C
  rw [←h.inv.slots]
 obtain⟨k,k1,k2,k3,k4,k5⟩:=goneP_ran (popK C.slots C.wide) { C with slots:=C.slots.drop (popK C.slots C.wide) } (by rw [hown];exact h.inv) h.still (by rw [hK];exact popK_done C.ops C.wide)
 have hw:=h.inv.cfg.2
 have hm:=popK_most C.slots C.wide (by omega)
 refine⟨k,by omega,⟨k3.run,k3.commits,k3.len,k3.wide,k3.cycles,k3.taken,k3.backs⟩,?_,fun h0=>?_,fun u hu h0=>?_⟩
 ·rcases k5 with k5 | ⟨k5,k6,k7⟩
  ·exact Or.inl k5
  ·right
   have e:own (commitP C)=commitP C:=by
    have hs:(commitP C).slots=C.slots.drop (popK C.slots C.wide):=k4
    have ho:(commitP C).ops=C.ops.drop (popK C.slots C.wide):=k7
    unfold own
    have:(commitP C).ops.map slotOf=(commitP C).slots:=by rw [hs,ho,List.map_drop,←h.inv.slots]
    rw [this]
   refine⟨?_,k6⟩
   rw [←e]
   exact k5
 ·have hz:popK C.slots C.wide=0:=by
   rcases Nat.eq_zero_or_pos (popK C.slots C.wide) with e | e
   ·exact e
   ·have:=k2 e;omega
  refine⟨?_,fun u R ho h2=>?_⟩
  ·unfold commitP
   rw [hz]
   rfl
  ·rw [hK,ho] at hz
   have:(if 0<C.wide∧(slotOf u).done=true then 1+popK (R.map slotOf) (C.wide - 1) else 0)=0:=hz
   rw [if_pos ⟨by omega,decide_eq_true h2⟩] at this
   omega
 ·rcases k5 with k5 | ⟨_,_,k7⟩
  ·exact absurd h0 k5
  ·have ho:(commitP C).ops=C.ops.drop (popK C.slots C.wide):=k7
   rw [ho] at hu
   exact List.mem_of_mem_drop hu
def DueH (T D:Int):List Uop→Prop
 |[]=>T+11≤D
 |u::_=>(u.state=2∧T≤D)∨(u.state=1∧T+1≤D∧u.ready+1≤D)∨(u.state=0∧T+10≤D)
theorem due_soon {T:Int} {C:Core} (h:Inv C) (hs:Soon (T+9) C):DueH (T+1) (T+12) C.ops:=by
 cases ho:C.ops with
 |nil=>show T+1+11≤T+12;omega
 |cons u R=>
  rcases(h.ops [] u R ho).st with e | e | e
  ·exact Or.inr (Or.inr ⟨e,by omega⟩)
  ·refine Or.inr (Or.inl ⟨e,by omega,?_⟩)
   have:=hs u (by rw [ho];simp) e
   omega
  ·exact Or.inl ⟨e,by omega⟩
structure Between (C:Core) (D:Int):Prop where
 good:Good C
 soon:Soon (C.cycles+8) C
 due:DueH C.cycles D C.ops
theorem due_now {T D:Int} {l:List Uop} (h:DueH T D l):T≤D:=by
 cases l with
 |nil=>have h:T+11≤D:=h;omega
 |cons u R=>
  have h:(u.state=2∧T≤D)∨(u.state=1∧T+1≤D∧u.ready+1≤D)∨(u.state=0∧T+10≤D):=h
  omega
theorem pos_succ {n:Nat} (h:0<n):∃ m,n=m+1:=⟨n - 1,by omega⟩
structure Cycled (C C':Core) (k:Nat):Prop where
 run:(runP k C.hart C.mem).2=(C'.hart,C'.mem)
 commits:C'.commits=C.commits++(runP k C.hart C.mem).1
 len:(runP k C.hart C.mem).1.length=k
 few:(k:Int)≤C.wide
 wide:C'.wide=C.wide
 cycles:C'.cycles=C.cycles+1
 taken:C.taken≤C'.taken
 backs:C.backs≤C'.backs
theorem tick_good {C:Core} (h:Good C):Good { C with cycles:=C.cycles+1 }:=by
 obtain⟨h,hs⟩:=h
 refine⟨⟨h.cfg,h.hart,h.may,h.runs,h.bytes,h.room,h.tab,h.words,h.there,h.slots,h.seqs,h.access,h.names,h.pcs,h.len,h.seq0,h.pc,fun L v R e=>?_⟩,hs⟩
 have:=h.ops L v R e
 exact⟨this.seq,this.st,this.fault,this.cause,this.fetch,this.pc,this.next,this.nextS,this.src,this.gs,this.d1,this.d2,this.com,this.nx,this.lone,this.last⟩
theorem cycle_does {C:Core} {D:Int} (h:Between C D):∃ k,Cycled C (cycleP C) k∧((0<k∧(cycleP C).hart.state≠0)∨(0<k∧Between (cycleP C) (C.cycles+12))∨(k=0∧Between (cycleP C) D)):=by
 obtain⟨k,kw,kr,kg,k0,kin⟩:=commit_ran (tick_good h.good)
 have e:cycleP C=(let c1:=commitP { C with cycles:=C.cycles+1 }
   if c1.hart.state≠0 then c1
   else
    let c2:=finishAll c1.ops.length 0 C.cycles c1
    let c3:=beginAll c2.ops.length 0 0 C.cycles c2
    fetchAll c3.wide.toNat c3):=rfl
 rw [e]
 dsimp only
 generalize hc1:commitP { C with cycles:=C.cycles+1 }=c1 at kr kg k0 kin ⊢
 have hcyc1:c1.cycles=C.cycles+1:=kr.cycles
 by_cases h0:c1.hart.state=0
 ·rw [if_neg (fun hh=>hh h0)]
  have g1:Good c1:=by
   rcases kg with kg | kg
   ·exact absurd h0 kg
   ·exact kg
  have hs1:Soon (C.cycles+8) c1:=fun u hu h1=>h.soon u (kin u hu h0) h1
  have P2:=finish_part C.cycles (C.cycles+8) c1.ops.length c1 [] c1.ops g1 rfl
  have P2:Part c1 (finishAll c1.ops.length 0 C.cycles c1) (C.cycles+8) []:=P2
  generalize hc2:finishAll c1.ops.length 0 C.cycles c1=c2 at P2 ⊢
  have P3:=begin_part C.cycles c2.ops.length 0 c2 [] c2.ops P2.good rfl
  have P3:Part c2 (beginAll c2.ops.length 0 0 C.cycles c2) (C.cycles+9) []:=P3
  generalize hc3:beginAll c2.ops.length 0 0 C.cycles c2=c3 at P3 ⊢
  have P4:=fetchAll_part (C.cycles+9) c3.wide.toNat c3 P3.good
  have hs2:=P2.soon hs1
  have hs4:=P4.soon (P3.soon fun u hu h1=>by have:=hs2 u hu h1;omega)
  have hm:=P2.mid.trans (P3.mid.trans P4.mid)
  obtain⟨r1,r2⟩:=kr.mid hm
  have hcyc:(fetchAll c3.wide.toNat c3).cycles=C.cycles+1:=by rw [hm.cycles,hcyc1]
  have hCy:Cycled C (fetchAll c3.wide.toNat c3) k:=⟨r1,r2,kr.len,kw,by rw [hm.wide];exact kr.wide,hcyc,by have:=hm.taken;rw [kr.taken] at this;exact this,by have:=hm.backs;rw [kr.backs] at this;exact this⟩
  refine⟨k,hCy,Or.inr ?_⟩
  have hs5:Soon ((fetchAll c3.wide.toNat c3).cycles+8) (fetchAll c3.wide.toNat c3):=by rw [hcyc];intro u hu h1;have:=hs4 u hu h1;omega
  rcases Nat.eq_zero_or_pos k with hk | hk
  ·right
   refine⟨hk,P4.good,hs5,?_⟩
   rw [hcyc]
   obtain⟨q1,q2⟩:=k0 hk
   have q1:c1.ops=C.ops:=q1
   have hdue:=h.due
   obtain⟨R4,e4⟩:=P4.ops
   cases ho:C.ops with
   |nil=>
    rw [ho] at hdue q1
    have hdue:C.cycles+11≤D:=hdue
    have e2:c2=c1:=by rw [←hc2];exact finish_none _ _ _ q1
    have e3:c3=c2:=by rw [←hc3];exact begin_none _ _ _ _ (by rw [e2];exact q1)
    have ho3:c3.ops=[]:=by rw [e3,e2];exact q1
    have hw3:=P3.good.inv.cfg.2
    obtain⟨n,hn⟩:=pos_succ (n:=c3.wide.toNat) (by omega)
    obtain⟨u,R,eu,hst⟩:=fetchAll_first n P3.good ho3
    rw [hn,eu]
    rcases hst with hst | hst
    ·exact Or.inr (Or.inr ⟨hst,by omega⟩)
    ·exact Or.inl ⟨hst,by omega⟩
   |cons u R=>
    rw [ho] at hdue q1
    have hdue:(u.state=2∧C.cycles≤D)∨(u.state=1∧C.cycles+1≤D∧u.ready+1≤D)∨(u.state=0∧C.cycles+10≤D):=hdue
    have hn2:=q2 u R ho
    have hst:=(h.good.inv.ops [] u R ho).st
    obtain⟨n1,hn1⟩:=pos_succ (n:=c1.ops.length) (by rw [q1];simp)
    obtain⟨u2,R2,e2,s2⟩:=finish_head C.cycles 0 n1 g1 q1
    rw [←hn1,hc2] at e2
    obtain⟨n3,hn3⟩:=pos_succ (n:=c2.ops.length) (by rw [e2];simp)
    obtain⟨u3,R3,e3,s3⟩:=begin_head_part C.cycles n3 P2.good e2
    rw [←hn3,hc3] at e3
    rw [e4,e3]
    show(u3.state=2∧_)∨(u3.state=1∧_∧_)∨(u3.state=0∧_)
    rcases s2 with s2 | ⟨rfl,s2⟩
    ·rw [if_neg (by omega)] at s3
     subst s3
     exact Or.inl ⟨s2,by omega⟩
    ·rcases hst with hst | hst | hst
     ·rw [if_pos hst] at s3
      exact Or.inr (Or.inl ⟨s3.1,by omega,by omega⟩)
     ·rw [if_neg (by omega)] at s3
      subst s3
      refine Or.inr (Or.inl ⟨hst,?_,by omega⟩)
      have:¬ (u3.ready≤C.cycles):=fun hh=>s2 ⟨hst,hh⟩
      omega
     ·exact absurd hst hn2
  ·left
   refine⟨hk,P4.good,hs5,?_⟩
   rw [hcyc]
   exact due_soon P4.good.inv hs4
 ·rw [if_pos h0]
  have hk:0<k:=by
   rcases Nat.eq_zero_or_pos k with hk | hk
   ·exfalso
    have:=kr.run
    rw [hk] at this
    have:C.hart=c1.hart:=congrArg Prod.fst this
    rw [←this] at h0
    exact h0 h.good.inv.runs
   ·exact hk
  exact⟨k,⟨kr.run,kr.commits,kr.len,kw,kr.wide,hcyc1,by rw [kr.taken];exact Int.le_refl _,by rw [kr.backs];exact Int.le_refl _⟩,Or.inl ⟨hk,h0⟩⟩
theorem tab0_cnt:∀ k,k<16→tab0[k*2]? = some (.int .i64 0)∧tab0[k*2+1]? = some (.int .u32 0)
 |0,_ | 1,_ | 2,_ | 3,_ | 4,_ | 5,_ | 6,_ | 7,_ | 8,_ | 9,_ | 10,_ | 11,_ | 12,_ | 13,_ | 14,_ | 15,_=>⟨rfl,rfl⟩
 |n+16,h=>by omega
theorem tab0_vl:∀ k,k<8→tab0[32+k*4]? = some (.int .u32 0)∧tab0[32+k*4+1]? = some (.int .u32 0)∧tab0[32+k*4+2]? = some (.int .u32 0)∧tab0[32+k*4+3]? = some (.int .i64 0)
 |0,_ | 1,_ | 2,_ | 3,_ | 4,_ | 5,_ | 6,_ | 7,_=>⟨rfl,rfl,rfl,rfl⟩
 |n+8,h=>by omega
theorem tab0_ok:TabOk tab0:=by
 refine⟨rfl,fun k hk=>⟨⟨0,0⟩,?_,?_⟩,fun k hk=>⟨⟨0,0,0,0⟩,?_,?_⟩⟩
 ·constructor<;>decide
 ·obtain⟨h1,h2⟩:=tab0_cnt k hk
  exact⟨h1,h2⟩
 ·constructor<;>decide
 ·obtain⟨h1,h2,h3,h4⟩:=tab0_vl k hk
  exact⟨h1,h2,h3,h4⟩
theorem regs0_get (r:Nat) (hr:r<32):regs0.getD r 0=(r:Int):=by
 unfold regs0
 simp [List.getD,List.getElem?_range hr]
theorem there0_get (r:Nat) (hr:r<32):(List.replicate 32 true++List.replicate 64 false).getD r false=true:=by
 simp only [List.getD]
 rw [List.getElem?_append_left (by rw [List.length_replicate];exact hr),List.getElem?_replicate,if_pos hr]
 rfl
theorem newN (phys:Int) (h1:33≤phys) (h2:phys≤96):NGood ((newP phys).getD RMap.zero)∧((newP phys).getD RMap.zero).all.length=((newP phys).getD RMap.zero).phys.toNat∧((newP phys).getD RMap.zero).regs=regs0:=by
 have e:(newP phys).getD RMap.zero=⟨phys,regs0,free0 (phys - 32).toNat⟩:=by
  unfold newP
  rw [if_pos ⟨h1,h2⟩]
  rfl
 rw [e]
 have hm:=may_new (phys - 32).toNat (by omega) (by omega)
 refine⟨⟨by simp [regs0],?_,rfl⟩,?_,rfl⟩
 ·unfold RMap.may RMap.all
  rw [show((32+(phys - 32).toNat:Nat):Int)=phys by omega] at hm
  exact hm
 ·show(regs0++free0 (phys - 32).toNat).length=phys.toNat
  rw [new_eq]
  simp
  omega
structure Asked (window phys wide:Int) (h:Hart) (m:List Int):Prop where
 window:1≤window∧window≤32
 phys:33≤phys∧phys≤96
 wide:1≤wide∧wide≤4
 hart:h.Wf
 may:mayH h=true
 bytes:Bytes m
 room:m.length≤4096
theorem core0_between {window phys wide:Int} {h:Hart} {m:List Int} (a:Asked window phys wide h m) (hs:h.state=0) (script:List Int):Between (core0 window phys wide h m script) 11:=by
 obtain⟨n1,n2,n3⟩:=newN phys a.phys.1 a.phys.2
 refine⟨⟨⟨⟨a.window,a.wide.1,a.wide.2⟩,a.hart,a.may,hs,a.bytes,a.room,tab0_ok,⟨?_,fun x hx=>?_⟩,?_,rfl,List.Pairwise.nil,rfl,⟨_,n1,n2,rfl,fun r hr=>?_⟩,rfl,?_,Int.le_refl _,⟨a.hart.pc0,a.hart.pc1⟩,fun L v R e=>?_⟩,fun hh=>by cases hh⟩,fun u hu=>(by cases hu),by show(0:Int)+11≤11;omega⟩
 ·show(h.regs++List.replicate 64 0).length=96
  rw [List.length_append,a.hart.len]
  simp
 ·rcases List.mem_append.1 hx with hx | hx
  ·exact a.hart.word x hx
  ·rw [List.eq_of_mem_replicate hx];omega
 ·show(List.replicate 32 true++List.replicate 64 false).length=96
  simp
 ·rw [n3,regs0_get r hr]
  refine⟨there0_get r hr,?_⟩
  show(h.regs++List.replicate 64 0).getD ((r:Int)).toNat 0=h.regs.getD r 0
  rw [Int.toNat_natCast]
  simp only [List.getD]
  rw [List.getElem?_append_left (by rw [a.hart.len];exact hr)]
 ·show(0:Int)≤window
  have:=a.window
  omega
 ·have e:[]=L++v::R:=e
  cases L<;>cases e
structure Went (C C':Core) (n:Nat) (k:Nat):Prop where
 run:(runP k C.hart C.mem).2=(C'.hart,C'.mem)
 commits:C'.commits=C.commits++(runP k C.hart C.mem).1
 len:(runP k C.hart C.mem).1.length=k
 few:(k:Int)≤(C'.cycles - C.cycles)*C.wide
 wide:C'.wide=C.wide
 cycles:C.cycles≤C'.cycles∧C'.cycles≤C.cycles+n
 all:C'.cycles<C.cycles+n→C'.hart.state≠0
 taken:C.taken≤C'.taken
 backs:C.backs≤C'.backs
theorem Went.refl {n:Nat} (C:Core) (h:C.hart.state≠0∨n=0):Went C C n 0:=
 ⟨rfl,by simp [runP],rfl,by simp,rfl,⟨Int.le_refl _,by omega⟩,fun hh=>by rcases h with h | h;exact h;omega,Int.le_refl _,Int.le_refl _⟩
theorem cycles_does:∀ (n:Nat) (C:Core) (D:Int),Between C D→D≤12*(C.commits.length:Int)+11→∃ k,Went C (cyclesP n C) n k∧(cyclesP n C).cycles≤12*((cyclesP n C).commits.length:Int)+11
 |0,C,D,h,hd=>⟨0,Went.refl C (Or.inr rfl),by have:=due_now h.due;show C.cycles≤12*(C.commits.length:Int)+11;omega⟩
 |n+1,C,D,h,hd=>by
  have hr:=h.good.inv.runs
  have e:cyclesP (n+1) C=cyclesP n (cycleP C):=by
   show(if C.hart.state=0 then cyclesP n (cycleP C) else C)=_
   rw [if_pos hr]
  rw [e]
  obtain⟨k,hk,hcase⟩:=cycle_does h
  have hT:=due_now h.due
  have hlen:((cycleP C).commits.length:Int)=C.commits.length+k:=by rw [hk.commits,List.length_append,hk.len];omega
  have hw:1≤C.wide:=h.good.inv.cfg.2.1
  have step:∀ k2,Went (cycleP C) (cyclesP n (cycleP C)) n k2→Went C (cyclesP n (cycleP C)) (n+1) (k+k2):=by
   intro k2 w
   have ea:=runP_add k k2 C.hart C.mem
   have h1:(runP k C.hart C.mem).2.1=(cycleP C).hart:=by rw [hk.run]
   have h2:(runP k C.hart C.mem).2.2=(cycleP C).mem:=by rw [hk.run]
   rw [h1,h2] at ea
   have hc:=hk.cycles
   have wc:=w.cycles
   refine⟨by rw [ea];exact w.run,by rw [ea,w.commits,hk.commits,List.append_assoc],by rw [ea,List.length_append,hk.len,w.len],?_,w.wide.trans hk.wide,⟨by omega,by omega⟩,fun hh=>w.all (by omega),Int.le_trans hk.taken w.taken,Int.le_trans hk.backs w.backs⟩
   have f1:=hk.few
   have f2:=w.few
   rw [hk.wide] at f2
   have:((cyclesP n (cycleP C)).cycles - C.cycles)*C.wide=((cyclesP n (cycleP C)).cycles - (cycleP C).cycles)*C.wide+C.wide:=by
    rw [show(cyclesP n (cycleP C)).cycles - C.cycles=((cyclesP n (cycleP C)).cycles - (cycleP C).cycles)+1 by omega,Int.add_mul,Int.one_mul]
   rw [this]
   omega
  rcases hcase with⟨hk0,hst⟩ | ⟨hk0,hb⟩ | ⟨hk0,hb⟩
  ·have e2:cyclesP n (cycleP C)=cycleP C:=by
    cases n with
    |zero=>rfl
    |succ n=>
     show(if (cycleP C).hart.state=0 then cyclesP n (cycleP (cycleP C)) else cycleP C)=_
     rw [if_neg hst]
   refine⟨k,?_,?_⟩
   ·have:=step 0 (by rw [e2];exact Went.refl _ (Or.inl hst))
    simpa using this
   ·rw [e2,hk.cycles,hlen]
    omega
  ·obtain⟨k2,w,q⟩:=cycles_does n (cycleP C) _ hb (by rw [hlen];omega)
   exact⟨k+k2,step k2 w,q⟩
  ·obtain⟨k2,w,q⟩:=cycles_does n (cycleP C) _ hb (by rw [hlen];omega)
   exact⟨k+k2,step k2 w,q⟩
structure Shown (C:Core) (wide:Int) (h:Hart) (m:List Int) (n:Nat):Prop where
 run:runP C.commits.length h m=(C.commits,C.hart,C.mem)
 few:(C.commits.length:Int)≤C.cycles*wide
 many:C.cycles / 60≤C.commits.length
 cycles:0≤C.cycles∧C.cycles≤n
 all:C.cycles<n→C.hart.state≠0
 taken:0≤C.taken
 backs:0≤C.backs
theorem run_shown {window phys wide:Int} {h:Hart} {m:List Int} (a:Asked window phys wide h m) (script:List Int) (n:Nat):Shown (runCore window phys wide h m script n) wide h m n:=by
 unfold runCore
 by_cases hs:h.state=0
 ·obtain⟨k,w,q⟩:=cycles_does n _ 11 (core0_between a hs script) (by show(11:Int)≤12*((0:Nat):Int)+11;omega)
  have hc:(cyclesP n (core0 window phys wide h m script)).commits=(runP k h m).1:=by
   have:=w.commits
   exact this
  have hl:(cyclesP n (core0 window phys wide h m script)).commits.length=k:=by rw [hc];exact w.len
  have h0:(core0 window phys wide h m script).cycles=0:=rfl
  have hcy:=w.cycles
  have hf:=w.few
  have hall:=w.all
  rw [h0] at hcy hf hall
  rw [hl] at q
  refine⟨?_,?_,?_,by omega,fun hh=>hall (by omega),w.taken,w.backs⟩
  ·rw [hl,hc]
   have:=w.run
   have this:(runP k h m).2=_:=this
   rw [←this]
  ·rw [hl]
   have:((cyclesP n (core0 window phys wide h m script)).cycles - 0)*wide=(cyclesP n (core0 window phys wide h m script)).cycles*wide:=by rw [Int.sub_zero]
   rw [←this]
   exact hf
  ·rw [hl]
   omega
 ·have e:cyclesP n (core0 window phys wide h m script)=core0 window phys wide h m script:=by
   cases n with
   |zero=>rfl
   |succ n=>
    show(if h.state=0 then _ else core0 window phys wide h m script)=_
    rw [if_neg hs]
  rw [e]
  refine⟨rfl,?_,?_,⟨Int.le_refl _,by show(0:Int)≤n;omega⟩,fun _=>hs,Int.le_refl _,Int.le_refl _⟩
  ·show((0:Nat):Int)≤0*wide
   simp
  ·show(0:Int) / 60≤((0:Nat):Int)
   decide
theorem run_same {a b:Nat} {h:Hart} {m:List Int} (hab:a≤b) (ha:(runP a h m).1.length=a):(runP b h m).1.take a=(runP a h m).1:=by
 obtain⟨c,rfl⟩:∃ c,b=a+c:=⟨b - a,by omega⟩
 rw [runP_add]
 simp only
 rw [List.take_append_of_le_length (by omega),List.take_of_length_le (by omega)]
end Go.Proofs.Ytapgojgcmlnbgac
namespace Go.Proofs.Ytapgojgcmlnbgac
open Go.RowKit
def newR (k:Nat):List Int:=(List.range 32).map fun i=>if i<k then (i:Int) else 0
theorem newR_len (k:Nat):(newR k).length=32:=by simp [newR]
theorem newR_set {k:Nat} (h:k<32):(newR k).set k (k:Int)=newR (k+1):=by
 apply List.ext_getElem?
 intro i
 rw [List.getElem?_set]
 unfold newR
 by_cases hi:i<32
 ·simp only [List.length_map,List.length_range,h,if_true,List.getElem?_map,List.getElem?_range hi,Option.map_some]
  by_cases hk:k=i
  ·subst hk
   simp
  ·rw [if_neg hk]
   congr 1
   by_cases h1:i<k
   ·rw [if_pos h1,if_pos (by omega)]
   ·rw [if_neg h1,if_neg (by omega)]
 ·rw [List.getElem?_eq_none (by simp;omega),List.getElem?_eq_none (by simp;omega),if_neg (by omega)]
theorem newR_all {k:Nat} (h:32≤k):newR k=regs0:=by
 unfold newR regs0
 apply List.map_congr_left
 intro i hi
 have:=List.mem_range.1 hi
 rw [if_pos (by omega)]
 rfl
theorem newR_zero:newR 0=List.replicate 32 0:=by decide
theorem free0_succ (j:Nat):free0 (j+1)=free0 j++[((32+j:Nat):Int)]:=by
 unfold free0
 rw [List.range_succ,List.map_append]
 rfl
theorem grownBy_setCell (w:World) (p:Addr) (u:Value):w.grownBy (w.setCell p u) (some p.block):=
 ⟨rfl,rfl,rfl,by simp,fun k _ hne=>Below.heap_setCell w p u k (fun e=>hne (by rw [e]))⟩
def newD (phys:Int):RMap:=(newP phys).getD RMap.zero
theorem new_any (phys:Int) (w:World) (hp0 : -9223372036854775808≤phys) (hp1:phys≤9223372036854775807) :
  Calls Try.prog 12 #[.int .i64 phys] w fun e w'=>∃ v',e = .returned (.tuple #[v', .int .i64 (if 33≤phys∧phys≤96 then 0 else 3)])∧Below w.heap.size w w'∧MapF w' w.heap.size (newD phys) v':=by
 by_cases hok:33≤phys∧phys≤96
 ·rw [if_pos hok]
  obtain⟨N,rfl⟩:=Int.eq_ofNat_of_zero_le (show 0≤phys by omega)
  have hnd:newD (N:Int)=⟨N,regs0,free0 (N - 32)⟩:=by
   unfold newD newP
   rw [if_pos hok]
   show RMap.mk _ _ _=_
   congr 2
   omega
  rw [hnd]
  obtain⟨h1,h2⟩:=hok
  have h33:33≤N:=by omega
  have h96:N≤96:=by omega
  clear hnd hp0 hp1
  have built1:Try.prog.built 53 [(0, .int .i64 N)]=some (mapCells N (List.replicate 32 0) none 0 0):=by kernel_rfl
  go_enter Try.func12,Try.ntmps12
  go_upto_region 3 with(fail)
  go_simp
  refine wp_gen fun wa hq=>?_
  have hR:Blk wa w.heap.size 53 (mapCells 0 (List.replicate 32 0) none 0 0):=by rw [hq];exact Blk.new w 53 _
  have hb:Below w.heap.size w wa:=by rw [hq];exact(Below.refl w.heap.size w).alloc (Nat.le_refl _) _
  have hz:wa.heap.size=w.heap.size+1:=by rw [hq];simp
  clear hq
  have hB0:=Blk.newAt wa 53 (mapCells 0 (List.replicate 32 0) none 0 0) (g:=w.heap.size+1) hz.symm
  have hR0:=hR.alloc (.cells (mapCells 0 (List.replicate 32 0) none 0 0) 53)
  have hb0:=hb.alloc hb.size (.cells (mapCells 0 (List.replicate 32 0) none 0 0) 53)
  go_upto_region 5 with(first
   |(refine wpList_build_to rfl 53 _ rfl [(0, .int .i64 N)] rfl _ built1 ?_)
   |(refine wpList_store_all rfl 53 _ _ rfl (w.heap.size+1) (mapCells N (List.replicate 32 0) none 0 0) (by simp [Act.eval,Act.put,hz]) rfl 53 _ hB0 (map_info rfl) rfl (map_one _ _ _ _ _) ?_;intro w5 hB5 hg5))
  have hR5:=hR0.grown hg5 (by simp)
  have hb5:=below_grown hb0 hg5 (by simp;omega) (Nat.le_succ _)
  have hz5:=hg5.size
  simp only [World.size_alloc] at hz5
  obtain⟨i0,hi,hz0,hz1,hz2⟩:=info_parts ints_info
  have hs5:w.heap.size+2≤w5.heap.size:=by omega
  have hB6:Blk w5 (w.heap.size+1) 53 (mapCells N (newR 0) none (0 - 32) 0):=by rw [newR_zero];exact hB5
  clear hg5 hB0 hR0 hb0 hR hb hz hz5 hB5
  go_loopw [16] (fun v wr=>∃ (k:Nat) (A:Option Addr) (cap:Nat),v = .int .i64 k∧k≤N∧Below w.heap.size w wr∧Blk wr w.heap.size 53 (mapCells 0 (List.replicate 32 0) none 0 0)∧Blk wr (w.heap.size+1) 53 (mapCells N (newR k) A (k - 32) cap)∧wr.ownsRow (w.heap.size+2) 3 1 (.slice A (k - 32) cap) (k - 32) ((free0 (k - 32)).map (.int .i64))∧w.heap.size+2≤wr.heap.size) (fun v _=>N+1 - (intOf v).toNat)
  case atStart=>exact⟨0,none,0,rfl,by omega,hb5,hR5,hB6,World.ownsRow_nil _ _ _ _,hs5⟩
  case round=>
   clear hb5 hR5 hB6 hs5
   obtain⟨k,A,cap,rfl,hk,hb,hR,hB,hown,hs⟩:=hrel
   have hlt0:(k:Int)≤N:=by omega
   by_cases hlt:k<N
   ·by_cases h32:k<32
    ·have ck:=hB.cell (1+k)
     rw [mapCells_reg _ _ _ _ _ (by rw [newR_len];exact h32)] at ck
     have fk:=hB.frozen (1+k)
     have hB9:=hB.set (1+k) (.int .i64 k)
     have hc9:(mapCells N (newR k) A (k - 32) cap).setIfInBounds (1+k) (.int .i64 k)=mapCells N (newR (k+1)) A (k+1 - 32) cap:=by
      have h1:=mapCells_set N (newR k) A A (k - 32) cap (k - 32) cap k k (newR_len k) h32
      rw [newR_set h32] at h1
      have h2:((mapCells N (newR k) A (k - 32) cap).setIfInBounds (1+k) (.int .i64 k))[33]? = some (.slice A (k - 32) cap):=by rw [Array.getElem?_setIfInBounds_ne (by omega)];exact mapCells_free _ _ _ _ _ (newR_len k)
      have h3:((mapCells N (newR k) A (k - 32) cap).setIfInBounds (1+k) (.int .i64 k)).setIfInBounds 33 (.slice A (k - 32) cap)=(mapCells N (newR k) A (k - 32) cap).setIfInBounds (1+k) (.int .i64 k):=by
       apply Array.ext_getElem?
       intro i
       rw [Array.getElem?_setIfInBounds]
       split
       ·rename_i e;subst e;rw [h2,if_pos (by rw [Array.size_setIfInBounds,mapCells_size _ _ _ _ _ (newR_len k)];omega)]
       ·rfl
      rw [←h3,h1]
      congr 1
      omega
     rw [hc9] at hB9
     have hR9:=hR.far (p:=⟨w.heap.size+1,1+k,none⟩) (Nat.ne_of_lt (Nat.lt_succ_self _)) (.int .i64 k)
     have hb9:=hb.setCell (p:=⟨w.heap.size+1,1+k,none⟩) (Nat.le_succ _) (.int .i64 k)
     have hown9:=hown.kept (grownBy_setCell wr ⟨w.heap.size+1,1+k,none⟩ (.int .i64 k)) (by
      rcases hv:(Value.slice A (k - 32) cap).ownBlock with _ | b
      ·exact Or.inl rfl
      ·right;intro e;injection e with e;have:=(hown.lt b hv).1;simp at e;omega)
     have hs9:w.heap.size+2≤(wr.setCell ⟨w.heap.size+1,1+k,none⟩ (.int .i64 k)).heap.size:=by simpa using hs
     have e0:k - 32=k+1 - 32:=by omega
     rw [e0] at hown9
     have HH:=Lib.hid (And.intro hb9 (And.intro hR9 (And.intro hB9 (And.intro hown9 hs9))))
     clear hb9 hR9 hB9 hown9 hs9 hc9 hown hR hb e0
     go_wp2_with(fail)
     go_roundw
     case rel=>exact⟨k+1,A,cap,by go_num,by omega,HH.out.1,HH.out.2.1,HH.out.2.2.1,by have:=HH.out.2.2.2.1;exact this,HH.out.2.2.2.2⟩
     case measure=>simp [intOf];omega
    ·have c33:=hB.cell 33
     rw [mapCells_free _ _ _ _ _ (newR_len k)] at c33
     have f33:=hB.frozen 33
     have hgt:decide ((k:Int)<32)=false:=by simp;omega
     have hRl:=hR.lt
     clear hlt0
     go_wp2_with(refine wpList_append_any rfl (.tmp 26) (.tmp 28) 29 rfl (w.heap.size+2) 3 i0 _ 1 8 Try.underlying29 hi hz0 hz1 hz2 rfl (by decide) (.slice A (k - 32) cap) (k - 32) _ rfl (hown.alloc _) (some ⟨wr.heap.size,0,none⟩) 1 1 [.int .i64 k] rfl rfl (fun h=>by cases h) (lit_one wr _ _) (by simp;rfl) (by unfold maxLen;omega) (by omega) (by simp;omega) ?_;intro v7 w7 hown7 hg7;have hB7:=(hB.alloc (.cells #[.int .i64 k] 3)).grown hg7 (fun h=>by have:=(hown.lt _ h.symm).1;omega);have hR7:=(hR.alloc (.cells #[.int .i64 k] 3)).grown hg7 (fun h=>by have:=(hown.lt _ h.symm).1;omega);have hb7:=(hb.alloc hb.size (.cells #[.int .i64 k] 3)).grown hg7 (by have:=hb.size;simp;omega) (fun j hj=>by have:=(hown.lt _ hj).1;omega);have hs7:=hg7.size;simp only [World.size_alloc] at hs7;have c7:=hB7.cell 33;rw [mapCells_free _ _ _ _ _ (newR_len k)] at c7;have f7:=hB7.frozen 33;rw [show(free0 (k - 32)).map (Value.int .i64)++[.int .i64 (k:Int)]=(free0 (k+1 - 32)).map (Value.int .i64) by rw [show k+1 - 32=(k - 32)+1 by omega,free0_succ,List.map_append];congr 3;omega,show k - 32+1=k+1 - 32 by omega] at hown7;obtain⟨A7,cap7,rfl⟩:=own_value hown7;clear c33 f33 hg7)
     have hB9:=hB7.set 33 (.slice A7 (k+1 - 32) cap7)
     have hb9:=hb7.setCell (p:=⟨w.heap.size+1,33,none⟩) (Nat.le_succ _) (.slice A7 (k+1 - 32) cap7)
     have hR9:=hR7.far (p:=⟨w.heap.size+1,33,none⟩) (Nat.ne_of_lt (Nat.lt_succ_self _)) (.slice A7 (k+1 - 32) cap7)
     have hown9:=hown7.kept (grownBy_setCell w7 ⟨w.heap.size+1,33,none⟩ (.slice A7 (k+1 - 32) cap7)) (by
      rcases hv:(Value.slice A7 (k+1 - 32) cap7).ownBlock with _ | b
      ·exact Or.inl rfl
      ·right;intro e;injection e with e;have:=(hown7.lt b hv).1;simp at e;omega)
     have hs9:w.heap.size+2≤(w7.setCell ⟨w.heap.size+1,33,none⟩ (.slice A7 (k+1 - 32) cap7)).heap.size:=by simp;omega
     have hc9:(mapCells N (newR k) A (k - 32) cap).setIfInBounds 33 (.slice A7 (k+1 - 32) cap7)=mapCells N (newR (k+1)) A7 (k+1 - 32) cap7:=by
      have h1:=mapCells_set N (newR k) A A7 (k - 32) cap (k+1 - 32) cap7 0 ((newR k).getD 0 0) (newR_len k) (by omega)
      have e1:(newR k).set 0 ((newR k).getD 0 0)=newR k:=by
       have hl0:0<(newR k).length:=by rw [newR_len];omega
       have:(newR k).getD 0 0=(newR k)[0]'hl0:=by simp [List.getD,List.getElem?_eq_getElem hl0]
       rw [this,List.set_getElem_self]
      have e2:(mapCells N (newR k) A (k - 32) cap).setIfInBounds (1+0) (.int .i64 ((newR k).getD 0 0))=mapCells N (newR k) A (k - 32) cap:=by
       have hr0:=mapCells_reg N (newR k) A (k - 32) cap (i:=0) (by rw [newR_len];omega)
       apply Array.ext_getElem?
       intro i
       rw [Array.getElem?_setIfInBounds]
       split
       ·rename_i e;subst e;rw [hr0,if_pos (by rw [mapCells_size _ _ _ _ _ (newR_len k)];omega)]
       ·rfl
      rw [e1,e2] at h1
      rw [h1,newR_all (by omega),newR_all (by omega)]
     rw [hc9] at hB9
     go_roundw
     case rel=>exact⟨k+1,A7,cap7,by go_num,by omega,hb9,hR9,hB9,hown9,hs9⟩
     case measure=>simp [intOf];omega
   ·obtain rfl:k=N:=by omega
    rw [newR_all (by omega)] at hB
    have hl0:regs0.length=32:=by decide
    have hs9:=map_info (phys:=k) (A:=A) (n:=k - 32) (cap:=cap) hl0
    have h19:=map_one k regs0 A (k - 32) cap
    obtain⟨cs9,h9⟩:∃ cs9,cs9=mapCells k regs0 A (k - 32) cap:=⟨_,rfl⟩
    have Hv9:=Lib.hid h9
    have hsz9:(mapCells k regs0 A (k - 32) cap).size=(mapCells 0 (List.replicate 32 0) none 0 0).size:=by rw [mapCells_size _ _ _ _ _ hl0];rfl
    rw [←h9] at hsz9 hs9 h19 hB
    have hno:decide ((k:Int)<k)=false:=by simp
    clear h9
    go_wp2_with(first
     |(refine wpList_load_all rfl 53 _ rfl (w.heap.size+1) rfl 53 cs9 _ hB Try.underlying53 rfl hs9 ?_)
     |(refine wpList_store_all rfl 53 _ _ rfl w.heap.size cs9 rfl rfl 53 _ hR hs9 hsz9 h19 ?_;intro wx hBx hgx;have hld:=load_map hBx hs9))
    refine bodyPost_ret (results_ct Try.results12 rfl rfl hld) rfl ?_
    have hl1:(free0 (k - 32)).length=k - 32:=by simp [free0]
    obtain⟨A',cap',he,_,hn',hA',hc',hg'⟩:=own_ints hown
    cases he
    refine⟨_,rfl,below_grown hb hgx hb.size (Nat.le_refl _),A,cap,by rw [Hv9.out];show _=Value.agg (mapCells k regs0 A (free0 (k - 32)).length cap);rw [hl1],?_,fun ad h=>by have:=hg' ad h;omega⟩
    have hA10:=(hA'.grown (Nat.le_refl _) hgx (fun ad h=>by have:=hg' ad h;omega)).mono hgx.size
    refine⟨by show _≤(k:Int);omega,by show(k:Int)≤_;omega,hl0,by show(free0 (k - 32)).length≤_;omega,by show(free0 (k - 32)).length≤_;omega,hA10,hn',fun x hx=>?_⟩
    have hx':x∈regs0++free0 (k - 32):=hx
    rw [new_eq] at hx'
    obtain⟨j,hj,rfl⟩:=List.mem_map.1 hx'
    have:=List.mem_range.1 hj
    show _≤(j:Int)∧(j:Int)≤_
    omega
 ·rw [if_neg hok]
  have hnd:newD phys=RMap.zero:=by unfold newD newP;rw [if_neg hok];rfl
  have hok':phys<33∨(33≤phys∧96<phys):=by omega
  rw [hnd]
  clear hok hnd
  rcases hok' with h1 | ⟨h1,h2⟩
  ·
   go_enter Try.func12,Try.ntmps12
   go_upto_region 1 with(fail)
   go_simp
   refine wp_gen fun wa hq=>?_
   have hb2:Below w.heap.size w wa:=by rw [hq];exact(Below.refl w.heap.size w).alloc (Nat.le_refl _) _
   have hR:Blk wa w.heap.size 53 (mapCells 0 (List.replicate 32 0) none 0 0):=by rw [hq];exact Blk.new w 53 _
   clear hq
   go_wp2_with(first
    |(refine wpList_build_to rfl 53 _ rfl [] rfl _ built_map0 ?_)
    |(refine wpList_store_all rfl 53 _ _ rfl w.heap.size (mapCells 0 (List.replicate 32 0) none 0 0) rfl rfl 53 _ hR zero_info rfl (map_one _ _ _ _ _) ?_;intro w5 hB5 hg5;have hld:=load_map hB5 zero_info))
   refine bodyPost_ret (results_ct Try.results12 rfl rfl hld) rfl ?_
   exact⟨_,rfl,below_grown hb2 hg5 hb2.size (Nat.le_refl _),MapF.zero _ _⟩
  ·
   go_enter Try.func12,Try.ntmps12
   go_upto_region 1 with(fail)
   go_simp
   refine wp_gen fun wa hq=>?_
   have hb2:Below w.heap.size w wa:=by rw [hq];exact(Below.refl w.heap.size w).alloc (Nat.le_refl _) _
   have hR:Blk wa w.heap.size 53 (mapCells 0 (List.replicate 32 0) none 0 0):=by rw [hq];exact Blk.new w 53 _
   clear hq
   go_wp2_with(first
    |(refine wpList_build_to rfl 53 _ rfl [] rfl _ built_map0 ?_)
    |(refine wpList_store_all rfl 53 _ _ rfl w.heap.size (mapCells 0 (List.replicate 32 0) none 0 0) rfl rfl 53 _ hR zero_info rfl (map_one _ _ _ _ _) ?_;intro w5 hB5 hg5;have hld:=load_map hB5 zero_info))
   refine bodyPost_ret (results_ct Try.results12 rfl rfl hld) rfl ?_
   exact⟨_,rfl,below_grown hb2 hg5 hb2.size (Nat.le_refl _),MapF.zero _ _⟩
theorem ints_step {w w':World} {B:Nat} {k:IntKind} {A:Option Addr} {l:List Int} {row:Option Nat} (h:IntsAt w B k A l) (hB:B≤w.heap.size) (hg:w.grownBy w' row) (hne:l≠[]→∀ ad,A=some ad→some ad.block≠row):IntsAt w' B k A l:=fun hl=>by
 obtain⟨b,o,hA,hb,hc⟩:=h hl
 have hbg:=hne hl _ hA
 refine⟨b,o,hA,hb,fun i v hi=>?_⟩
 rw [World.cell?_of_block (hg.block b (Nat.lt_of_lt_of_le hb hB) hbg)]
 exact hc i v hi
theorem MapIn.step {w w':World} {m:RMap} {A:Option Addr} {cap:Nat} {row:Option Nat} (h:MapIn w m A cap) (hg:w.grownBy w' row) (hne:m.free≠[]→∀ ad,A=some ad→some ad.block≠row):MapIn w' m A cap:=
 ⟨h.p0,h.p1,h.len,h.few,h.room,(ints_step h.free (Nat.le_refl _) hg hne).mono hg.size,h.nil,h.wf⟩
theorem MapIn.free_lt {w:World} {m:RMap} {A:Option Addr} {cap:Nat} (h:MapIn w m A cap) (hf:m.free≠[]):∀ ad,A=some ad→ad.block<w.heap.size:=by
 intro ad e
 obtain⟨b,o,e',hb,_⟩:=h.free hf
 rw [e] at e'
 cases e'
 exact hb
structure RowsAt (B:Nat) (w:World) (g:Nat) (L:Lay) (ps:List Nat) (cms:List Com) (mm:List Int) (sl:List Slt) (al:List Acc) (us:List Uop) (nm:RMap) (sc:List Int):Prop where
 base:B≤g
 commits:w.ownsRow B 65 11 L.commits cms.length (comsV cms)
 mem:w.ownsRow B 5 1 L.mem mm.length (mm.map (.int .u8))
 slots:w.ownsRow B 105 2 L.slots sl.length (slotsV sl)
 access:w.ownsRow B 82 7 L.access al.length (accsV al)
 ptrs:PtrRow w B L.ops ps
 uops:UopsAt w B us ps
 names:MapIn w nm L.freeA L.freeCap
 free:nm.free≠[]→∀ ad,L.freeA=some ad→ad.block≠g∧L.commits.ownBlock≠some ad.block∧L.mem.ownBlock≠some ad.block∧L.access.ownBlock≠some ad.block∧L.ops.ownBlock≠some ad.block∧ad.block ∉ ps
 script:∃ A cap,L.script = .slice A sc.length cap∧sc.length≤cap∧cap≤9223372036854775807∧IntsAt w B .i64 A sc∧(A=none→sc=[]∧cap=0)
section
variable {B:Nat} {w w':World} {g:Nat} {L:Lay} {ps:List Nat} {cms:List Com} {mm:List Int} {sl:List Slt} {al:List Acc} {us:List Uop} {nm:RMap} {sc:List Int}
theorem RowsAt.scr_step (h:RowsAt B w g L ps cms mm sl al us nm sc) (hB:B≤w.heap.size) {row:Option Nat} (hg:w.grownBy w' row) (hr:∀ k,row=some k→B≤k) :
  ∃ A cap,L.script = .slice A sc.length cap∧sc.length≤cap∧cap≤9223372036854775807∧IntsAt w' B .i64 A sc∧(A=none→sc=[]∧cap=0):=by
 obtain⟨A,cap,h1,h2,h2',h3,h4⟩:=h.script
 refine⟨A,cap,h1,h2,h2',ints_step h3 hB hg (fun hne ad e hh=>?_),h4⟩
 obtain⟨b,o,e',hb,_⟩:=h3 hne
 rw [e] at e'
 cases e'
 have:=hr _ hh.symm
 have hbb:b<B:=hb
 simp only at this
 omega
theorem RowsAt.step (h:RowsAt B w g L ps cms mm sl al us nm sc) (hB:B≤w.heap.size) {row:Option Nat} (hg:w.grownBy w' row) (hr:∀ k,row=some k→B≤k)
  (c1:L.commits.ownBlock=none∨L.commits.ownBlock≠row) (c2:L.mem.ownBlock=none∨L.mem.ownBlock≠row) (c3:L.slots.ownBlock=none∨L.slots.ownBlock≠row) (c4:L.access.ownBlock=none∨L.access.ownBlock≠row)
  (c5:L.ops.ownBlock=none∨L.ops.ownBlock≠row) (c6:∀ p∈ps,some p≠row) (c7:nm.free≠[]→∀ ad,L.freeA=some ad→some ad.block≠row):RowsAt B w' g L ps cms mm sl al us nm sc:=
 ⟨h.base,h.commits.kept hg c1,h.mem.kept hg c2,h.slots.kept hg c3,h.access.kept hg c4,h.ptrs.kept hg c5,h.uops.kept hg c6,h.names.step hg c7,h.free,h.scr_step hB hg hr⟩
theorem RowsAt.ext (h:RowsAt B w g L ps cms mm sl al us nm sc) (hB:B≤w.heap.size) (hb:Below w.heap.size w w'):RowsAt B w' g L ps cms mm sl al us nm sc:=by
 refine h.step hB (below_grownBy hb) (fun k hk=>by cases hk) ?_ ?_ ?_ ?_ ?_ (fun p _=>by simp) (fun _ _ _=>by simp)
 all_goals exact Classical.em _
theorem RowsAt.core (h:RowsAt B w g L ps cms mm sl al us nm sc) (hB:B≤w.heap.size) {cs:Array Value} (hk:Blk w g 60 cs) (hg:w.grownBy w' (some g)):RowsAt B w' g L ps cms mm sl al us nm sc:=
 h.step hB hg (fun k hk=>by cases hk;exact h.base) (own_other h.commits hk (by decide)) (own_other h.mem hk (by decide)) (own_other h.slots hk (by decide)) (own_other h.access hk (by decide)) (h.ptrs.other hk (by decide))
  (fun p hp e=>by
   injection e with e
   obtain⟨u,hu,_⟩:=h.uops.mem hp
   exact blk_other hu hk (by decide) e)
  (fun hf ad e hh=>(h.free hf ad e).1 (by injection hh))
theorem RowsAt.uop (h:RowsAt B w g L ps cms mm sl al us nm sc) (hB:B≤w.heap.size) {i p:Nat} (hp:ps[i]? = some p) (hg:w.grownBy w' (some p)) {u':Uop} (hB':Blk w' p 70 u'.cells) :
  RowsAt B w' g L ps cms mm sl al (us.set i u') nm sc:=by
 have hpm:=List.mem_of_getElem? hp
 obtain⟨u,hk,hbp⟩:=h.uops.mem hpm
 exact⟨h.base,h.commits.kept hg (own_other h.commits hk (by decide)),h.mem.kept hg (own_other h.mem hk (by decide)),h.slots.kept hg (own_other h.slots hk (by decide)),h.access.kept hg (own_other h.access hk (by decide)),
  h.ptrs.kept hg (h.ptrs.other hk (by decide)),h.uops.set hp hg hB',h.names.step hg (fun hf ad e hh=>(h.free hf ad e).2.2.2.2.2 (by injection hh with hh;rw [hh];exact hpm)),h.free,h.scr_step hB hg (fun k hk=>by cases hk;exact hbp)⟩
theorem own_base {base:Nat} {e:TypeId} {size:Nat} {v:Value} {n:Nat} {xs:List Value} (h:w.ownsRow base e size v n xs):∀ k,v.ownBlock=some k→base≤k:=fun k hk=>(h.lt k hk).1
theorem RowsAt.memory (h:RowsAt B w g L ps cms mm sl al us nm sc) (hB:B≤w.heap.size) (hg:w.grownBy w' L.mem.ownBlock) {m':List Int} (hown:w'.ownsRow B 5 1 L.mem m'.length (m'.map (.int .u8))) :
  RowsAt B w' g L ps cms m' sl al us nm sc:=
 ⟨h.base,h.commits.kept hg (own_apart h.commits h.mem (by decide)),hown,h.slots.kept hg (own_apart h.slots h.mem (by decide)),h.access.kept hg (own_apart h.access h.mem (by decide)),h.ptrs.kept hg (h.ptrs.apart h.mem (by decide)),
  h.uops.kept hg (fun p hp=>by obtain⟨u,hu,_⟩:=h.uops.mem hp;exact blk_row hu h.mem (by decide)),h.names.step hg (fun hf ad e hh=>(h.free hf ad e).2.2.1 hh.symm),h.free,h.scr_step hB hg (own_base h.mem)⟩
theorem RowsAt.acc (h:RowsAt B w g L ps cms mm sl al us nm sc) (hB:B≤w.heap.size) (hg:w.grownBy w' L.access.ownBlock) {v':Value} {acc':List Acc} (hown:w'.ownsRow B 82 7 v' acc'.length (accsV acc'))
  (hv:v'.ownBlock=L.access.ownBlock∨∀ k,v'.ownBlock=some k→w.heap.size≤k):RowsAt B w' g { L with access:=v' } ps cms mm sl acc' us nm sc:=
 ⟨h.base,h.commits.kept hg (own_apart h.commits h.access (by decide)),h.mem.kept hg (own_apart h.mem h.access (by decide)),h.slots.kept hg (own_apart h.slots h.access (by decide)),hown,h.ptrs.kept hg (h.ptrs.apart h.access (by decide)),
  h.uops.kept hg (fun p hp=>by obtain⟨u,hu,_⟩:=h.uops.mem hp;exact blk_row hu h.access (by decide)),h.names.step hg (fun hf ad e hh=>(h.free hf ad e).2.2.2.1 hh.symm),
  fun hf ad e=>by
   obtain⟨f1,f2,f3,f4,f5,f6⟩:=h.free hf ad e
   refine⟨f1,f2,f3,fun hh=>?_,f5,f6⟩
   rcases hv with hv | hv
   ·exact f4 (by rw [←hv];exact hh)
   ·have:=hv _ hh
    have:=h.names.free_lt hf ad e
    omega,
  h.scr_step hB hg (own_base h.access)⟩
theorem RowsAt.coms (h:RowsAt B w g L ps cms mm sl al us nm sc) (hB:B≤w.heap.size) (hg:w.grownBy w' L.commits.ownBlock) {v':Value} {coms':List Com} (hown:w'.ownsRow B 65 11 v' coms'.length (comsV coms'))
  (hv:v'.ownBlock=L.commits.ownBlock∨∀ k,v'.ownBlock=some k→w.heap.size≤k):RowsAt B w' g { L with commits:=v' } ps coms' mm sl al us nm sc:=
 ⟨h.base,hown,h.mem.kept hg (own_apart h.mem h.commits (by decide)),h.slots.kept hg (own_apart h.slots h.commits (by decide)),h.access.kept hg (own_apart h.access h.commits (by decide)),h.ptrs.kept hg (h.ptrs.apart h.commits (by decide)),
  h.uops.kept hg (fun p hp=>by obtain⟨u,hu,_⟩:=h.uops.mem hp;exact blk_row hu h.commits (by decide)),h.names.step hg (fun hf ad e hh=>(h.free hf ad e).2.1 hh.symm),
  fun hf ad e=>by
   obtain⟨f1,f2,f3,f4,f5,f6⟩:=h.free hf ad e
   refine⟨f1,fun hh=>?_,f3,f4,f5,f6⟩
   rcases hv with hv | hv
   ·exact f2 (by rw [←hv];exact hh)
   ·have:=hv _ hh
    have:=h.names.free_lt hf ad e
    omega,
  h.scr_step hB hg (own_base h.commits)⟩
theorem ptr_blk {v:Value} {ps:List Nat} (h:PtrRow w B v ps) {k:Nat} (hk:v.ownBlock=some k):∃ cur,Blk w k 66 cur:=by
 rcases h with⟨rfl,_⟩ | ⟨go,oo,cap,cur,rfl,_,hB,_⟩
 ·cases hk
 ·cases hk
  exact⟨cur,hB⟩
theorem own_ptr {base:Nat} {e:TypeId} {size:Nat} {v v2:Value} {n:Nat} {xs:List Value} {ps:List Nat} (h:w.ownsRow base e size v n xs) (h2:PtrRow w B v2 ps) (he:e≠66):v.ownBlock=none∨v.ownBlock≠v2.ownBlock:=by
 rcases hv:v2.ownBlock with _ | k
 ·rcases v.ownBlock with _ | _<;>simp
 ·obtain⟨cur,hk⟩:=ptr_blk h2 hv
  exact own_other h hk he
theorem RowsAt.ptr (h:RowsAt B w g L ps cms mm sl al us nm sc) (hB:B≤w.heap.size) (hg:w.grownBy w' L.ops.ownBlock) {v':Value} {ps':List Nat} {ops':List Uop} (hrow:PtrRow w' B v' ps') (hu:UopsAt w' B ops' ps')
  (hv:v'.ownBlock=L.ops.ownBlock∨∀ k,v'.ownBlock=some k→w.heap.size≤k) (hp:∀ p∈ps',p∈ps∨(nm.free≠[]→∀ ad,L.freeA=some ad→ad.block≠p)):RowsAt B w' g { L with ops:=v' } ps' cms mm sl al ops' nm sc:=
 ⟨h.base,h.commits.kept hg (own_ptr h.commits h.ptrs (by decide)),h.mem.kept hg (own_ptr h.mem h.ptrs (by decide)),h.slots.kept hg (own_ptr h.slots h.ptrs (by decide)),h.access.kept hg (own_ptr h.access h.ptrs (by decide)),hrow,hu,
  h.names.step hg (fun hf ad e hh=>(h.free hf ad e).2.2.2.2.1 hh.symm),
  fun hf ad e=>by
   obtain⟨f1,f2,f3,f4,f5,f6⟩:=h.free hf ad e
   refine⟨f1,f2,f3,f4,fun hh=>?_,fun hm=>?_⟩
   ·rcases hv with hv | hv
    ·exact f5 (by rw [←hv];exact hh)
    ·have:=hv _ hh
     have:=h.names.free_lt hf ad e
     omega
   ·rcases hp _ hm with hm | hm
    ·exact f6 hm
    ·exact hm hf ad e rfl,
  h.scr_step hB hg (fun k hk=>(h.ptrs.lt k hk).1)⟩
theorem RowsAt.slot (h:RowsAt B w g L ps cms mm sl al us nm sc) {v':Value} {slots':List Slt} (hown:w.ownsRow B 105 2 v' slots'.length (slotsV slots')):RowsAt B w g { L with slots:=v' } ps cms mm slots' al us nm sc:=
 ⟨h.base,h.commits,h.mem,hown,h.access,h.ptrs,h.uops,h.names,h.free,h.script⟩
theorem RowsAt.name (h:RowsAt B w g L ps cms mm sl al us nm sc) (hgl:g<w.heap.size) {m':RMap} {A':Option Addr} {c':Nat} (hm:MapIn w' m' A' c') (hf:∀ ad,A'=some ad→w.heap.size≤ad.block) (hB:B≤w.heap.size) (hb:Below w.heap.size w w') :
  RowsAt B w' g { L with freeA:=A',freeCap:=c' } ps cms mm sl al us m' sc:=by
 have h2:=h.ext hB hb
 refine⟨h2.base,h2.commits,h2.mem,h2.slots,h2.access,h2.ptrs,h2.uops,hm,fun _ ad e=>?_,h2.script⟩
 have hl:=hf ad e
 refine⟨by omega,fun hh=>?_,fun hh=>?_,fun hh=>?_,fun hh=>?_,fun hh=>?_⟩
 ·have:=(h.commits.lt _ hh).2;omega
 ·have:=(h.mem.lt _ hh).2;omega
 ·have:=(h.access.lt _ hh).2;omega
 ·have:=(h.ptrs.lt _ hh).2;omega
 ·have:=h.uops.lt hh;omega
theorem RowsAt.scr (h:RowsAt B w g L ps cms mm sl al us nm sc) {v':Value} {script':List Int} (hs:∃ A cap,v' = .slice A script'.length cap∧script'.length≤cap∧cap≤9223372036854775807∧IntsAt w B .i64 A script'∧(A=none→script'=[]∧cap=0)) :
  RowsAt B w g { L with script:=v' } ps cms mm sl al us nm script':=
 ⟨h.base,h.commits,h.mem,h.slots,h.access,h.ptrs,h.uops,h.names,h.free,hs⟩
end
structure CoreIs (B:Nat) (w:World) (g:Nat) (C:Core) (L:Lay) (ps:List Nat) (cs:Array Value):Prop where
 low:B≤w.heap.size
 blk:Blk w g 60 cs
 cells:CoreCells cs C L
 rows:RowsAt B w g L ps C.commits C.mem C.slots C.access C.ops C.names C.script
theorem CoreIs.ext {B:Nat} {w w':World} {g:Nat} {C:Core} {L:Lay} {ps:List Nat} {cs:Array Value} (h:CoreIs B w g C L ps cs) (hb:Below w.heap.size w w'):CoreIs B w' g C L ps cs:=
 ⟨Nat.le_trans h.low hb.size,h.blk.ext hb,h.cells,h.rows.ext h.low hb⟩
theorem CoreIs.set {B:Nat} {w:World} {g:Nat} {C C':Core} {L L':Lay} {ps:List Nat} {cs:Array Value} (h:CoreIs B w g C L ps cs) (k:Nat) (v:Value) (hc:CoreCells (cs.setIfInBounds k v) C' L')
  (hr:RowsAt B w g L' ps C'.commits C'.mem C'.slots C'.access C'.ops C'.names C'.script):CoreIs B (w.setCell ⟨g,k,none⟩ v) g C' L' ps (cs.setIfInBounds k v):=
 ⟨by simpa using h.low,h.blk.set k v,hc,hr.core h.low h.blk (grownBy_setCell w ⟨g,k,none⟩ v)⟩
end Go.Proofs.Ytapgojgcmlnbgac
namespace Go.Proofs.Ytapgojgcmlnbgac
open Go Go.RowKit
def coreC0 (a b c:Int) (sv:Value) (pc:Int):Array Value:=
 ([Value.int .i64 a,Value.int .i64 b,Value.int .i64 c,Value.slice none 0 0]++List.replicate 32 (Value.int .u32 0)++[Value.int .u32 0,Value.int .i64 0,Value.int .i64 0]++[Value.slice none 0 0,Value.int .i64 0,Value.int .i64 0,Value.int .i64 0,sv] ++
  ((List.replicate 16 [Value.int .i64 0,Value.int .u32 0]).flatten++(List.replicate 8 [Value.int .u32 0,Value.int .u32 0,Value.int .u32 0,Value.int .i64 0]).flatten)++[Value.int .i64 0]++List.replicate 32 (Value.int .i64 0)++[Value.slice none 0 0] ++
  List.replicate 96 (Value.int .u32 0)++List.replicate 96 (Value.bool false)++[Value.slice none 0 0,Value.slice none 0 0,Value.slice none 0 0,Value.int .i64 0,Value.int .u32 pc,Value.bool false]).toArray
def coreN (a b c:Int) (sc:List Int) (pc:Int):Core:=⟨a,b,c,[],⟨List.replicate 32 0,0,0,0⟩,[],0,0,0,sc,tab0,RMap.zero,List.replicate 96 0,List.replicate 96 false,[],[],[],0,pc,false⟩
def layN (sv:Value):Lay:=⟨.slice none 0 0, .slice none 0 0,sv, .slice none 0 0, .slice none 0 0, .slice none 0 0,none,0⟩
theorem built_core0 (a b c:Int) (A:Option Addr) (n cap:Nat) (pc:Int):Try.prog.built 60 [(0, .agg #[.int .i64 a, .int .i64 b, .int .i64 c]),(2, .slice A n cap),(11, .int .u32 pc)]=some (coreC0 a b c (.slice A n cap) pc):=by kernel_rfl
theorem coreC0_hart (a b c:Int) (sv:Value) (pc:Int):∀ i,i<35→(coreC0 a b c sv pc)[4+i]? = (Hart.cells ⟨List.replicate 32 0,0,0,0⟩)[i]?
 |0,_=>by kernel_rfl
 |1,_=>by kernel_rfl
 |2,_=>by kernel_rfl
 |3,_=>by kernel_rfl
 |4,_=>by kernel_rfl
 |5,_=>by kernel_rfl
 |6,_=>by kernel_rfl
 |7,_=>by kernel_rfl
 |8,_=>by kernel_rfl
 |9,_=>by kernel_rfl
 |10,_=>by kernel_rfl
 |11,_=>by kernel_rfl
 |12,_=>by kernel_rfl
 |13,_=>by kernel_rfl
 |14,_=>by kernel_rfl
 |15,_=>by kernel_rfl
 |16,_=>by kernel_rfl
 |17,_=>by kernel_rfl
 |18,_=>by kernel_rfl
 |19,_=>by kernel_rfl
 |20,_=>by kernel_rfl
 |21,_=>by kernel_rfl
 |22,_=>by kernel_rfl
 |23,_=>by kernel_rfl
 |24,_=>by kernel_rfl
 |25,_=>by kernel_rfl
 |26,_=>by kernel_rfl
 |27,_=>by kernel_rfl
 |28,_=>by kernel_rfl
 |29,_=>by kernel_rfl
 |30,_=>by kernel_rfl
 |31,_=>by kernel_rfl
 |32,_=>by kernel_rfl
 |33,_=>by kernel_rfl
 |34,_=>by kernel_rfl
 |i+35,h=>by omega
theorem coreC0_tab (a b c:Int) (sv:Value) (pc:Int):∀ i,i<64→(coreC0 a b c sv pc)[44+i]? = tab0[i]?
 |0,_=>by kernel_rfl
 |1,_=>by kernel_rfl
 |2,_=>by kernel_rfl
 |3,_=>by kernel_rfl
 |4,_=>by kernel_rfl
 |5,_=>by kernel_rfl
 |6,_=>by kernel_rfl
 |7,_=>by kernel_rfl
 |8,_=>by kernel_rfl
 |9,_=>by kernel_rfl
 |10,_=>by kernel_rfl
 |11,_=>by kernel_rfl
 |12,_=>by kernel_rfl
 |13,_=>by kernel_rfl
 |14,_=>by kernel_rfl
 |15,_=>by kernel_rfl
 |16,_=>by kernel_rfl
 |17,_=>by kernel_rfl
 |18,_=>by kernel_rfl
 |19,_=>by kernel_rfl
 |20,_=>by kernel_rfl
 |21,_=>by kernel_rfl
 |22,_=>by kernel_rfl
 |23,_=>by kernel_rfl
 |24,_=>by kernel_rfl
 |25,_=>by kernel_rfl
 |26,_=>by kernel_rfl
 |27,_=>by kernel_rfl
 |28,_=>by kernel_rfl
 |29,_=>by kernel_rfl
 |30,_=>by kernel_rfl
 |31,_=>by kernel_rfl
 |32,_=>by kernel_rfl
 |33,_=>by kernel_rfl
 |34,_=>by kernel_rfl
 |35,_=>by kernel_rfl
 |36,_=>by kernel_rfl
 |37,_=>by kernel_rfl
 |38,_=>by kernel_rfl
 |39,_=>by kernel_rfl
 |40,_=>by kernel_rfl
 |41,_=>by kernel_rfl
 |42,_=>by kernel_rfl
 |43,_=>by kernel_rfl
 |44,_=>by kernel_rfl
 |45,_=>by kernel_rfl
 |46,_=>by kernel_rfl
 |47,_=>by kernel_rfl
 |48,_=>by kernel_rfl
 |49,_=>by kernel_rfl
 |50,_=>by kernel_rfl
 |51,_=>by kernel_rfl
 |52,_=>by kernel_rfl
 |53,_=>by kernel_rfl
 |54,_=>by kernel_rfl
 |55,_=>by kernel_rfl
 |56,_=>by kernel_rfl
 |57,_=>by kernel_rfl
 |58,_=>by kernel_rfl
 |59,_=>by kernel_rfl
 |60,_=>by kernel_rfl
 |61,_=>by kernel_rfl
 |62,_=>by kernel_rfl
 |63,_=>by kernel_rfl
 |i+64,h=>by omega
theorem coreC0_names (a b c:Int) (sv:Value) (pc:Int):∀ i,i<34→(coreC0 a b c sv pc)[108+i]? = (mapCells RMap.zero.phys RMap.zero.regs none RMap.zero.free.length 0)[i]?
 |0,_=>by kernel_rfl
 |1,_=>by kernel_rfl
 |2,_=>by kernel_rfl
 |3,_=>by kernel_rfl
 |4,_=>by kernel_rfl
 |5,_=>by kernel_rfl
 |6,_=>by kernel_rfl
 |7,_=>by kernel_rfl
 |8,_=>by kernel_rfl
 |9,_=>by kernel_rfl
 |10,_=>by kernel_rfl
 |11,_=>by kernel_rfl
 |12,_=>by kernel_rfl
 |13,_=>by kernel_rfl
 |14,_=>by kernel_rfl
 |15,_=>by kernel_rfl
 |16,_=>by kernel_rfl
 |17,_=>by kernel_rfl
 |18,_=>by kernel_rfl
 |19,_=>by kernel_rfl
 |20,_=>by kernel_rfl
 |21,_=>by kernel_rfl
 |22,_=>by kernel_rfl
 |23,_=>by kernel_rfl
 |24,_=>by kernel_rfl
 |25,_=>by kernel_rfl
 |26,_=>by kernel_rfl
 |27,_=>by kernel_rfl
 |28,_=>by kernel_rfl
 |29,_=>by kernel_rfl
 |30,_=>by kernel_rfl
 |31,_=>by kernel_rfl
 |32,_=>by kernel_rfl
 |33,_=>by kernel_rfl
 |i+34,h=>by omega
theorem coreC0_words (a b c:Int) (sv:Value) (pc:Int):∀ i,i<96→(coreC0 a b c sv pc)[142+i]? = some (.int .u32 ((List.replicate 96 (0:Int)).getD i 0))
 |0,_=>by kernel_rfl
 |1,_=>by kernel_rfl
 |2,_=>by kernel_rfl
 |3,_=>by kernel_rfl
 |4,_=>by kernel_rfl
 |5,_=>by kernel_rfl
 |6,_=>by kernel_rfl
 |7,_=>by kernel_rfl
 |8,_=>by kernel_rfl
 |9,_=>by kernel_rfl
 |10,_=>by kernel_rfl
 |11,_=>by kernel_rfl
 |12,_=>by kernel_rfl
 |13,_=>by kernel_rfl
 |14,_=>by kernel_rfl
 |15,_=>by kernel_rfl
 |16,_=>by kernel_rfl
 |17,_=>by kernel_rfl
 |18,_=>by kernel_rfl
 |19,_=>by kernel_rfl
 |20,_=>by kernel_rfl
 |21,_=>by kernel_rfl
 |22,_=>by kernel_rfl
 |23,_=>by kernel_rfl
 |24,_=>by kernel_rfl
 |25,_=>by kernel_rfl
 |26,_=>by kernel_rfl
 |27,_=>by kernel_rfl
 |28,_=>by kernel_rfl
 |29,_=>by kernel_rfl
 |30,_=>by kernel_rfl
 |31,_=>by kernel_rfl
 |32,_=>by kernel_rfl
 |33,_=>by kernel_rfl
 |34,_=>by kernel_rfl
 |35,_=>by kernel_rfl
 |36,_=>by kernel_rfl
 |37,_=>by kernel_rfl
 |38,_=>by kernel_rfl
 |39,_=>by kernel_rfl
 |40,_=>by kernel_rfl
 |41,_=>by kernel_rfl
 |42,_=>by kernel_rfl
 |43,_=>by kernel_rfl
 |44,_=>by kernel_rfl
 |45,_=>by kernel_rfl
 |46,_=>by kernel_rfl
 |47,_=>by kernel_rfl
 |48,_=>by kernel_rfl
 |49,_=>by kernel_rfl
 |50,_=>by kernel_rfl
 |51,_=>by kernel_rfl
 |52,_=>by kernel_rfl
 |53,_=>by kernel_rfl
 |54,_=>by kernel_rfl
 |55,_=>by kernel_rfl
 |56,_=>by kernel_rfl
 |57,_=>by kernel_rfl
 |58,_=>by kernel_rfl
 |59,_=>by kernel_rfl
 |60,_=>by kernel_rfl
 |61,_=>by kernel_rfl
 |62,_=>by kernel_rfl
 |63,_=>by kernel_rfl
 |64,_=>by kernel_rfl
 |65,_=>by kernel_rfl
 |66,_=>by kernel_rfl
 |67,_=>by kernel_rfl
 |68,_=>by kernel_rfl
 |69,_=>by kernel_rfl
 |70,_=>by kernel_rfl
 |71,_=>by kernel_rfl
 |72,_=>by kernel_rfl
 |73,_=>by kernel_rfl
 |74,_=>by kernel_rfl
 |75,_=>by kernel_rfl
 |76,_=>by kernel_rfl
 |77,_=>by kernel_rfl
 |78,_=>by kernel_rfl
 |79,_=>by kernel_rfl
 |80,_=>by kernel_rfl
 |81,_=>by kernel_rfl
 |82,_=>by kernel_rfl
 |83,_=>by kernel_rfl
 |84,_=>by kernel_rfl
 |85,_=>by kernel_rfl
 |86,_=>by kernel_rfl
 |87,_=>by kernel_rfl
 |88,_=>by kernel_rfl
 |89,_=>by kernel_rfl
 |90,_=>by kernel_rfl
 |91,_=>by kernel_rfl
 |92,_=>by kernel_rfl
 |93,_=>by kernel_rfl
 |94,_=>by kernel_rfl
 |95,_=>by kernel_rfl
 |i+96,h=>by omega
theorem coreC0_there (a b c:Int) (sv:Value) (pc:Int):∀ i,i<96→(coreC0 a b c sv pc)[238+i]? = some (.bool ((List.replicate 96 false).getD i false))
 |0,_=>by kernel_rfl
 |1,_=>by kernel_rfl
 |2,_=>by kernel_rfl
 |3,_=>by kernel_rfl
 |4,_=>by kernel_rfl
 |5,_=>by kernel_rfl
 |6,_=>by kernel_rfl
 |7,_=>by kernel_rfl
 |8,_=>by kernel_rfl
 |9,_=>by kernel_rfl
 |10,_=>by kernel_rfl
 |11,_=>by kernel_rfl
 |12,_=>by kernel_rfl
 |13,_=>by kernel_rfl
 |14,_=>by kernel_rfl
 |15,_=>by kernel_rfl
 |16,_=>by kernel_rfl
 |17,_=>by kernel_rfl
 |18,_=>by kernel_rfl
 |19,_=>by kernel_rfl
 |20,_=>by kernel_rfl
 |21,_=>by kernel_rfl
 |22,_=>by kernel_rfl
 |23,_=>by kernel_rfl
 |24,_=>by kernel_rfl
 |25,_=>by kernel_rfl
 |26,_=>by kernel_rfl
 |27,_=>by kernel_rfl
 |28,_=>by kernel_rfl
 |29,_=>by kernel_rfl
 |30,_=>by kernel_rfl
 |31,_=>by kernel_rfl
 |32,_=>by kernel_rfl
 |33,_=>by kernel_rfl
 |34,_=>by kernel_rfl
 |35,_=>by kernel_rfl
 |36,_=>by kernel_rfl
 |37,_=>by kernel_rfl
 |38,_=>by kernel_rfl
 |39,_=>by kernel_rfl
 |40,_=>by kernel_rfl
 |41,_=>by kernel_rfl
 |42,_=>by kernel_rfl
 |43,_=>by kernel_rfl
 |44,_=>by kernel_rfl
 |45,_=>by kernel_rfl
 |46,_=>by kernel_rfl
 |47,_=>by kernel_rfl
 |48,_=>by kernel_rfl
 |49,_=>by kernel_rfl
 |50,_=>by kernel_rfl
 |51,_=>by kernel_rfl
 |52,_=>by kernel_rfl
 |53,_=>by kernel_rfl
 |54,_=>by kernel_rfl
 |55,_=>by kernel_rfl
 |56,_=>by kernel_rfl
 |57,_=>by kernel_rfl
 |58,_=>by kernel_rfl
 |59,_=>by kernel_rfl
 |60,_=>by kernel_rfl
 |61,_=>by kernel_rfl
 |62,_=>by kernel_rfl
 |63,_=>by kernel_rfl
 |64,_=>by kernel_rfl
 |65,_=>by kernel_rfl
 |66,_=>by kernel_rfl
 |67,_=>by kernel_rfl
 |68,_=>by kernel_rfl
 |69,_=>by kernel_rfl
 |70,_=>by kernel_rfl
 |71,_=>by kernel_rfl
 |72,_=>by kernel_rfl
 |73,_=>by kernel_rfl
 |74,_=>by kernel_rfl
 |75,_=>by kernel_rfl
 |76,_=>by kernel_rfl
 |77,_=>by kernel_rfl
 |78,_=>by kernel_rfl
 |79,_=>by kernel_rfl
 |80,_=>by kernel_rfl
 |81,_=>by kernel_rfl
 |82,_=>by kernel_rfl
 |83,_=>by kernel_rfl
 |84,_=>by kernel_rfl
 |85,_=>by kernel_rfl
 |86,_=>by kernel_rfl
 |87,_=>by kernel_rfl
 |88,_=>by kernel_rfl
 |89,_=>by kernel_rfl
 |90,_=>by kernel_rfl
 |91,_=>by kernel_rfl
 |92,_=>by kernel_rfl
 |93,_=>by kernel_rfl
 |94,_=>by kernel_rfl
 |95,_=>by kernel_rfl
 |i+96,h=>by omega
theorem coreC0_cells (a b c:Int) (sv:Value) (sc:List Int) (pc:Int):CoreCells (coreC0 a b c sv pc) (coreN a b c sc pc) (layN sv):=
 ⟨by kernel_rfl,by kernel_rfl,by kernel_rfl,by kernel_rfl,by kernel_rfl,by kernel_rfl,by kernel_rfl,by kernel_rfl,by kernel_rfl,by kernel_rfl,by kernel_rfl,by kernel_rfl,by kernel_rfl,by kernel_rfl,by kernel_rfl,by kernel_rfl,
  coreC0_hart a b c sv pc,coreC0_tab a b c sv pc,coreC0_names a b c sv pc,coreC0_words a b c sv pc,coreC0_there a b c sv pc⟩
theorem CoreCells.set_mem {cs:Array Value} {C:Core} {L:Lay} (h:CoreCells cs C L) (v:Value) (l:List Int):CoreCells (cs.setIfInBounds 39 (v)) { C with mem:=l } { L with mem:=v }:=
 ⟨(by simp [h.size]),(by rw [core_set h.size,if_neg (by omega)];exact h.window),(by rw [core_set h.size,if_neg (by omega)];exact h.phys),(by rw [core_set h.size,if_neg (by omega)];exact h.wide),(by rw [core_set h.size,if_neg (by omega)];exact h.commits),(by rw [core_set h.size,if_pos ⟨rfl,by omega⟩]),(by rw [core_set h.size,if_neg (by omega)];exact h.cycles),(by rw [core_set h.size,if_neg (by omega)];exact h.taken),(by rw [core_set h.size,if_neg (by omega)];exact h.backs),(by rw [core_set h.size,if_neg (by omega)];exact h.script),(by rw [core_set h.size,if_neg (by omega)];exact h.slots),(by rw [core_set h.size,if_neg (by omega)];exact h.ops),(by rw [core_set h.size,if_neg (by omega)];exact h.access),(by rw [core_set h.size,if_neg (by omega)];exact h.seq),(by rw [core_set h.size,if_neg (by omega)];exact h.pc),(by rw [core_set h.size,if_neg (by omega)];exact h.still),(fun i hi=>by rw [core_set h.size,if_neg (by omega)];exact h.hart i hi),(fun i hi=>by rw [core_set h.size,if_neg (by omega)];exact h.tab i hi),(fun i hi=>by rw [core_set h.size,if_neg (by omega)];exact h.names i hi),(fun i hi=>by rw [core_set h.size,if_neg (by omega)];exact h.words i hi),(fun i hi=>by rw [core_set h.size,if_neg (by omega)];exact h.there i hi)⟩
def shownCells (vc:Value) (H:Hart) (vm:Value) (cy tk bk:Int):Array Value:=(vc::(H.cells.toList++[vm, .int .i64 cy, .int .i64 tk, .int .i64 bk])).toArray
theorem shown_size (vc:Value) {H:Hart} (hl:H.regs.length=32) (vm:Value) (cy tk bk:Int):(shownCells vc H vm cy tk bk).size=40:=by
 unfold shownCells
 have:=Hart.cells_size hl
 simp [this]
theorem CoreCells.shownX {cs:Array Value} {C:Core} {L:Lay} (h:CoreCells cs C L) (hl:C.hart.regs.length=32):cs.extract 3 (3+40)=shownCells L.commits C.hart L.mem C.cycles C.taken C.backs:=by
 apply Array.ext_getElem?
 intro i
 have hz:=Hart.cells_size hl
 rw [Array.getElem?_extract]
 have es:(shownCells L.commits C.hart L.mem C.cycles C.taken C.backs)[i]? = (L.commits::(C.hart.cells.toList++[L.mem, .int .i64 C.cycles, .int .i64 C.taken, .int .i64 C.backs]))[i]? := by
  unfold shownCells
  simp
 rw [es]
 clear es
 by_cases hi:i<40
 ·rw [if_pos (by rw [h.size];omega)]
  match i,hi with
  |0,_=>exact h.commits
  |i+1,hi=>
   rw [List.getElem?_cons_succ]
   by_cases h35:i<35
   ·rw [List.getElem?_append_left (by simpa [hz] using h35),show 3+(i+1)=4+i by omega,h.hart i h35]
    simp
   ·rw [List.getElem?_append_right (by simp [hz];omega)]
    have e:C.hart.cells.toList.length=35:=by simp [hz]
    rw [e]
    obtain rfl | rfl | rfl | rfl:i=35∨i=36∨i=37∨i=38:=by omega
    ·exact h.mem
    ·exact h.cycles
    ·exact h.taken
    ·exact h.backs
 ·rw [if_neg (by omega),List.getElem?_eq_none (by simp [hz];omega)]
end Go.Proofs.Ytapgojgcmlnbgac
