/- Parts of a proof. -/
import Derived.Test.YtapgojgcmlnbgacK52
set_option linter.unusedSimpArgs false
set_option linter.unusedVariables false
set_option maxRecDepth 100000
set_option maxHeartbeats 16000000
namespace Go.Proofs.Ytapgojgcmlnbgac
open Go Go.RowKit
theorem coreAlike_no (a b c a' b' c':Int) (h:Hart) (A:Option Addr) (cap m:Nat) (A2:Option Addr) (cap2 k:Nat) (A3:Option Addr) (cap3 k':Nat) (n1 n2:Int) (X1 X2:Int) (Y1 Y2:Core) (w:World) (hh:h.regs.length=32) (hno:X1≠0∨X2≠0)
  (C1:∀ W,Below w.heap.size w W→Calls Try.prog 6 #[.agg #[.int .i64 a, .int .i64 b, .int .i64 c], .agg h.cells, .slice A m cap, .slice A2 k cap2, .int .i64 n1] W (RunAny W X1 Y1))
  (C2:∀ W,Below w.heap.size w W→Calls Try.prog 6 #[.agg #[.int .i64 a', .int .i64 b', .int .i64 c'], .agg h.cells, .slice A m cap, .slice A3 k' cap3, .int .i64 n2] W (RunAny W X2 Y2)) :
  Calls Try.prog 4 #[.agg #[.int .i64 a, .int .i64 b, .int .i64 c], .agg #[.int .i64 a', .int .i64 b', .int .i64 c'], .agg h.cells, .slice A m cap, .slice A2 k cap2, .slice A3 k' cap3, .int .i64 n1, .int .i64 n2] w fun e w'=>e = .returned (.bool true)∧Below w.heap.size w w':=by
 have CR1:=Lib.hid C1
 have CR2:=Lib.hid C2
 have HNO:=Lib.hid hno
 clear C1 C2 hno
 have hinfo:=hart_info hh
 go_enter Try.func4,Try.ntmps4
 go_upto_region 1 with(fail)
 go_simp
 refine wp_gen fun wa hq=>?_
 have hC:Blk wa w.heap.size 23 #[.int .i64 a, .int .i64 b, .int .i64 c]:=by rw [hq];exact((Blk.new w _ _).alloc _).alloc _
 have hD:Blk wa (w.heap.size+1) 23 #[.int .i64 a', .int .i64 b', .int .i64 c']:=by rw [hq];exact(Blk.newAt (w.alloc _) 23 _ (by simp)).alloc _
 have hH:Blk wa (w.heap.size+2) 27 h.cells:=by rw [hq];exact Blk.newAt ((w.alloc _).alloc _) 27 _ (by simp)
 have hbl:Below w.heap.size w wa:=by rw [hq];exact(((Below.refl _ _).alloc (Nat.le_refl _) _).alloc (by simp) _).alloc (by simp;omega) _
 clear hq
 go_upto_region 2 with(first
  |(refine wpList_load_all rfl 23 _ rfl (w.heap.size) rfl 23 _ _ hC Try.underlying23 rfl cfg_info ?_)
  |(refine wpList_load_all rfl 27 _ rfl (w.heap.size+1+1) rfl 27 _ _ hH Try.underlying27 rfl hinfo ?_)
  |(go_at_call 6;(with_reducible refine(CR1.out _ hbl).mono ?_);rintro e wq1 ⟨hbq1,Tq1,Aq1,nq1,cq1,AMq1,nMq1,cMq1,rfl,hfq1⟩;have HFq1:=Lib.hid hfq1;clear hfq1)
  |(refine wpList_store_all rfl 34 _ _ rfl wq1.heap.size Tq1 rfl rfl 34 _ (Blk.new wq1 _ _) (shown_info HFq1.out.1) (by rw [HFq1.out.1];rfl) HFq1.out.2.1 ?_;intro wr1 hXq1 hgq1))
 try go_simp
 have hb3q1:Below wq1.heap.size wq1 wr1:=((Below.refl wq1.heap.size wq1).alloc (Nat.le_refl _) (.cells shown0 34)).grown hgq1 (by simp) (fun k hk=>by cases hk;exact Nat.le_refl _)
 have hb2q1:=hbq1.trans (hb3q1.mono hbq1.size)
 have hzq1:=hb3q1.size
 have hz2q1:=hbq1.size
 replace hbl:=hbl.trans (hb2q1.mono hbl.size)
 replace hD:=hD.ext hb2q1
 replace hH:=hH.ext hb2q1
 clear hgq1 hbq1
 clear hC hb2q1 hb3q1 CR1
 go_upto_region 3 with(first
  |(refine wpList_load_all rfl 23 _ rfl (w.heap.size+1) rfl 23 _ _ hD Try.underlying23 rfl cfg_info ?_)
  |(refine wpList_load_all rfl 27 _ rfl (w.heap.size+1+1) rfl 27 _ _ hH Try.underlying27 rfl hinfo ?_)
  |(go_at_call 6;(with_reducible refine(CR2.out _ hbl).mono ?_);rintro e wq2 ⟨hbq2,Tq2,Aq2,nq2,cq2,AMq2,nMq2,cMq2,rfl,hfq2⟩;have HFq2:=Lib.hid hfq2;clear hfq2)
  |(refine wpList_store_all rfl 34 _ _ rfl wq2.heap.size Tq2 rfl rfl 34 _ (Blk.new wq2 _ _) (shown_info HFq2.out.1) (by rw [HFq2.out.1];rfl) HFq2.out.2.1 ?_;intro wr2 hXq2 hgq2))
 try go_simp
 have hb3q2:Below wq2.heap.size wq2 wr2:=((Below.refl wq2.heap.size wq2).alloc (Nat.le_refl _) (.cells shown0 34)).grown hgq2 (by simp) (fun k hk=>by cases hk;exact Nat.le_refl _)
 have hb2q2:=hbq2.trans (hb3q2.mono hbq2.size)
 have hzq2:=hb3q2.size
 have hz2q2:=hbq2.size
 replace hbl:=hbl.trans (hb2q2.mono hbl.size)
 replace hD:=hD.ext hb2q2
 replace hH:=hH.ext hb2q2
 clear hgq2 hbq2
 replace hXq1:=hXq1.ext hb2q2
 have k1:wr2.cell? ⟨wq1.heap.size,0,none⟩=some (.slice Aq1 nq1 cq1):=(hXq1.cell 0).trans HFq1.out.2.2.1
 have k2:wr2.cell? ⟨wq2.heap.size,0,none⟩=some (.slice Aq2 nq2 cq2):=(hXq2.cell 0).trans HFq2.out.2.2.1
 clear hb2q2 hb3q2 CR2 hH hD hinfo
 by_cases e1:X1=0
 ·have e2:X2≠0:=HNO.out.elim (fun h=>absurd e1 h) id
  obtain rfl:nq2=0:=HFq2.out.2.2.2.2.2.2.1 e2
  have t1:(X1 != 0)=false:=by simpa using e1
  have t2:(X2 != 0)=true:=by simpa using e2
  have t3:(X1==0)=true:=by simpa using e1
  clear e1 e2 HFq1 HFq2 HNO hXq1 hXq2
  by_cases e4:nq1=0
  ·subst e4
   go_wp2_with(fail)
   go_ret
   exact⟨rfl,hbl⟩
  ·have t4:((nq1:Int)==0)=false:=by simpa using e4
   clear e4
   go_wp2_with(fail)
   go_ret
   exact⟨rfl,hbl⟩
 ·obtain rfl:nq1=0:=HFq1.out.2.2.2.2.2.2.1 e1
  have t1:(X1 != 0)=true:=by simpa using e1
  clear e1 HFq1 HFq2 HNO hXq1 hXq2
  go_wp2_with(fail)
  go_ret
  exact⟨rfl,hbl⟩
theorem coreAlike_ok (a b c a' b' c':Int) (h:Hart) (A:Option Addr) (cap m:Nat) (A2:Option Addr) (cap2 k:Nat) (A3:Option Addr) (cap3 k':Nat) (n1 n2:Int) (Y1 Y2:Core) (few:Nat) (L R1 R2:List Com) (w:World) (hh:h.regs.length=32)
  (C1:∀ W,Below w.heap.size w W→Calls Try.prog 6 #[.agg #[.int .i64 a, .int .i64 b, .int .i64 c], .agg h.cells, .slice A m cap, .slice A2 k cap2, .int .i64 n1] W (RunAny W 0 Y1))
  (C2:∀ W,Below w.heap.size w W→Calls Try.prog 6 #[.agg #[.int .i64 a', .int .i64 b', .int .i64 c'], .agg h.cells, .slice A m cap, .slice A3 k' cap3, .int .i64 n2] W (RunAny W 0 Y2))
  (l1:Y1.commits=L++R1) (l2:Y2.commits=L++R2) (hf:L.length=few) (hmin:few=min Y1.commits.length Y2.commits.length) (hw:∀ c∈L,c.Wf) (hbig:few≤1000000) (hmem:Y1.mem.length=m) (hsome:n1<200∨h.state≠0∨0<Y1.commits.length) :
  Calls Try.prog 4 #[.agg #[.int .i64 a, .int .i64 b, .int .i64 c], .agg #[.int .i64 a', .int .i64 b', .int .i64 c'], .agg h.cells, .slice A m cap, .slice A2 k cap2, .slice A3 k' cap3, .int .i64 n1, .int .i64 n2] w fun e w'=>e = .returned (.bool true)∧Below w.heap.size w w':=by
 have CR1:=Lib.hid C1
 have CR2:=Lib.hid C2
 have HL1:=Lib.hid l1
 have HL2:=Lib.hid l2
 have HF:=Lib.hid hf
 have HMIN:=Lib.hid hmin
 have HW:=Lib.hid hw
 have HBIG:=Lib.hid hbig
 have HMEM:=Lib.hid hmem
 have HSOME:=Lib.hid hsome
 have hstate:=(Hart.cells_pc hh).2.1
 clear C1 C2 l1 l2 hf hmin hw hbig hmem hsome
 have hinfo:=hart_info hh
 go_enter Try.func4,Try.ntmps4
 go_upto_region 1 with(fail)
 go_simp
 refine wp_gen fun wa hq=>?_
 have hC:Blk wa w.heap.size 23 #[.int .i64 a, .int .i64 b, .int .i64 c]:=by rw [hq];exact((Blk.new w _ _).alloc _).alloc _
 have hD:Blk wa (w.heap.size+1) 23 #[.int .i64 a', .int .i64 b', .int .i64 c']:=by rw [hq];exact(Blk.newAt (w.alloc _) 23 _ (by simp)).alloc _
 have hH:Blk wa (w.heap.size+2) 27 h.cells:=by rw [hq];exact Blk.newAt ((w.alloc _).alloc _) 27 _ (by simp)
 have hbl:Below w.heap.size w wa:=by rw [hq];exact(((Below.refl _ _).alloc (Nat.le_refl _) _).alloc (by simp) _).alloc (by simp;omega) _
 clear hq
 go_upto_region 2 with(first
  |(refine wpList_load_all rfl 23 _ rfl (w.heap.size) rfl 23 _ _ hC Try.underlying23 rfl cfg_info ?_)
  |(refine wpList_load_all rfl 27 _ rfl (w.heap.size+1+1) rfl 27 _ _ hH Try.underlying27 rfl hinfo ?_)
  |(go_at_call 6;(with_reducible refine(CR1.out _ hbl).mono ?_);rintro e wq1 ⟨hbq1,Tq1,Aq1,nq1,cq1,AMq1,nMq1,cMq1,rfl,hfq1⟩;have HFq1:=Lib.hid hfq1;clear hfq1)
  |(refine wpList_store_all rfl 34 _ _ rfl wq1.heap.size Tq1 rfl rfl 34 _ (Blk.new wq1 _ _) (shown_info HFq1.out.1) (by rw [HFq1.out.1];rfl) HFq1.out.2.1 ?_;intro wr1 hXq1 hgq1))
 try go_simp
 have hb3q1:Below wq1.heap.size wq1 wr1:=((Below.refl wq1.heap.size wq1).alloc (Nat.le_refl _) (.cells shown0 34)).grown hgq1 (by simp) (fun k hk=>by cases hk;exact Nat.le_refl _)
 have hb2q1:=hbq1.trans (hb3q1.mono hbq1.size)
 have hzq1:=hb3q1.size
 have hz2q1:=hbq1.size
 replace hbl:=hbl.trans (hb2q1.mono hbl.size)
 replace hD:=hD.ext hb2q1
 replace hH:=hH.ext hb2q1
 clear hgq1 hbq1
 have hK1:=((HFq1.out.2.2.2.2.2.2.2 trivial).2.2.below hb3q1).mono hzq1
 clear hC hb2q1 hb3q1 CR1
 go_upto_region 3 with(first
  |(refine wpList_load_all rfl 23 _ rfl (w.heap.size+1) rfl 23 _ _ hD Try.underlying23 rfl cfg_info ?_)
  |(refine wpList_load_all rfl 27 _ rfl (w.heap.size+1+1) rfl 27 _ _ hH Try.underlying27 rfl hinfo ?_)
  |(go_at_call 6;(with_reducible refine(CR2.out _ hbl).mono ?_);rintro e wq2 ⟨hbq2,Tq2,Aq2,nq2,cq2,AMq2,nMq2,cMq2,rfl,hfq2⟩;have HFq2:=Lib.hid hfq2;clear hfq2)
  |(refine wpList_store_all rfl 34 _ _ rfl wq2.heap.size Tq2 rfl rfl 34 _ (Blk.new wq2 _ _) (shown_info HFq2.out.1) (by rw [HFq2.out.1];rfl) HFq2.out.2.1 ?_;intro wr2 hXq2 hgq2))
 try go_simp
 have hb3q2:Below wq2.heap.size wq2 wr2:=((Below.refl wq2.heap.size wq2).alloc (Nat.le_refl _) (.cells shown0 34)).grown hgq2 (by simp) (fun k hk=>by cases hk;exact Nat.le_refl _)
 have hb2q2:=hbq2.trans (hb3q2.mono hbq2.size)
 have hzq2:=hb3q2.size
 have hz2q2:=hbq2.size
 replace hbl:=hbl.trans (hb2q2.mono hbl.size)
 replace hD:=hD.ext hb2q2
 replace hH:=hH.ext hb2q2
 clear hgq2 hbq2
 have hK2:=((HFq2.out.2.2.2.2.2.2.2 trivial).2.2.below hb3q2).mono hzq2
 replace hK1:=(hK1.below hb2q2).mono hb2q2.size
 rw [HL1.out] at hK1
 rw [HL2.out] at hK2
 replace hK1:=hK1.front
 replace hK2:=hK2.front
 replace hXq1:=hXq1.ext hb2q2
 have k1:wr2.cell? ⟨wq1.heap.size,0,none⟩=some (.slice Aq1 nq1 cq1):=(hXq1.cell 0).trans HFq1.out.2.2.1
 have k2:wr2.cell? ⟨wq2.heap.size,0,none⟩=some (.slice Aq2 nq2 cq2):=(hXq2.cell 0).trans HFq2.out.2.2.1
 have km:wr2.cell? ⟨wq1.heap.size,36,none⟩=some (.slice AMq1 m cMq1):=by rw [←HMEM.out,←(HFq1.out.2.2.2.2.2.2.2 trivial).2.1];exact(hXq1.cell 36).trans HFq1.out.2.2.2.1
 have ks:wr2.cell? ⟨w.heap.size+2,33,none⟩=some (.int .i64 h.state):=(hH.cell 33).trans hstate
 have e1:nq1=Y1.commits.length:=(HFq1.out.2.2.2.2.2.2.2 trivial).1
 have e2:nq2=Y2.commits.length:=(HFq2.out.2.2.2.2.2.2.2 trivial).1
 have HA1:=Lib.hid HFq1.out.2.2.2.2.2.1
 have HA2:=Lib.hid HFq2.out.2.2.2.2.2.1
 have HF1:Hid (few≤cq1):=Lib.hid (by have:=HFq1.out.2.2.2.2.1;have:=HMIN.out;omega)
 have HF2:Hid (few≤cq2):=Lib.hid (by have:=HFq2.out.2.2.2.2.1;have:=HMIN.out;omega)
 have z1:=hXq1.lt
 have z2:=hXq2.lt
 have z3:=hH.lt
 have CS:Hid (∀ W,Below wr2.heap.size wr2 W→Calls Try.prog 7 #[.slice Aq1 few cq1, .slice Aq2 few cq2] W fun e w'=>e = .returned (.bool true)∧Below W.heap.size W w'):=Lib.hid (fun W hW=>by
  have h9:=msame_any Aq1 Aq2 cq1 cq2 L W (by rw [HF.out];exact HBIG.out) HW.out ((hK1.below hW).mono hW.size) ((hK2.below hW).mono hW.size)
  rw [HF.out] at h9
  exact h9)
 have HM:Hid (min (nq1:Int) (nq2:Int)=(few:Int)):=Lib.hid (by rw [HMIN.out,e1,e2];omega)
 have HS:Hid (n1<200∨h.state≠0∨0<nq1):=Lib.hid (by rw [e1];exact HSOME.out)
 clear e1 e2 hb2q2 hb3q2 CR2 hD hinfo hK1 hK2 HFq1 HFq2 hXq1 hXq2 hH hstate HL1 HL2 HF HMIN HW HBIG HMEM HSOME
 go_upto_region 6 with(fail)
 rw [HM.out]
 by_cases g1:n1<200
 ·have t1:decide (n1<200)=true:=decide_eq_true g1
  clear g1 HS HM
  refine wp_region_ob 8451520085 138414250 8589934591 [0,1,2,3,4,5,6,7,8,9,10,11,12,13,14,15,16,17,18,19,20,21,22,23,24,25,26,27,28,29,30,31,32] (by kernel_rfl) (by kernel_rfl) (by kernel_rfl) rfl ?_
  repeat'(first
   |refine oQ rfl rfl ?_
   |(refine' oE _ (by decide) (by decide) (fun wq K hK=>?_) ?_ ?_;rotate_left 1;(· go_wp2_with(fail);all_goals exact hK);rfl)
   |(refine' oR _ (by decide) (by decide) (by decide) (fun wq hwq K hK=>?_) ?_ ?_;rotate_left 1;(· have kc1:=hwq.at_ z1 k1;have kc2:=hwq.at_ z2 k2;have kcm:=hwq.at_ z1 km;have kcs:=hwq.at_ z3 ks;first | ((first | (refine wp_slice_h 32 _ _ rfl Aq1 nq1 cq1 few 11 rfl rfl coms_elem (coms_sizeOf _) HA1.out HF1.out ?_;exact hK) | (refine wp_slice_h 32 _ _ rfl Aq2 nq2 cq2 few 11 rfl rfl coms_elem (coms_sizeOf _) HA2.out HF2.out ?_;exact hK))) | (go_wp2_with(go_at_call 7;(with_reducible refine(CS.out _ hwq).mono ?_);rintro e w9 ⟨rfl,hb9⟩;exact hK _ (hwq.trans (hb9.mono hwq.size)));all_goals exact hK));rfl)
   |(refine' oC _ (by decide) (by decide) (by decide) (fun wq hwq K hK=>?_) ?_ ?_;rotate_left 1;(· have kc1:=hwq.at_ z1 k1;have kc2:=hwq.at_ z2 k2;have kcm:=hwq.at_ z1 km;have kcs:=hwq.at_ z3 ks;first | ((first | (refine wp_slice_h 32 _ _ rfl Aq1 nq1 cq1 few 11 rfl rfl coms_elem (coms_sizeOf _) HA1.out HF1.out ?_;exact hK) | (refine wp_slice_h 32 _ _ rfl Aq2 nq2 cq2 few 11 rfl rfl coms_elem (coms_sizeOf _) HA2.out HF2.out ?_;exact hK))) | (go_wp2_with(go_at_call 7;(with_reducible refine(CS.out _ hwq).mono ?_);rintro e w9 ⟨rfl,hb9⟩;exact hK _ (hwq.trans (hb9.mono hwq.size)));all_goals exact hK _ hwq));rfl)
   |((first | refine oT rfl rfl rfl rfl ?_ ?_ | refine oF rfl rfl rfl rfl ?_ ?_)<;>intro hc<;>first | (cases hc;done) | ((try cases hc);simp only [Act.put,sA,sS,sZ]))
   |(refine oU rfl rfl rfl rfl ?_;(try simp only [Act.put,sA,sS,sZ])))
  refine wpO_nil ?_
  intro w9 hw9
  replace hw9:Below wr2.heap.size wr2 w9:=by first | exact hw9 | (rw [hw9];exact(Below.refl _ _).drew)
  replace hbl:=hbl.trans (hw9.mono hbl.size)
  go_wp2_with(fail)
  go_ret
  exact⟨rfl,hbl⟩
 have t1:decide (n1<200)=false:=decide_eq_false g1
 by_cases g2:h.state=0
 ·have t2:(h.state != 0)=false:=by simpa using g2
  have g3:0<nq1:=by
   rcases HS.out with h9 | h9 | h9
   ·exact absurd h9 g1
   ·exact absurd g2 h9
   ·exact h9
  have t3:decide (0<nq1)=true:=decide_eq_true g3
  clear g1 g2 g3 HS HM
  refine wp_region_ob 8451520085 138414250 8589934591 [0,1,2,3,4,5,6,7,8,9,10,11,12,13,14,15,16,17,18,19,20,21,22,23,24,25,26,27,28,29,30,31,32] (by kernel_rfl) (by kernel_rfl) (by kernel_rfl) rfl ?_
  repeat'(first
   |refine oQ rfl rfl ?_
   |(refine' oE _ (by decide) (by decide) (fun wq K hK=>?_) ?_ ?_;rotate_left 1;(· go_wp2_with(fail);all_goals exact hK);rfl)
   |(refine' oR _ (by decide) (by decide) (by decide) (fun wq hwq K hK=>?_) ?_ ?_;rotate_left 1;(· have kc1:=hwq.at_ z1 k1;have kc2:=hwq.at_ z2 k2;have kcm:=hwq.at_ z1 km;have kcs:=hwq.at_ z3 ks;first | ((first | (refine wp_slice_h 32 _ _ rfl Aq1 nq1 cq1 few 11 rfl rfl coms_elem (coms_sizeOf _) HA1.out HF1.out ?_;exact hK) | (refine wp_slice_h 32 _ _ rfl Aq2 nq2 cq2 few 11 rfl rfl coms_elem (coms_sizeOf _) HA2.out HF2.out ?_;exact hK))) | (go_wp2_with(go_at_call 7;(with_reducible refine(CS.out _ hwq).mono ?_);rintro e w9 ⟨rfl,hb9⟩;exact hK _ (hwq.trans (hb9.mono hwq.size)));all_goals exact hK));rfl)
   |(refine' oC _ (by decide) (by decide) (by decide) (fun wq hwq K hK=>?_) ?_ ?_;rotate_left 1;(· have kc1:=hwq.at_ z1 k1;have kc2:=hwq.at_ z2 k2;have kcm:=hwq.at_ z1 km;have kcs:=hwq.at_ z3 ks;first | ((first | (refine wp_slice_h 32 _ _ rfl Aq1 nq1 cq1 few 11 rfl rfl coms_elem (coms_sizeOf _) HA1.out HF1.out ?_;exact hK) | (refine wp_slice_h 32 _ _ rfl Aq2 nq2 cq2 few 11 rfl rfl coms_elem (coms_sizeOf _) HA2.out HF2.out ?_;exact hK))) | (go_wp2_with(go_at_call 7;(with_reducible refine(CS.out _ hwq).mono ?_);rintro e w9 ⟨rfl,hb9⟩;exact hK _ (hwq.trans (hb9.mono hwq.size)));all_goals exact hK _ hwq));rfl)
   |((first | refine oT rfl rfl rfl rfl ?_ ?_ | refine oF rfl rfl rfl rfl ?_ ?_)<;>intro hc<;>first | (cases hc;done) | ((try cases hc);simp only [Act.put,sA,sS,sZ]))
   |(refine oU rfl rfl rfl rfl ?_;(try simp only [Act.put,sA,sS,sZ])))
  refine wpO_nil ?_
  intro w9 hw9
  replace hw9:Below wr2.heap.size wr2 w9:=by first | exact hw9 | (rw [hw9];exact(Below.refl _ _).drew)
  replace hbl:=hbl.trans (hw9.mono hbl.size)
  go_wp2_with(fail)
  go_ret
  exact⟨rfl,hbl⟩
 ·have t2:(h.state != 0)=true:=by simpa using g2
  clear g1 g2 HS HM
  refine wp_region_ob 8451520085 138414250 8589934591 [0,1,2,3,4,5,6,7,8,9,10,11,12,13,14,15,16,17,18,19,20,21,22,23,24,25,26,27,28,29,30,31,32] (by kernel_rfl) (by kernel_rfl) (by kernel_rfl) rfl ?_
  repeat'(first
   |refine oQ rfl rfl ?_
   |(refine' oE _ (by decide) (by decide) (fun wq K hK=>?_) ?_ ?_;rotate_left 1;(· go_wp2_with(fail);all_goals exact hK);rfl)
   |(refine' oR _ (by decide) (by decide) (by decide) (fun wq hwq K hK=>?_) ?_ ?_;rotate_left 1;(· have kc1:=hwq.at_ z1 k1;have kc2:=hwq.at_ z2 k2;have kcm:=hwq.at_ z1 km;have kcs:=hwq.at_ z3 ks;first | ((first | (refine wp_slice_h 32 _ _ rfl Aq1 nq1 cq1 few 11 rfl rfl coms_elem (coms_sizeOf _) HA1.out HF1.out ?_;exact hK) | (refine wp_slice_h 32 _ _ rfl Aq2 nq2 cq2 few 11 rfl rfl coms_elem (coms_sizeOf _) HA2.out HF2.out ?_;exact hK))) | (go_wp2_with(go_at_call 7;(with_reducible refine(CS.out _ hwq).mono ?_);rintro e w9 ⟨rfl,hb9⟩;exact hK _ (hwq.trans (hb9.mono hwq.size)));all_goals exact hK));rfl)
   |(refine' oC _ (by decide) (by decide) (by decide) (fun wq hwq K hK=>?_) ?_ ?_;rotate_left 1;(· have kc1:=hwq.at_ z1 k1;have kc2:=hwq.at_ z2 k2;have kcm:=hwq.at_ z1 km;have kcs:=hwq.at_ z3 ks;first | ((first | (refine wp_slice_h 32 _ _ rfl Aq1 nq1 cq1 few 11 rfl rfl coms_elem (coms_sizeOf _) HA1.out HF1.out ?_;exact hK) | (refine wp_slice_h 32 _ _ rfl Aq2 nq2 cq2 few 11 rfl rfl coms_elem (coms_sizeOf _) HA2.out HF2.out ?_;exact hK))) | (go_wp2_with(go_at_call 7;(with_reducible refine(CS.out _ hwq).mono ?_);rintro e w9 ⟨rfl,hb9⟩;exact hK _ (hwq.trans (hb9.mono hwq.size)));all_goals exact hK _ hwq));rfl)
   |((first | refine oT rfl rfl rfl rfl ?_ ?_ | refine oF rfl rfl rfl rfl ?_ ?_)<;>intro hc<;>first | (cases hc;done) | ((try cases hc);simp only [Act.put,sA,sS,sZ]))
   |(refine oU rfl rfl rfl rfl ?_;(try simp only [Act.put,sA,sS,sZ])))
  refine wpO_nil ?_
  intro w9 hw9
  replace hw9:Below wr2.heap.size wr2 w9:=by first | exact hw9 | (rw [hw9];exact(Below.refl _ _).drew)
  replace hbl:=hbl.trans (hw9.mono hbl.size)
  go_wp2_with(fail)
  go_ret
  exact⟨rfl,hbl⟩
end Go.Proofs.Ytapgojgcmlnbgac
