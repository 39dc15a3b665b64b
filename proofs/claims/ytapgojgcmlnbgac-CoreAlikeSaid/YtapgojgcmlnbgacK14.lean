/- Parts of a proof. -/
import Derived.Test.YtapgojgcmlnbgacK11
import Derived.Test.YtapgojgcmlnbgacK00
import Derived.Test.YtapgojgcmlnbgacK12
import Derived.Test.YtapgojgcmlnbgacK13
set_option linter.unusedSimpArgs false
set_option linter.unusedVariables false
set_option maxRecDepth 100000
set_option maxHeartbeats 16000000
namespace Go.Proofs.Ytapgojgcmlnbgac
open Go.RowKit
theorem does_else (i:Ins) (h:Hart) (b o:Nat) (A:Option Addr) (cap:Nat) (m:List Int) (w:World) (hh:h.Wf) (ha0:0≤i.rs1) (ha1:i.rs1≤31) (hb0:0≤i.rs2) (hb1:i.rs2≤31) (hH:HartAt w b o h) (hl:m.length≤9223372036854775807) (hb:Bytes m) (hA:IntsAt w w.heap.size .u8 A m) (cA:¬ (11≤i.op∧i.op≤15)) (cB:¬ (16≤i.op∧i.op≤18)) (c48:¬ i.op=48) (c47:¬ i.op=47) (c46:¬ i.op=46) :
  Calls Try.prog 28 #[.agg i.cells, .pointer (some ⟨b,o,none⟩), .slice A m.length cap] w fun e w'=>e = .returned (.agg (doesP i h m).cells)∧Below w.heap.size w w':=by
 generalize hX:doesP i h m=X
 have HX:=Lib.hid hX
 clear hX
 have ra:=hh.reg i.rs1
 have rb:=hh.reg i.rs2
 have cr:=hH.reg
 have cpc:=hH.pc
 have zb:=hH.lt
 have hrd:∀ k:Nat,h.reg (k:Int)=h.regs.getD k 0:=fun k=>rfl
 have CG:=Lib.hid (fun W=>gives_any i W)
 have CR:=Lib.hid (fun W=>reckon_any i h.pc (h.reg i.rs1) (h.reg i.rs2) W ra.1 ra.2 rb.1 rb.2)
 obtain⟨op,rd,rs1,rs2,imm⟩:=i
 dsimp only at *
 obtain⟨r1,rfl⟩:=Int.eq_ofNat_of_zero_le ha0
 obtain⟨r2,rfl⟩:=Int.eq_ofNat_of_zero_le hb0
 have c1:=cr r1 (by omega)
 have c2:=cr r2 (by omega)
 have c17:=cr 17 (by omega)
 have c10:=cr 10 (by omega)
 have h17:=hrd 17
 have h10:=hrd 10
 rw [←hrd] at c1 c2 c17 c10
 clear cr hrd
 go_enter Try.func28,Try.ntmps28
 go_upto_region 1 with(fail)
 go_simp
 refine wp_gen fun wa hq=>?_
 have hB:Blk wa w.heap.size 68 #[.int .i64 op, .int .i64 rd, .int .i64 r1, .int .i64 r2, .int .i32 imm]:=by rw [hq];exact(Blk.new w _ _).alloc _
 have hR:Blk wa (w.heap.size+1) 65 #[.int .u32 0, .int .u32 0, .int .i64 0, .int .i64 0, .int .i64 0, .int .u32 0, .int .u32 0, .int .i64 0, .int .u32 0, .bool false, .int .u32 0]:=by rw [hq];exact Blk.newAt (w.alloc _) 65 _ (by simp)
 have hbl:Below w.heap.size w wa:=by rw [hq];exact((Below.refl _ _).alloc (Nat.le_refl _) _).alloc (by simp) _
 clear hq
 have zB:=hB.lt
 have zR:=hR.lt
 have hHa:=hH.ext hbl
 refine wp_region_below (by kernel_rfl) (by kernel_rfl) ?_
 repeat'(first
  |refine wpMix_plain rfl ?_
  |(refine' wpMixW_quiet _ (fun wq hwq K hK=>?_) ?_ ?_;rotate_left 1;(· have e1:=(hbl.trans (hwq.mono hbl.size)).cell (p:=⟨b,o+r1,none⟩) zb;rw [c1] at e1;have e2:=(hbl.trans (hwq.mono hbl.size)).cell (p:=⟨b,o+r2,none⟩) zb;rw [c2] at e2;have d2:=(hB.ext hwq).cell 2;have d3:=(hB.ext hwq).cell 3;go_wp2_with(fail);all_goals exact hK _ hwq);rfl)
  |((first | refine wpMix_guardT rfl rfl rfl ?_ ?_ | refine wpMix_guardF rfl rfl rfl ?_ ?_)<;>intro hc<;>first | (cases hc;done) | ((try cases hc);simp only [Act.put,sA,sS,sZ]))
  |refine wpMix_guardU rfl rfl rfl ?_)
 refine wpMix_nil ?_
 intro w4 hw4
 replace hbl:=hbl.trans (hw4.mono hbl.size)
 replace hB:=hB.ext hw4
 replace hR:=hR.ext hw4
 have hpcq:w4.cell? ⟨b,o+32,none⟩=some (.int .u32 h.pc):=(hbl.cell (p:=⟨b,o+32,none⟩) zb).trans cpc
 have built_c:Try.prog.built 65 [(0, .int .u32 h.pc),(1, .int .u32 ((h.pc+4)%4294967296))]=some #[.int .u32 h.pc, .int .u32 ((h.pc+4)%4294967296), .int .i64 0, .int .i64 0, .int .i64 0, .int .u32 0, .int .u32 0, .int .i64 0, .int .u32 0, .bool false, .int .u32 0]:=by kernel_rfl
 clear hw4 zB zR hHa
 have zb4:=Nat.lt_of_lt_of_le zb hbl.size
 go_upto_region 2 with(fail)
 try go_simp
 refine wp_region_ob 375 648 1023 [0,1,2,3,4,5,6,7,8,9,10,11] (by kernel_rfl) (by kernel_rfl) (by kernel_rfl) rfl ?_
 repeat'(first
  |refine oQ rfl rfl ?_
  |(refine' oE _ (by decide) (by decide) (fun wq K hK=>?_) ?_ ?_;rotate_left 1;(· go_wp2_with(fail);all_goals exact hK);rfl)
  |(refine' oR _ (by decide) (by decide) (by decide) (fun wq hwq K hK=>?_) ?_ ?_;rotate_left 1;(· have e1:=hwq.at_ zb4 hpcq;go_wp2_with(fail);all_goals exact hK);rfl)
  |((first | refine oT rfl rfl rfl rfl ?_ ?_ | refine oF rfl rfl rfl rfl ?_ ?_)<;>intro hc<;>first | (cases hc;done) | ((try cases hc);simp only [Act.put,sA,sS,sZ]))
  |refine oU rfl rfl rfl rfl ?_)
 refine wpOW_beside (by decide) (by decide) (by decide) (by kernel_rfl) (fun w1 hw1 K hK=>?_)
 have hbw:Below w4.heap.size w4 w1:=by rw [hw1];exact(Below.refl _ _).drew
 clear hw1
 replace hbl:=hbl.trans (hbw.mono hbl.size)
 replace hB:=hB.ext hbw
 replace hR:=hR.ext hbw
 clear hpcq
 go_wp2_with(fail)
 refine hK _ _ (hbw.alloc hbw.size _) ?_
 simp only [Act.put,sA,sS,sZ]
 clear hK K
 refine oQ rfl rfl ?_
 refine wpOW_solo (by decide) (by decide) (by decide) (by kernel_rfl) (fun wx hwx K hK=>?_)
 subst hwx
 have hgt:w.heap.size+1<w1.heap.size:=hR.lt
 have hC:=Blk.new w1 65 #[.int .u32 0, .int .u32 0, .int .i64 0, .int .i64 0, .int .i64 0, .int .u32 0, .int .u32 0, .int .i64 0, .int .u32 0, .bool false, .int .u32 0]
 replace hB:=hB.alloc (.cells #[.int .u32 0, .int .u32 0, .int .i64 0, .int .i64 0, .int .i64 0, .int .u32 0, .int .u32 0, .int .i64 0, .int .u32 0, .bool false, .int .u32 0] 65)
 replace hR:=hR.alloc (.cells #[.int .u32 0, .int .u32 0, .int .i64 0, .int .i64 0, .int .i64 0, .int .u32 0, .int .u32 0, .int .i64 0, .int .u32 0, .bool false, .int .u32 0] 65)
 have hs1:=hbl.size
 replace hbl:=hbl.alloc hbl.size (.cells #[.int .u32 0, .int .u32 0, .int .i64 0, .int .i64 0, .int .i64 0, .int .u32 0, .int .u32 0, .int .i64 0, .int .u32 0, .bool false, .int .u32 0] 65)
 refine wp_store_all 65 _ _ rfl w1.heap.size #[.int .u32 h.pc, .int .u32 ((h.pc+4)%4294967296), .int .i64 0, .int .i64 0, .int .i64 0, .int .u32 0, .int .u32 0, .int .i64 0, .int .u32 0, .bool false, .int .u32 0] rfl rfl 65 _ hC com_info rfl com_one ?_
 intro w5 hB5 hg5
 have hB1:=hB.grown hg5 (by simp;omega)
 have hR1:=hR.grown hg5 (by simp;omega)
 have hb1:=below_grown hbl hg5 hbl.size hs1
 refine hK _ _ (fun _=>True) trivial ?_
 simp only [Act.put,sA,sS,sZ]
 clear hK K hB hR hbl hs1 hC hg5 zb4 hbw built_c
 refine wpO_nil ?_
 rintro w6 rfl
 have hH6:=hH.ext hb1
 have hA6:IntsAt w6 w6.heap.size .u8 A m:=(hA.below hb1).mono hb1.size
 generalize w1.heap.size=g at *
 clear cpc c1 c2 c17 c10 hH hA
 have d0:=hB1.cell 0
 have d4:=hB1.cell 4
 have hat:u32 (h.reg r1+imm)=(h.reg r1+imm)%4294967296:=rfl
 obtain⟨at',hat'⟩:∃ x,x=(h.reg r1+imm)%4294967296:=⟨_,rfl⟩
 have at0:0≤at':=by omega
 have at1:at'≤4294967295:=by omega
 have Hat:=Lib.hid hat'
 have t11:(op==48)=false:=by simpa using c48
 have t12:(op==47)=false:=by simpa using c47
 have t13:(op != 46)=true:=by simpa using c46
 have e32:w6.cell? ⟨b,o+32,none⟩=some (.int .u32 h.pc):=hH6.pc
 have zb6:=hH6.lt
 have HX2:Hid (X=(⟨h.pc,(reckonP ⟨op,rd,r1,r2,imm⟩ h.pc (h.reg r1) (h.reg r2)).2,0,0,if givesP ⟨op,rd,r1,r2,imm⟩=true then rd else 0,if givesP ⟨op,rd,r1,r2,imm⟩=true then (reckonP ⟨op,rd,r1,r2,imm⟩ h.pc (h.reg r1) (h.reg r2)).1 else 0,0,0,0,false,0⟩:Com)):=by
  refine Lib.hid ?_
  rw [←HX.out]
  unfold doesP
  rw [if_neg cA,if_neg cB,if_neg c48,if_neg c47,if_neg c46]
 clear HX hat hat' Hat at0 at1
 generalize reckonP ⟨op,rd,r1,r2,imm⟩ h.pc (h.reg r1) (h.reg r2)=RK at *
 obtain⟨rv,rn⟩:=RK
 dsimp only at CR HX2
 have hlt6:w.heap.size<w6.heap.size:=hB1.lt
 by_cases clow:op<11
 focus
  have u1:decide (11≤op)=false:=decide_eq_false (by omega)
  have u2:decide (16≤op)=false:=decide_eq_false (by omega)
  clear cA cB c48 c47 c46 clow
  go_upto_region 25 with(fail)
  try go_simp
  clear u1 u2 t11 t12 t13
 rotate_left 1
 focus
  have u1:decide (11≤op)=true:=decide_eq_true (by omega)
  have u2:decide (op≤15)=false:=decide_eq_false (by omega)
  have u3:decide (16≤op)=true:=decide_eq_true (by omega)
  have u4:decide (op≤18)=false:=decide_eq_false (by omega)
  clear cA cB c48 c47 c46 clow
  go_upto_region 25 with(fail)
  try go_simp
  clear u1 u2 u3 u4 t11 t12 t13
 all_goals
  refine wp_region_ob 12142 17 12287 [0,1,2,3,4,5,6,7,8,9,10,11,12,13,14] (by kernel_rfl) (by kernel_rfl) (by kernel_rfl) rfl ?_
  repeat'(first
   |refine oQ rfl rfl ?_
   |(refine' oE _ (by decide) (by decide) (fun wq K hK=>?_) ?_ ?_;rotate_left 1;(· go_wp2_with(fail);all_goals exact hK);rfl)
   |(refine' oR _ (by decide) (by decide) (by decide) (fun wq hwq K hK=>?_) ?_ ?_;rotate_left 1;(· have e1:=hwq.at_ zb6 e32;first | (refine wp_load_all 68 _ rfl w.heap.size rfl 68 _ _ (hB1.ext hwq) Try.underlying68 rfl ins_info ?_;(simp only [Act.put,sA,sS,sZ]);exact hK) | (go_wp2_with(go_at_call 55;(with_reducible refine(CR.out _).mono ?_);rintro e w7 ⟨rfl,hb7⟩;replace hwq:=hwq.trans (hb7.mono hwq.size));all_goals exact hK));rfl)
   |(refine' oC _ (by decide) (by decide) (by decide) (fun wq hwq K hK=>?_) ?_ ?_;rotate_left 1;(· have e1:=hwq.at_ zb6 e32;first | (refine wp_load_all 68 _ rfl w.heap.size rfl 68 _ _ (hB1.ext hwq) Try.underlying68 rfl ins_info ?_;(simp only [Act.put,sA,sS,sZ]);exact hK) | (go_wp2_with(go_at_call 55;(with_reducible refine(CR.out _).mono ?_);rintro e w7 ⟨rfl,hb7⟩;replace hwq:=hwq.trans (hb7.mono hwq.size));all_goals exact hK _ hwq));rfl)
   |((first | refine oT rfl rfl rfl rfl ?_ ?_ | refine oF rfl rfl rfl rfl ?_ ?_)<;>intro hc<;>first | (cases hc;done) | ((try cases hc);simp only [Act.put,sA,sS,sZ]))
   |refine oU rfl rfl rfl rfl ?_)
  refine wpOW_solo (by decide) (by decide) (by decide) (by kernel_rfl) (fun w1 hbw K hK=>?_)
  replace hb1:=hb1.trans (hbw.mono hb1.size)
  replace hB1:=hB1.ext hbw
  replace hB5:=hB5.ext hbw
  replace hR1:=hR1.ext hbw
  have c5:=hB5.cell 5
  have f5:=hB5.frozen 5
  have c1:=hB5.cell 1
  have f1:=hB5.frozen 1
  go_wp2_with(fail)
  refine hK undef _ (fun _=>True) trivial ?_
  simp only [Act.put,sA,sS,sZ]
  clear hK K
  repeat'(first
   |refine oQ rfl rfl ?_
   |(refine' oE _ (by decide) (by decide) (fun wq K hK=>?_) ?_ ?_;rotate_left 1;(· go_wp2_with(fail);all_goals exact hK);rfl)
   |(refine' oC _ (by decide) (by decide) (by decide) (fun wq hwq K hK=>?_) ?_ ?_;rotate_left 1;(· go_wp2_with(fail);all_goals exact hK _ hwq);rfl)
   |((first | refine oT rfl rfl rfl rfl ?_ ?_ | refine oF rfl rfl rfl rfl ?_ ?_)<;>intro hc<;>first | (cases hc;done) | ((try cases hc);simp only [Act.put,sA,sS,sZ]))
   |refine oU rfl rfl rfl rfl ?_)
  refine wpOW_solo (by decide) (by decide) (by decide) (by kernel_rfl) (fun wx hwx K hK=>?_)
  subst hwx
  go_wp2_with(fail)
  refine hK undef _ (fun _=>True) trivial ?_
  simp only [Act.put,sA,sS,sZ]
  clear hK K
  refine wpO_nil ?_
  rintro wa hq
  have hC:Blk wa g 65 #[.int .u32 h.pc, .int .u32 rn, .int .i64 0, .int .i64 0, .int .i64 0, .int .u32 rv, .int .u32 0, .int .i64 0, .int .u32 0, .bool false, .int .u32 0]:=by rw [hq];exact(hB5.set 5 _).set 1 _
  have hBw:Blk wa w.heap.size 68 #[.int .i64 op, .int .i64 rd, .int .i64 r1, .int .i64 r2, .int .i32 imm]:=by rw [hq];exact(hB1.farAt (by omega) _).farAt (by omega) _
  have hRw:Blk wa (w.heap.size+1) 65 #[.int .u32 0, .int .u32 0, .int .i64 0, .int .i64 0, .int .i64 0, .int .u32 0, .int .u32 0, .int .i64 0, .int .u32 0, .bool false, .int .u32 0]:=by rw [hq];exact(hR1.farAt (by omega) _).farAt (by omega) _
  have hbl:Below w.heap.size w wa:=by rw [hq];exact below_set (by omega) (below_set (by omega) hb1)
  clear hq c5 c1 f5 f1 hB5 hB1 hR1 hb1 hA6 CR d0 d4 hH6 zb6 e32 hlt6 hbw
  generalize givesP ⟨op,rd,r1,r2,imm⟩=gv at *
  go_upto_region 26 with(fail)
  try go_simp
  rcases gv with _ | _
  ·obtain rfl:X=⟨h.pc,rn,0,0,0,0,0,0,0,false,0⟩:=HX2.out
   clear HX2
   go_upto_region 28 with(first
    |(refine wpList_load_all rfl 68 _ rfl w.heap.size rfl 68 _ _ hBw Try.underlying68 rfl ins_info ?_)
    |(go_at_call 39;(with_reducible refine(CG.out _).mono ?_);rintro e w7 ⟨rfl,hb7⟩;replace hC:=hC.ext hb7;replace hRw:=hRw.ext hb7;replace hBw:=hBw.ext hb7;replace hbl:=hbl.trans (hb7.mono hbl.size)))
   try go_simp
   have f5:=hC.frozen 5
   have c5:=hC.cell 5
   replace hRw:=hRw.farAt (b:=g) (off:=5) (Nat.ne_of_lt hgt) (.int .u32 0)
   replace hbl:=below_set (off:=5) (u := .int .u32 0) (Nat.le_trans (Nat.le_succ _) (Nat.le_of_lt hgt)) hbl
   replace hC:=hC.set 5 (.int .u32 0)
   go_wp2_with(first
    |(refine wpList_load_all rfl 65 _ rfl g rfl 65 _ _ hC Try.underlying65 rfl com_info ?_)
    |(refine wpList_store_all rfl 65 _ _ rfl (w.heap.size+1) (Com.mk h.pc rn 0 0 0 0 0 0 0 false 0).cells rfl rfl 65 _ hRw com_info rfl com_one ?_;intro w8 hB8 hg8))
   exact bodyPost_ret (v := .agg (Com.mk h.pc rn 0 0 0 0 0 0 0 false 0).cells) (results_blk rfl _ _ (w.heap.size+1) 65 _ _ rfl hB8 Try.underlying65 rfl com_info) rfl ⟨rfl,below_grown hbl hg8 hbl.size (Nat.le_succ _)⟩
  ·obtain rfl:X=⟨h.pc,rn,0,0,rd,rv,0,0,0,false,0⟩:=HX2.out
   clear HX2
   go_upto_region 27 with(first
    |(refine wpList_load_all rfl 68 _ rfl w.heap.size rfl 68 _ _ hBw Try.underlying68 rfl ins_info ?_)
    |(go_at_call 39;(with_reducible refine(CG.out _).mono ?_);rintro e w7 ⟨rfl,hb7⟩;replace hC:=hC.ext hb7;replace hRw:=hRw.ext hb7;replace hBw:=hBw.ext hb7;replace hbl:=hbl.trans (hb7.mono hbl.size)))
   try go_simp
   have f4:=hC.frozen 4
   have c4:=hC.cell 4
   have i1:=hBw.cell 1
   replace hRw:=hRw.farAt (b:=g) (off:=4) (Nat.ne_of_lt hgt) (.int .i64 rd)
   replace hbl:=below_set (off:=4) (u := .int .i64 rd) (Nat.le_trans (Nat.le_succ _) (Nat.le_of_lt hgt)) hbl
   replace hC:=hC.set 4 (.int .i64 rd)
   go_wp2_with(first
    |(refine wpList_load_all rfl 65 _ rfl g rfl 65 _ _ hC Try.underlying65 rfl com_info ?_)
    |(refine wpList_store_all rfl 65 _ _ rfl (w.heap.size+1) (Com.mk h.pc rn 0 0 rd rv 0 0 0 false 0).cells rfl rfl 65 _ hRw com_info rfl com_one ?_;intro w8 hB8 hg8))
   exact bodyPost_ret (v := .agg (Com.mk h.pc rn 0 0 rd rv 0 0 0 false 0).cells) (results_blk rfl _ _ (w.heap.size+1) 65 _ _ rfl hB8 Try.underlying65 rfl com_info) rfl ⟨rfl,below_grown hbl hg8 hbl.size (Nat.le_succ _)⟩
theorem does_any (i:Ins) (h:Hart) (b o:Nat) (A:Option Addr) (cap:Nat) (m:List Int) (w:World) (hh:h.Wf) (ha0:0≤i.rs1) (ha1:i.rs1≤31) (hb0:0≤i.rs2) (hb1:i.rs2≤31) (hH:HartAt w b o h) (hl:m.length≤9223372036854775807) (hb:Bytes m) (hA:IntsAt w w.heap.size .u8 A m) :
  Calls Try.prog 28 #[.agg i.cells, .pointer (some ⟨b,o,none⟩), .slice A m.length cap] w fun e w'=>e = .returned (.agg (doesP i h m).cells)∧Below w.heap.size w w':=by
 by_cases cA:11≤i.op∧i.op≤15
 ·exact does_load i h b o A cap m w hh ha0 ha1 hb0 hb1 hH hl hb hA cA
 by_cases cB:16≤i.op∧i.op≤18
 ·exact does_store i h b o A cap m w hh ha0 ha1 hb0 hb1 hH hl hb hA cA cB
 by_cases cS:i.op=48∨i.op=47∨i.op=46
 ·exact does_sys i h b o A cap m w hh ha0 ha1 hb0 hb1 hH hl hb hA cA cB cS
 exact does_else i h b o A cap m w hh ha0 ha1 hb0 hb1 hH hl hb hA cA cB (by omega) (by omega) (by omega)
theorem grownBy_refl (w:World) (row:Option Nat):w.grownBy w row:=⟨rfl,rfl,rfl,Nat.le_refl _,fun _ _ _=>rfl⟩
theorem grownBy_any {w w':World} (h:w.grownBy w' none) (row:Option Nat):w.grownBy w' row:=⟨h.os,h.tape,h.output,h.size,fun k hk _=>h.block k hk (by simp)⟩
theorem below_any {w w':World} (h:Below w.heap.size w w') (row:Option Nat):w.grownBy w' row:=grownBy_any (below_grownBy h) row
theorem grown_set (w:World) (p:Addr) (u:Value):w.grownBy (w.setCell p u) (some p.block):=
 ⟨rfl,rfl,rfl,by simp,fun k _ hne=>Below.heap_setCell w p u k (fun e=>hne (by rw [e]))⟩
def appC (hcs:Array Value) (ho:Nat) (c:Com):Array Value:=
 let l:=((hcs.setIfInBounds (ho+32) (.int .u32 c.next)).setIfInBounds (ho+33) (.int .i64 c.state)).setIfInBounds (ho+34) (.int .i64 c.cause)
 if 0<c.rd then l.setIfInBounds (ho+c.rd.toNat) (.int .u32 c.value) else l
theorem appC_size (hcs:Array Value) (ho:Nat) (c:Com):(appC hcs ho c).size=hcs.size:=by unfold appC;split<;>simp
theorem appC_hart (h:Hart) (c:Com) (hl:h.regs.length=32) (h0:0≤c.rd) (h1:c.rd≤31):appC h.cells 0 c=(applyH c h).cells:=by
 obtain⟨n,hn⟩:=Int.eq_ofNat_of_zero_le h0
 obtain⟨regs,pc,st,ca⟩:=h
 unfold appC applyH Hart.cells
 dsimp only at *
 rw [hn]
 by_cases hp:(0:Int)<(n:Int)
 ·rw [if_pos hp,if_pos hp]
  simp [List.setIfInBounds_toArray,List.set_append,hl,List.map_set]
  intro hx
  omega
 ·rw [if_neg hp,if_neg hp]
  simp [List.setIfInBounds_toArray,List.set_append,hl]
end Go.Proofs.Ytapgojgcmlnbgac
