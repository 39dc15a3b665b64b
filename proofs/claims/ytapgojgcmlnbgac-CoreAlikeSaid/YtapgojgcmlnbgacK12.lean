/- Parts of a proof. -/
import Derived.Test.YtapgojgcmlnbgacK11
set_option linter.unusedSimpArgs false
set_option linter.unusedVariables false
set_option maxRecDepth 100000
set_option maxHeartbeats 16000000
namespace Go.Proofs.Ytapgojgcmlnbgac
open Go.RowKit
theorem does_store (i:Ins) (h:Hart) (b o:Nat) (A:Option Addr) (cap:Nat) (m:List Int) (w:World) (hh:h.Wf) (ha0:0≤i.rs1) (ha1:i.rs1≤31) (hb0:0≤i.rs2) (hb1:i.rs2≤31) (hH:HartAt w b o h) (hl:m.length≤9223372036854775807) (hb:Bytes m) (hA:IntsAt w w.heap.size .u8 A m) (cA:¬ (11≤i.op∧i.op≤15)) (cB:16≤i.op∧i.op≤18) :
  Calls Try.prog 28 #[.agg i.cells, .pointer (some ⟨b,o,none⟩), .slice A m.length cap] w fun e w'=>e = .returned (.agg (doesP i h m).cells)∧Below w.heap.size w w':=by
 generalize hX:doesP i h m=X
 have HX:=Lib.hid hX
 clear hX
 have ra:=hh.reg i.rs1
 have rb:=hh.reg i.rs2
 have cr:=hH.reg
 have cpc:=hH.pc
 have zb:=hH.lt
 have hrd:∀ k:Nat,h.reg (k:Int)=h.regs.getD k 0:=fun k=>rfl
 have CG:=Lib.hid (fun W=>gives_any i W)
 have CR:=Lib.hid (fun W=>reckon_any i h.pc (h.reg i.rs1) (h.reg i.rs2) W ra.1 ra.2 rb.1 rb.2)
 obtain⟨op,rd,rs1,rs2,imm⟩:=i
 dsimp only at *
 obtain⟨r1,rfl⟩:=Int.eq_ofNat_of_zero_le ha0
 obtain⟨r2,rfl⟩:=Int.eq_ofNat_of_zero_le hb0
 have c1:=cr r1 (by omega)
 have c2:=cr r2 (by omega)
 have c17:=cr 17 (by omega)
 have c10:=cr 10 (by omega)
 have h17:=hrd 17
 have h10:=hrd 10
 rw [←hrd] at c1 c2 c17 c10
 clear cr hrd
 go_enter Try.func28,Try.ntmps28
 go_upto_region 1 with(fail)
 go_simp
 refine wp_gen fun wa hq=>?_
 have hB:Blk wa w.heap.size 68 #[.int .i64 op, .int .i64 rd, .int .i64 r1, .int .i64 r2, .int .i32 imm]:=by rw [hq];exact(Blk.new w _ _).alloc _
 have hR:Blk wa (w.heap.size+1) 65 #[.int .u32 0, .int .u32 0, .int .i64 0, .int .i64 0, .int .i64 0, .int .u32 0, .int .u32 0, .int .i64 0, .int .u32 0, .bool false, .int .u32 0]:=by rw [hq];exact Blk.newAt (w.alloc _) 65 _ (by simp)
 have hbl:Below w.heap.size w wa:=by rw [hq];exact((Below.refl _ _).alloc (Nat.le_refl _) _).alloc (by simp) _
 clear hq
 have zB:=hB.lt
 have zR:=hR.lt
 have hHa:=hH.ext hbl
 refine wp_region_below (by kernel_rfl) (by kernel_rfl) ?_
 repeat'(first
  |refine wpMix_plain rfl ?_
  |(refine' wpMixW_quiet _ (fun wq hwq K hK=>?_) ?_ ?_;rotate_left 1;(· have e1:=(hbl.trans (hwq.mono hbl.size)).cell (p:=⟨b,o+r1,none⟩) zb;rw [c1] at e1;have e2:=(hbl.trans (hwq.mono hbl.size)).cell (p:=⟨b,o+r2,none⟩) zb;rw [c2] at e2;have d2:=(hB.ext hwq).cell 2;have d3:=(hB.ext hwq).cell 3;go_wp2_with(fail);all_goals exact hK _ hwq);rfl)
  |((first | refine wpMix_guardT rfl rfl rfl ?_ ?_ | refine wpMix_guardF rfl rfl rfl ?_ ?_)<;>intro hc<;>first | (cases hc;done) | ((try cases hc);simp only [Act.put,sA,sS,sZ]))
  |refine wpMix_guardU rfl rfl rfl ?_)
 refine wpMix_nil ?_
 intro w4 hw4
 replace hbl:=hbl.trans (hw4.mono hbl.size)
 replace hB:=hB.ext hw4
 replace hR:=hR.ext hw4
 have hpcq:w4.cell? ⟨b,o+32,none⟩=some (.int .u32 h.pc):=(hbl.cell (p:=⟨b,o+32,none⟩) zb).trans cpc
 have built_c:Try.prog.built 65 [(0, .int .u32 h.pc),(1, .int .u32 ((h.pc+4)%4294967296))]=some #[.int .u32 h.pc, .int .u32 ((h.pc+4)%4294967296), .int .i64 0, .int .i64 0, .int .i64 0, .int .u32 0, .int .u32 0, .int .i64 0, .int .u32 0, .bool false, .int .u32 0]:=by kernel_rfl
 clear hw4 zB zR hHa
 have zb4:=Nat.lt_of_lt_of_le zb hbl.size
 go_upto_region 2 with(fail)
 try go_simp
 refine wp_region_ob 375 648 1023 [0,1,2,3,4,5,6,7,8,9,10,11] (by kernel_rfl) (by kernel_rfl) (by kernel_rfl) rfl ?_
 repeat'(first
  |refine oQ rfl rfl ?_
  |(refine' oE _ (by decide) (by decide) (fun wq K hK=>?_) ?_ ?_;rotate_left 1;(· go_wp2_with(fail);all_goals exact hK);rfl)
  |(refine' oR _ (by decide) (by decide) (by decide) (fun wq hwq K hK=>?_) ?_ ?_;rotate_left 1;(· have e1:=hwq.at_ zb4 hpcq;go_wp2_with(fail);all_goals exact hK);rfl)
  |((first | refine oT rfl rfl rfl rfl ?_ ?_ | refine oF rfl rfl rfl rfl ?_ ?_)<;>intro hc<;>first | (cases hc;done) | ((try cases hc);simp only [Act.put,sA,sS,sZ]))
  |refine oU rfl rfl rfl rfl ?_)
 refine wpOW_beside (by decide) (by decide) (by decide) (by kernel_rfl) (fun w1 hw1 K hK=>?_)
 have hbw:Below w4.heap.size w4 w1:=by rw [hw1];exact(Below.refl _ _).drew
 clear hw1
 replace hbl:=hbl.trans (hbw.mono hbl.size)
 replace hB:=hB.ext hbw
 replace hR:=hR.ext hbw
 clear hpcq
 go_wp2_with(fail)
 refine hK _ _ (hbw.alloc hbw.size _) ?_
 simp only [Act.put,sA,sS,sZ]
 clear hK K
 refine oQ rfl rfl ?_
 refine wpOW_solo (by decide) (by decide) (by decide) (by kernel_rfl) (fun wx hwx K hK=>?_)
 subst hwx
 have hgt:w.heap.size+1<w1.heap.size:=hR.lt
 have hC:=Blk.new w1 65 #[.int .u32 0, .int .u32 0, .int .i64 0, .int .i64 0, .int .i64 0, .int .u32 0, .int .u32 0, .int .i64 0, .int .u32 0, .bool false, .int .u32 0]
 replace hB:=hB.alloc (.cells #[.int .u32 0, .int .u32 0, .int .i64 0, .int .i64 0, .int .i64 0, .int .u32 0, .int .u32 0, .int .i64 0, .int .u32 0, .bool false, .int .u32 0] 65)
 replace hR:=hR.alloc (.cells #[.int .u32 0, .int .u32 0, .int .i64 0, .int .i64 0, .int .i64 0, .int .u32 0, .int .u32 0, .int .i64 0, .int .u32 0, .bool false, .int .u32 0] 65)
 have hs1:=hbl.size
 replace hbl:=hbl.alloc hbl.size (.cells #[.int .u32 0, .int .u32 0, .int .i64 0, .int .i64 0, .int .i64 0, .int .u32 0, .int .u32 0, .int .i64 0, .int .u32 0, .bool false, .int .u32 0] 65)
 refine wp_store_all 65 _ _ rfl w1.heap.size #[.int .u32 h.pc, .int .u32 ((h.pc+4)%4294967296), .int .i64 0, .int .i64 0, .int .i64 0, .int .u32 0, .int .u32 0, .int .i64 0, .int .u32 0, .bool false, .int .u32 0] rfl rfl 65 _ hC com_info rfl com_one ?_
 intro w5 hB5 hg5
 have hB1:=hB.grown hg5 (by simp;omega)
 have hR1:=hR.grown hg5 (by simp;omega)
 have hb1:=below_grown hbl hg5 hbl.size hs1
 refine hK _ _ (fun _=>True) trivial ?_
 simp only [Act.put,sA,sS,sZ]
 clear hK K hB hR hbl hs1 hC hg5 zb4 hbw built_c
 refine wpO_nil ?_
 rintro w6 rfl
 have hH6:=hH.ext hb1
 have hA6:IntsAt w6 w6.heap.size .u8 A m:=(hA.below hb1).mono hb1.size
 generalize w1.heap.size=g at *
 clear cpc c1 c2 c17 c10 hH hA
 have d0:=hB1.cell 0
 have d4:=hB1.cell 4
 have hat:u32 (h.reg r1+imm)=(h.reg r1+imm)%4294967296:=rfl
 obtain⟨at',hat'⟩:∃ x,x=(h.reg r1+imm)%4294967296:=⟨_,rfl⟩
 have at0:0≤at':=by omega
 have at1:at'≤4294967295:=by omega
 have Hat:=Lib.hid hat'
 obtain rfl | rfl | rfl:op=16∨op=17∨op=18:=by omega
 ·clear cB
  have CB:Hid (∀ W,Calls Try.prog 52 #[.int .i64 16] W fun e w'=>e = .returned (.int .i64 1)∧W=w'):=Lib.hid (fun W=>bytes_any 16 W (by decide))
  have CT:=Lib.hid (fun W=>there_any A m.length cap at' 1 W at0 at1 (by decide) (by decide) hl)
  have CW:=Lib.hid (fun W=>low_any (h.reg r2) 1 W (by decide) rb.1 rb.2)
  have HX2:Hid (X=if thereB m.length at' 1=true then (⟨h.pc,u32 (h.pc+4),0,0,0,0,at',1,lowI (h.reg r2) 1,false,0⟩:Com) else trapC h.pc 4):=by
   refine Lib.hid ?_
   rw [←HX.out,hat']
   rfl
  have hg0:givesP ⟨16,rd,r1,r2,imm⟩=false:=by simp [givesP]
  rw [hg0] at CG
  clear HX cA hg0
  generalize thereB m.length at' 1=ok at *
  generalize lowI (h.reg r2) 1=lw at *
  subst hat'
  rcases ok with _ | _
  ·obtain rfl:X=trapC h.pc 4:=HX2.out
   clear HX2 CG CR
   go_wp2_with(first
    |(go_at_call 50;(with_reducible refine(CL.out _ hA6).mono ?_);rintro e w2 ⟨rfl,rfl⟩)
    |(go_at_call 52;(with_reducible refine(CB.out _).mono ?_);rintro e w2 ⟨rfl,rfl⟩)
    |(go_at_call 53;(with_reducible refine(CT.out _).mono ?_);rintro e w2 ⟨rfl,rfl⟩)
    |(refine wpList_load_all rfl 65 _ rfl g rfl 65 _ _ hB5 Try.underlying65 rfl com_info ?_)
    |(go_at_call 51;(with_reducible refine(trap_any ⟨h.pc,(h.pc+4)%4294967296,0,0,0,0,0,0,0,false,0⟩ 4 _).mono ?_);rintro e w7 ⟨rfl,hb7⟩;replace hR1:=hR1.ext hb7;replace hb1:=hb1.trans (hb7.mono hb1.size))
    |(refine wpList_store_all rfl 65 _ _ rfl (w.heap.size+1) (trapC h.pc 4).cells rfl rfl 65 _ hR1 com_info rfl com_one ?_;intro w8 hB8 hg8))
   exact bodyPost_ret (v := .agg (trapC h.pc 4).cells) (results_blk rfl _ _ (w.heap.size+1) 65 _ _ rfl hB8 Try.underlying65 rfl com_info) rfl ⟨rfl,below_grown hb1 hg8 hb1.size (Nat.le_succ _)⟩
  ·obtain rfl:X=(⟨h.pc,u32 (h.pc+4),0,0,0,0,(h.reg r1+imm)%4294967296,1,lw,false,0⟩:Com):=HX2.out
   clear HX2 CR
   have c6:=hB5.cell 6
   have f6:=hB5.frozen 6
   have c7:=hB5.cell 7
   have f7:=hB5.frozen 7
   have c8:=hB5.cell 8
   have f8:=hB5.frozen 8
   go_upto_region 26 with(first
    |(go_at_call 52;(with_reducible refine(CB.out _).mono ?_);rintro e w2 ⟨rfl,rfl⟩)
    |(go_at_call 53;(with_reducible refine(CT.out _).mono ?_);rintro e w2 ⟨rfl,rfl⟩)
    |(go_at_call 54;(with_reducible refine(CW.out _).mono ?_);rintro e w2 ⟨rfl,rfl⟩))
   try go_simp
   refine kgen fun wa hq=>?_
   have hC:Blk wa g 65 #[.int .u32 h.pc, .int .u32 ((h.pc+4)%4294967296), .int .i64 0, .int .i64 0, .int .i64 0, .int .u32 0, .int .u32 ((h.reg r1+imm)%4294967296), .int .i64 1, .int .u32 lw, .bool false, .int .u32 0]:=by rw [hq];exact((hB5.set 6 _).set 7 _).set 8 _
   have hBw:Blk wa w.heap.size 68 #[.int .i64 16, .int .i64 rd, .int .i64 r1, .int .i64 r2, .int .i32 imm]:=by rw [hq];exact((hB1.farAt (by omega) _).farAt (by omega) _).farAt (by omega) _
   have hRw:Blk wa (w.heap.size+1) 65 #[.int .u32 0, .int .u32 0, .int .i64 0, .int .i64 0, .int .i64 0, .int .u32 0, .int .u32 0, .int .i64 0, .int .u32 0, .bool false, .int .u32 0]:=by rw [hq];exact((hR1.farAt (by omega) _).farAt (by omega) _).farAt (by omega) _
   have hbl:Below w.heap.size w wa:=by rw [hq];exact below_set (by omega) (below_set (by omega) (below_set (by omega) hb1))
   clear hq c6 f6 c7 f7 c8 f8 hB5 hB1 hR1 hb1 hH6 hA6 CB CT CW
   go_upto_region 28 with(first
    |(refine wpList_load_all rfl 68 _ rfl w.heap.size rfl 68 _ _ hBw Try.underlying68 rfl ins_info ?_)
    |(go_at_call 39;(with_reducible refine(CG.out _).mono ?_);rintro e w7 ⟨rfl,hb7⟩;replace hC:=hC.ext hb7;replace hRw:=hRw.ext hb7;replace hBw:=hBw.ext hb7;replace hbl:=hbl.trans (hb7.mono hbl.size)))
   try go_simp
   have f5:=hC.frozen 5
   have c5:=hC.cell 5
   replace hRw:=hRw.farAt (b:=g) (off:=5) (Nat.ne_of_lt hgt) (.int .u32 0)
   replace hbl:=below_set (off:=5) (u := .int .u32 0) (Nat.le_trans (Nat.le_succ _) (Nat.le_of_lt hgt)) hbl
   replace hC:=hC.set 5 (.int .u32 0)
   go_wp2_with(first
    |(refine wpList_load_all rfl 65 _ rfl g rfl 65 _ _ hC Try.underlying65 rfl com_info ?_)
    |(refine wpList_store_all rfl 65 _ _ rfl (w.heap.size+1) (Com.mk h.pc (u32 (h.pc+4)) 0 0 0 0 ((h.reg r1+imm)%4294967296) 1 lw false 0).cells rfl rfl 65 _ hRw com_info rfl com_one ?_;intro w8 hB8 hg8))
   exact bodyPost_ret (v := .agg (Com.mk h.pc (u32 (h.pc+4)) 0 0 0 0 ((h.reg r1+imm)%4294967296) 1 lw false 0).cells) (results_blk rfl _ _ (w.heap.size+1) 65 _ _ rfl hB8 Try.underlying65 rfl com_info) rfl ⟨rfl,below_grown hbl hg8 hbl.size (Nat.le_succ _)⟩
 ·clear cB
  have CB:Hid (∀ W,Calls Try.prog 52 #[.int .i64 17] W fun e w'=>e = .returned (.int .i64 2)∧W=w'):=Lib.hid (fun W=>bytes_any 17 W (by decide))
  have CT:=Lib.hid (fun W=>there_any A m.length cap at' 2 W at0 at1 (by decide) (by decide) hl)
  have CW:=Lib.hid (fun W=>low_any (h.reg r2) 2 W (by decide) rb.1 rb.2)
  have HX2:Hid (X=if thereB m.length at' 2=true then (⟨h.pc,u32 (h.pc+4),0,0,0,0,at',2,lowI (h.reg r2) 2,false,0⟩:Com) else trapC h.pc 4):=by
   refine Lib.hid ?_
   rw [←HX.out,hat']
   rfl
  have hg0:givesP ⟨17,rd,r1,r2,imm⟩=false:=by simp [givesP]
  rw [hg0] at CG
  clear HX cA hg0
  generalize thereB m.length at' 2=ok at *
  generalize lowI (h.reg r2) 2=lw at *
  subst hat'
  rcases ok with _ | _
  ·obtain rfl:X=trapC h.pc 4:=HX2.out
   clear HX2 CG CR
   go_wp2_with(first
    |(go_at_call 50;(with_reducible refine(CL.out _ hA6).mono ?_);rintro e w2 ⟨rfl,rfl⟩)
    |(go_at_call 52;(with_reducible refine(CB.out _).mono ?_);rintro e w2 ⟨rfl,rfl⟩)
    |(go_at_call 53;(with_reducible refine(CT.out _).mono ?_);rintro e w2 ⟨rfl,rfl⟩)
    |(refine wpList_load_all rfl 65 _ rfl g rfl 65 _ _ hB5 Try.underlying65 rfl com_info ?_)
    |(go_at_call 51;(with_reducible refine(trap_any ⟨h.pc,(h.pc+4)%4294967296,0,0,0,0,0,0,0,false,0⟩ 4 _).mono ?_);rintro e w7 ⟨rfl,hb7⟩;replace hR1:=hR1.ext hb7;replace hb1:=hb1.trans (hb7.mono hb1.size))
    |(refine wpList_store_all rfl 65 _ _ rfl (w.heap.size+1) (trapC h.pc 4).cells rfl rfl 65 _ hR1 com_info rfl com_one ?_;intro w8 hB8 hg8))
   exact bodyPost_ret (v := .agg (trapC h.pc 4).cells) (results_blk rfl _ _ (w.heap.size+1) 65 _ _ rfl hB8 Try.underlying65 rfl com_info) rfl ⟨rfl,below_grown hb1 hg8 hb1.size (Nat.le_succ _)⟩
  ·obtain rfl:X=(⟨h.pc,u32 (h.pc+4),0,0,0,0,(h.reg r1+imm)%4294967296,2,lw,false,0⟩:Com):=HX2.out
   clear HX2 CR
   have c6:=hB5.cell 6
   have f6:=hB5.frozen 6
   have c7:=hB5.cell 7
   have f7:=hB5.frozen 7
   have c8:=hB5.cell 8
   have f8:=hB5.frozen 8
   go_upto_region 26 with(first
    |(go_at_call 52;(with_reducible refine(CB.out _).mono ?_);rintro e w2 ⟨rfl,rfl⟩)
    |(go_at_call 53;(with_reducible refine(CT.out _).mono ?_);rintro e w2 ⟨rfl,rfl⟩)
    |(go_at_call 54;(with_reducible refine(CW.out _).mono ?_);rintro e w2 ⟨rfl,rfl⟩))
   try go_simp
   refine kgen fun wa hq=>?_
   have hC:Blk wa g 65 #[.int .u32 h.pc, .int .u32 ((h.pc+4)%4294967296), .int .i64 0, .int .i64 0, .int .i64 0, .int .u32 0, .int .u32 ((h.reg r1+imm)%4294967296), .int .i64 2, .int .u32 lw, .bool false, .int .u32 0]:=by rw [hq];exact((hB5.set 6 _).set 7 _).set 8 _
   have hBw:Blk wa w.heap.size 68 #[.int .i64 17, .int .i64 rd, .int .i64 r1, .int .i64 r2, .int .i32 imm]:=by rw [hq];exact((hB1.farAt (by omega) _).farAt (by omega) _).farAt (by omega) _
   have hRw:Blk wa (w.heap.size+1) 65 #[.int .u32 0, .int .u32 0, .int .i64 0, .int .i64 0, .int .i64 0, .int .u32 0, .int .u32 0, .int .i64 0, .int .u32 0, .bool false, .int .u32 0]:=by rw [hq];exact((hR1.farAt (by omega) _).farAt (by omega) _).farAt (by omega) _
   have hbl:Below w.heap.size w wa:=by rw [hq];exact below_set (by omega) (below_set (by omega) (below_set (by omega) hb1))
   clear hq c6 f6 c7 f7 c8 f8 hB5 hB1 hR1 hb1 hH6 hA6 CB CT CW
   go_upto_region 28 with(first
    |(refine wpList_load_all rfl 68 _ rfl w.heap.size rfl 68 _ _ hBw Try.underlying68 rfl ins_info ?_)
    |(go_at_call 39;(with_reducible refine(CG.out _).mono ?_);rintro e w7 ⟨rfl,hb7⟩;replace hC:=hC.ext hb7;replace hRw:=hRw.ext hb7;replace hBw:=hBw.ext hb7;replace hbl:=hbl.trans (hb7.mono hbl.size)))
   try go_simp
   have f5:=hC.frozen 5
   have c5:=hC.cell 5
   replace hRw:=hRw.farAt (b:=g) (off:=5) (Nat.ne_of_lt hgt) (.int .u32 0)
   replace hbl:=below_set (off:=5) (u := .int .u32 0) (Nat.le_trans (Nat.le_succ _) (Nat.le_of_lt hgt)) hbl
   replace hC:=hC.set 5 (.int .u32 0)
   go_wp2_with(first
    |(refine wpList_load_all rfl 65 _ rfl g rfl 65 _ _ hC Try.underlying65 rfl com_info ?_)
    |(refine wpList_store_all rfl 65 _ _ rfl (w.heap.size+1) (Com.mk h.pc (u32 (h.pc+4)) 0 0 0 0 ((h.reg r1+imm)%4294967296) 2 lw false 0).cells rfl rfl 65 _ hRw com_info rfl com_one ?_;intro w8 hB8 hg8))
   exact bodyPost_ret (v := .agg (Com.mk h.pc (u32 (h.pc+4)) 0 0 0 0 ((h.reg r1+imm)%4294967296) 2 lw false 0).cells) (results_blk rfl _ _ (w.heap.size+1) 65 _ _ rfl hB8 Try.underlying65 rfl com_info) rfl ⟨rfl,below_grown hbl hg8 hbl.size (Nat.le_succ _)⟩
 ·clear cB
  have CB:Hid (∀ W,Calls Try.prog 52 #[.int .i64 18] W fun e w'=>e = .returned (.int .i64 4)∧W=w'):=Lib.hid (fun W=>bytes_any 18 W (by decide))
  have CT:=Lib.hid (fun W=>there_any A m.length cap at' 4 W at0 at1 (by decide) (by decide) hl)
  have CW:=Lib.hid (fun W=>low_any (h.reg r2) 4 W (by decide) rb.1 rb.2)
  have HX2:Hid (X=if thereB m.length at' 4=true then (⟨h.pc,u32 (h.pc+4),0,0,0,0,at',4,lowI (h.reg r2) 4,false,0⟩:Com) else trapC h.pc 4):=by
   refine Lib.hid ?_
   rw [←HX.out,hat']
   rfl
  have hg0:givesP ⟨18,rd,r1,r2,imm⟩=false:=by simp [givesP]
  rw [hg0] at CG
  clear HX cA hg0
  generalize thereB m.length at' 4=ok at *
  generalize lowI (h.reg r2) 4=lw at *
  subst hat'
  rcases ok with _ | _
  ·obtain rfl:X=trapC h.pc 4:=HX2.out
   clear HX2 CG CR
   go_wp2_with(first
    |(go_at_call 50;(with_reducible refine(CL.out _ hA6).mono ?_);rintro e w2 ⟨rfl,rfl⟩)
    |(go_at_call 52;(with_reducible refine(CB.out _).mono ?_);rintro e w2 ⟨rfl,rfl⟩)
    |(go_at_call 53;(with_reducible refine(CT.out _).mono ?_);rintro e w2 ⟨rfl,rfl⟩)
    |(refine wpList_load_all rfl 65 _ rfl g rfl 65 _ _ hB5 Try.underlying65 rfl com_info ?_)
    |(go_at_call 51;(with_reducible refine(trap_any ⟨h.pc,(h.pc+4)%4294967296,0,0,0,0,0,0,0,false,0⟩ 4 _).mono ?_);rintro e w7 ⟨rfl,hb7⟩;replace hR1:=hR1.ext hb7;replace hb1:=hb1.trans (hb7.mono hb1.size))
    |(refine wpList_store_all rfl 65 _ _ rfl (w.heap.size+1) (trapC h.pc 4).cells rfl rfl 65 _ hR1 com_info rfl com_one ?_;intro w8 hB8 hg8))
   exact bodyPost_ret (v := .agg (trapC h.pc 4).cells) (results_blk rfl _ _ (w.heap.size+1) 65 _ _ rfl hB8 Try.underlying65 rfl com_info) rfl ⟨rfl,below_grown hb1 hg8 hb1.size (Nat.le_succ _)⟩
  ·obtain rfl:X=(⟨h.pc,u32 (h.pc+4),0,0,0,0,(h.reg r1+imm)%4294967296,4,lw,false,0⟩:Com):=HX2.out
   clear HX2 CR
   have c6:=hB5.cell 6
   have f6:=hB5.frozen 6
   have c7:=hB5.cell 7
   have f7:=hB5.frozen 7
   have c8:=hB5.cell 8
   have f8:=hB5.frozen 8
   go_upto_region 26 with(first
    |(go_at_call 52;(with_reducible refine(CB.out _).mono ?_);rintro e w2 ⟨rfl,rfl⟩)
    |(go_at_call 53;(with_reducible refine(CT.out _).mono ?_);rintro e w2 ⟨rfl,rfl⟩)
    |(go_at_call 54;(with_reducible refine(CW.out _).mono ?_);rintro e w2 ⟨rfl,rfl⟩))
   try go_simp
   refine kgen fun wa hq=>?_
   have hC:Blk wa g 65 #[.int .u32 h.pc, .int .u32 ((h.pc+4)%4294967296), .int .i64 0, .int .i64 0, .int .i64 0, .int .u32 0, .int .u32 ((h.reg r1+imm)%4294967296), .int .i64 4, .int .u32 lw, .bool false, .int .u32 0]:=by rw [hq];exact((hB5.set 6 _).set 7 _).set 8 _
   have hBw:Blk wa w.heap.size 68 #[.int .i64 18, .int .i64 rd, .int .i64 r1, .int .i64 r2, .int .i32 imm]:=by rw [hq];exact((hB1.farAt (by omega) _).farAt (by omega) _).farAt (by omega) _
   have hRw:Blk wa (w.heap.size+1) 65 #[.int .u32 0, .int .u32 0, .int .i64 0, .int .i64 0, .int .i64 0, .int .u32 0, .int .u32 0, .int .i64 0, .int .u32 0, .bool false, .int .u32 0]:=by rw [hq];exact((hR1.farAt (by omega) _).farAt (by omega) _).farAt (by omega) _
   have hbl:Below w.heap.size w wa:=by rw [hq];exact below_set (by omega) (below_set (by omega) (below_set (by omega) hb1))
   clear hq c6 f6 c7 f7 c8 f8 hB5 hB1 hR1 hb1 hH6 hA6 CB CT CW
   go_upto_region 28 with(first
    |(refine wpList_load_all rfl 68 _ rfl w.heap.size rfl 68 _ _ hBw Try.underlying68 rfl ins_info ?_)
    |(go_at_call 39;(with_reducible refine(CG.out _).mono ?_);rintro e w7 ⟨rfl,hb7⟩;replace hC:=hC.ext hb7;replace hRw:=hRw.ext hb7;replace hBw:=hBw.ext hb7;replace hbl:=hbl.trans (hb7.mono hbl.size)))
   try go_simp
   have f5:=hC.frozen 5
   have c5:=hC.cell 5
   replace hRw:=hRw.farAt (b:=g) (off:=5) (Nat.ne_of_lt hgt) (.int .u32 0)
   replace hbl:=below_set (off:=5) (u := .int .u32 0) (Nat.le_trans (Nat.le_succ _) (Nat.le_of_lt hgt)) hbl
   replace hC:=hC.set 5 (.int .u32 0)
   go_wp2_with(first
    |(refine wpList_load_all rfl 65 _ rfl g rfl 65 _ _ hC Try.underlying65 rfl com_info ?_)
    |(refine wpList_store_all rfl 65 _ _ rfl (w.heap.size+1) (Com.mk h.pc (u32 (h.pc+4)) 0 0 0 0 ((h.reg r1+imm)%4294967296) 4 lw false 0).cells rfl rfl 65 _ hRw com_info rfl com_one ?_;intro w8 hB8 hg8))
   exact bodyPost_ret (v := .agg (Com.mk h.pc (u32 (h.pc+4)) 0 0 0 0 ((h.reg r1+imm)%4294967296) 4 lw false 0).cells) (results_blk rfl _ _ (w.heap.size+1) 65 _ _ rfl hB8 Try.underlying65 rfl com_info) rfl ⟨rfl,below_grown hbl hg8 hbl.size (Nat.le_succ _)⟩
end Go.Proofs.Ytapgojgcmlnbgac
