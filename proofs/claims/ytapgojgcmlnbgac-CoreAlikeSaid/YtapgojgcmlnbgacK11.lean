/- Parts of a proof. -/
import Derived.Test.YtapgojgcmlnbgacK09
import Derived.Test.YtapgojgcmlnbgacK10
set_option linter.unusedSimpArgs false
set_option linter.unusedVariables false
set_option maxRecDepth 100000
set_option maxHeartbeats 16000000
namespace Go.Proofs.Ytapgojgcmlnbgac
open Go.RowKit
theorem kgen {α β:Type} {K:α→β→Prop} {a:α} {w:β} (h:∀ w',w'=w→K a w'):K a w:=h w rfl
section
variable {P:Program} {w:World} {o:Oper} {a:Act} {Q:Exit→Act→World→Prop}
theorem wp_store_all {K:Act→World→Prop} (ty:TypeId) (x y:Operand) (ho:o.op = .store ty x y) (g:Nat) (cells:Array Value) (hx:a.eval x = .pointer (some ⟨g,0,none⟩)) (hy:a.eval y = .agg cells)
  (t:TypeId) (old:Array Value) (hg:Blk w g t old) (hi:(P.info? ty).map (·.size)=some cells.size) (hn:cells.size=old.size) (h1:cells.all (·.oneCell')=true)
  (h:∀ w',Blk w' g t cells→w.grownBy w' (some g)→K (a.put o.dst undef) w'):o.wp P a w K Q:=
 wp_store_blk ty x y ho g 0 cells hx hy t old hg hi (by omega) h1 fun w' h2 h3=>h w' (by rwa [splice_whole _ _ hn] at h2) h3
end
structure HartAt (w:World) (b o:Nat) (h:Hart):Prop where
 lt:b<w.heap.size
 reg:∀ i,i<32→w.cell? ⟨b,o+i,none⟩=some (.int .u32 (h.regs.getD i 0))
 pc:w.cell? ⟨b,o+32,none⟩=some (.int .u32 h.pc)
 st:w.cell? ⟨b,o+33,none⟩=some (.int .i64 h.state)
 ca:w.cell? ⟨b,o+34,none⟩=some (.int .i64 h.cause)
theorem HartAt.below {w w':World} {B b o:Nat} {h:Hart} (hh:HartAt w b o h) (hb:Below B w w') (hB:b<B):HartAt w' b o h:=
 ⟨Nat.lt_of_lt_of_le hh.lt hb.size,fun i hi=>(hb.cell (p:=⟨b,o+i,none⟩) hB).trans (hh.reg i hi),(hb.cell (p:=⟨b,o+32,none⟩) hB).trans hh.pc,(hb.cell (p:=⟨b,o+33,none⟩) hB).trans hh.st,(hb.cell (p:=⟨b,o+34,none⟩) hB).trans hh.ca⟩
theorem HartAt.ext {w w':World} {b o:Nat} {h:Hart} (hh:HartAt w b o h) (hb:Below w.heap.size w w'):HartAt w' b o h:=hh.below hb hh.lt
theorem HartAt.of_blk {w:World} {b:Nat} {h:Hart} {t:TypeId} (hl:h.regs.length=32) (hB:Blk w b t h.cells):HartAt w b 0 h:=by
 obtain⟨c1,c2,c3⟩:=Hart.cells_pc hl
 refine⟨hB.lt,fun i hi=>?_,(hB.cell _).trans c1,(hB.cell _).trans c2,(hB.cell _).trans c3⟩
 rw [Nat.zero_add]
 exact(hB.cell i).trans (Hart.cells_reg (by omega))
theorem does_load (i:Ins) (h:Hart) (b o:Nat) (A:Option Addr) (cap:Nat) (m:List Int) (w:World) (hh:h.Wf) (ha0:0≤i.rs1) (ha1:i.rs1≤31) (hb0:0≤i.rs2) (hb1:i.rs2≤31) (hH:HartAt w b o h) (hl:m.length≤9223372036854775807) (hb:Bytes m) (hA:IntsAt w w.heap.size .u8 A m) (cA:11≤i.op∧i.op≤15) :
  Calls Try.prog 28 #[.agg i.cells, .pointer (some ⟨b,o,none⟩), .slice A m.length cap] w fun e w'=>e = .returned (.agg (doesP i h m).cells)∧Below w.heap.size w w':=by
 generalize hX:doesP i h m=X
 have HX:=Lib.hid hX
 clear hX
 have ra:=hh.reg i.rs1
 have rb:=hh.reg i.rs2
 have cr:=hH.reg
 have cpc:=hH.pc
 have zb:=hH.lt
 have hrd:∀ k:Nat,h.reg (k:Int)=h.regs.getD k 0:=fun k=>rfl
 have CG:=Lib.hid (fun W=>gives_any i W)
 have CR:=Lib.hid (fun W=>reckon_any i h.pc (h.reg i.rs1) (h.reg i.rs2) W ra.1 ra.2 rb.1 rb.2)
 obtain⟨op,rd,rs1,rs2,imm⟩:=i
 dsimp only at *
 obtain⟨r1,rfl⟩:=Int.eq_ofNat_of_zero_le ha0
 obtain⟨r2,rfl⟩:=Int.eq_ofNat_of_zero_le hb0
 have c1:=cr r1 (by omega)
 have c2:=cr r2 (by omega)
 have c17:=cr 17 (by omega)
 have c10:=cr 10 (by omega)
 have h17:=hrd 17
 have h10:=hrd 10
 rw [←hrd] at c1 c2 c17 c10
 clear cr hrd
 go_enter Try.func28,Try.ntmps28
 go_upto_region 1 with(fail)
 go_simp
 refine wp_gen fun wa hq=>?_
 have hB:Blk wa w.heap.size 68 #[.int .i64 op, .int .i64 rd, .int .i64 r1, .int .i64 r2, .int .i32 imm]:=by rw [hq];exact(Blk.new w _ _).alloc _
 have hR:Blk wa (w.heap.size+1) 65 #[.int .u32 0, .int .u32 0, .int .i64 0, .int .i64 0, .int .i64 0, .int .u32 0, .int .u32 0, .int .i64 0, .int .u32 0, .bool false, .int .u32 0]:=by rw [hq];exact Blk.newAt (w.alloc _) 65 _ (by simp)
 have hbl:Below w.heap.size w wa:=by rw [hq];exact((Below.refl _ _).alloc (Nat.le_refl _) _).alloc (by simp) _
 clear hq
 have zB:=hB.lt
 have zR:=hR.lt
 have hHa:=hH.ext hbl
 refine wp_region_below (by kernel_rfl) (by kernel_rfl) ?_
 repeat'(first
  |refine wpMix_plain rfl ?_
  |(refine' wpMixW_quiet _ (fun wq hwq K hK=>?_) ?_ ?_;rotate_left 1;(· have e1:=(hbl.trans (hwq.mono hbl.size)).cell (p:=⟨b,o+r1,none⟩) zb;rw [c1] at e1;have e2:=(hbl.trans (hwq.mono hbl.size)).cell (p:=⟨b,o+r2,none⟩) zb;rw [c2] at e2;have d2:=(hB.ext hwq).cell 2;have d3:=(hB.ext hwq).cell 3;go_wp2_with(fail);all_goals exact hK _ hwq);rfl)
  |((first | refine wpMix_guardT rfl rfl rfl ?_ ?_ | refine wpMix_guardF rfl rfl rfl ?_ ?_)<;>intro hc<;>first | (cases hc;done) | ((try cases hc);simp only [Act.put,sA,sS,sZ]))
  |refine wpMix_guardU rfl rfl rfl ?_)
 refine wpMix_nil ?_
 intro w4 hw4
 replace hbl:=hbl.trans (hw4.mono hbl.size)
 replace hB:=hB.ext hw4
 replace hR:=hR.ext hw4
 have hpcq:w4.cell? ⟨b,o+32,none⟩=some (.int .u32 h.pc):=(hbl.cell (p:=⟨b,o+32,none⟩) zb).trans cpc
 have built_c:Try.prog.built 65 [(0, .int .u32 h.pc),(1, .int .u32 ((h.pc+4)%4294967296))]=some #[.int .u32 h.pc, .int .u32 ((h.pc+4)%4294967296), .int .i64 0, .int .i64 0, .int .i64 0, .int .u32 0, .int .u32 0, .int .i64 0, .int .u32 0, .bool false, .int .u32 0]:=by kernel_rfl
 clear hw4 zB zR hHa
 have zb4:=Nat.lt_of_lt_of_le zb hbl.size
 go_upto_region 2 with(fail)
 try go_simp
 refine wp_region_ob 375 648 1023 [0,1,2,3,4,5,6,7,8,9,10,11] (by kernel_rfl) (by kernel_rfl) (by kernel_rfl) rfl ?_
 repeat'(first
  |refine oQ rfl rfl ?_
  |(refine' oE _ (by decide) (by decide) (fun wq K hK=>?_) ?_ ?_;rotate_left 1;(· go_wp2_with(fail);all_goals exact hK);rfl)
  |(refine' oR _ (by decide) (by decide) (by decide) (fun wq hwq K hK=>?_) ?_ ?_;rotate_left 1;(· have e1:=hwq.at_ zb4 hpcq;go_wp2_with(fail);all_goals exact hK);rfl)
  |((first | refine oT rfl rfl rfl rfl ?_ ?_ | refine oF rfl rfl rfl rfl ?_ ?_)<;>intro hc<;>first | (cases hc;done) | ((try cases hc);simp only [Act.put,sA,sS,sZ]))
  |refine oU rfl rfl rfl rfl ?_)
 refine wpOW_beside (by decide) (by decide) (by decide) (by kernel_rfl) (fun w1 hw1 K hK=>?_)
 have hbw:Below w4.heap.size w4 w1:=by rw [hw1];exact(Below.refl _ _).drew
 clear hw1
 replace hbl:=hbl.trans (hbw.mono hbl.size)
 replace hB:=hB.ext hbw
 replace hR:=hR.ext hbw
 clear hpcq
 go_wp2_with(fail)
 refine hK _ _ (hbw.alloc hbw.size _) ?_
 simp only [Act.put,sA,sS,sZ]
 clear hK K
 refine oQ rfl rfl ?_
 refine wpOW_solo (by decide) (by decide) (by decide) (by kernel_rfl) (fun wx hwx K hK=>?_)
 subst hwx
 have hgt:w.heap.size+1<w1.heap.size:=hR.lt
 have hC:=Blk.new w1 65 #[.int .u32 0, .int .u32 0, .int .i64 0, .int .i64 0, .int .i64 0, .int .u32 0, .int .u32 0, .int .i64 0, .int .u32 0, .bool false, .int .u32 0]
 replace hB:=hB.alloc (.cells #[.int .u32 0, .int .u32 0, .int .i64 0, .int .i64 0, .int .i64 0, .int .u32 0, .int .u32 0, .int .i64 0, .int .u32 0, .bool false, .int .u32 0] 65)
 replace hR:=hR.alloc (.cells #[.int .u32 0, .int .u32 0, .int .i64 0, .int .i64 0, .int .i64 0, .int .u32 0, .int .u32 0, .int .i64 0, .int .u32 0, .bool false, .int .u32 0] 65)
 have hs1:=hbl.size
 replace hbl:=hbl.alloc hbl.size (.cells #[.int .u32 0, .int .u32 0, .int .i64 0, .int .i64 0, .int .i64 0, .int .u32 0, .int .u32 0, .int .i64 0, .int .u32 0, .bool false, .int .u32 0] 65)
 refine wp_store_all 65 _ _ rfl w1.heap.size #[.int .u32 h.pc, .int .u32 ((h.pc+4)%4294967296), .int .i64 0, .int .i64 0, .int .i64 0, .int .u32 0, .int .u32 0, .int .i64 0, .int .u32 0, .bool false, .int .u32 0] rfl rfl 65 _ hC com_info rfl com_one ?_
 intro w5 hB5 hg5
 have hB1:=hB.grown hg5 (by simp;omega)
 have hR1:=hR.grown hg5 (by simp;omega)
 have hb1:=below_grown hbl hg5 hbl.size hs1
 refine hK _ _ (fun _=>True) trivial ?_
 simp only [Act.put,sA,sS,sZ]
 clear hK K hB hR hbl hs1 hC hg5 zb4 hbw built_c
 refine wpO_nil ?_
 rintro w6 rfl
 have hH6:=hH.ext hb1
 have hA6:IntsAt w6 w6.heap.size .u8 A m:=(hA.below hb1).mono hb1.size
 generalize w1.heap.size=g at *
 clear cpc c1 c2 c17 c10 hH hA
 have d0:=hB1.cell 0
 have d4:=hB1.cell 4
 have hat:u32 (h.reg r1+imm)=(h.reg r1+imm)%4294967296:=rfl
 obtain⟨at',hat'⟩:∃ x,x=(h.reg r1+imm)%4294967296:=⟨_,rfl⟩
 have at0:0≤at':=by omega
 have at1:at'≤4294967295:=by omega
 have Hat:=Lib.hid hat'
 have t1:decide (11≤op)=true:=decide_eq_true cA.1
 have t2:decide (op≤15)=true:=decide_eq_true cA.2
 have CL:=Lib.hid (fun W hW=>load_any A cap m op at' W at0 at1 hl hb hW)
 have HX2:Hid (X=if (loadP m op at').2=true then (⟨h.pc,u32 (h.pc+4),0,0,if givesP ⟨op,rd,r1,r2,imm⟩=true then rd else 0,if givesP ⟨op,rd,r1,r2,imm⟩=true then (loadP m op at').1 else 0,0,0,0,false,0⟩:Com) else trapC h.pc 3):=by
  refine Lib.hid ?_
  rw [←HX.out]
  unfold doesP
  rw [if_pos cA]
  dsimp only
  rw [hat,←hat']
 clear HX cA
 generalize loadP m op at'=L at *
 obtain⟨x,ok⟩:=L
 dsimp only at CL HX2
 subst hat'
 rcases ok with _ | _
 ·have hX:X=trapC h.pc 3:=HX2.out
  subst hX
  clear HX2 CG CR
  go_wp2_with(first
   |(go_at_call 50;(with_reducible refine(CL.out _ hA6).mono ?_);rintro e w2 ⟨rfl,rfl⟩)
   |(go_at_call 52;(with_reducible refine(CB.out _).mono ?_);rintro e w2 ⟨rfl,rfl⟩)
   |(go_at_call 53;(with_reducible refine(CT.out _).mono ?_);rintro e w2 ⟨rfl,rfl⟩)
   |(refine wpList_load_all rfl 65 _ rfl g rfl 65 _ _ hB5 Try.underlying65 rfl com_info ?_)
   |(go_at_call 51;(with_reducible refine(trap_any ⟨h.pc,(h.pc+4)%4294967296,0,0,0,0,0,0,0,false,0⟩ 3 _).mono ?_);rintro e w7 ⟨rfl,hb7⟩;replace hR1:=hR1.ext hb7;replace hb1:=hb1.trans (hb7.mono hb1.size))
   |(refine wpList_store_all rfl 65 _ _ rfl (w.heap.size+1) (trapC h.pc 3).cells rfl rfl 65 _ hR1 com_info rfl com_one ?_;intro w8 hB8 hg8))
  exact bodyPost_ret (v := .agg (trapC h.pc 3).cells) (results_blk rfl _ _ (w.heap.size+1) 65 _ _ rfl hB8 Try.underlying65 rfl com_info) rfl ⟨rfl,below_grown hb1 hg8 hb1.size (Nat.le_succ _)⟩
 ·have HX3:Hid (X=(⟨h.pc,u32 (h.pc+4),0,0,if givesP ⟨op,rd,r1,r2,imm⟩=true then rd else 0,if givesP ⟨op,rd,r1,r2,imm⟩=true then x else 0,0,0,0,false,0⟩:Com)):=HX2
  clear HX2 CR
  have c5:=hB5.cell 5
  have f5:=hB5.frozen 5
  go_upto_region 26 with(go_at_call 50;(with_reducible refine(CL.out _ hA6).mono ?_);rintro e w2 ⟨rfl,rfl⟩)
  try go_simp
  refine kgen fun wa hq=>?_
  have hC:Blk wa g 65 #[.int .u32 h.pc, .int .u32 ((h.pc+4)%4294967296), .int .i64 0, .int .i64 0, .int .i64 0, .int .u32 x, .int .u32 0, .int .i64 0, .int .u32 0, .bool false, .int .u32 0]:=by rw [hq];exact hB5.set 5 _
  have hBw:Blk wa w.heap.size 68 #[.int .i64 op, .int .i64 rd, .int .i64 r1, .int .i64 r2, .int .i32 imm]:=by rw [hq];exact hB1.farAt (by omega) _
  have hRw:Blk wa (w.heap.size+1) 65 #[.int .u32 0, .int .u32 0, .int .i64 0, .int .i64 0, .int .i64 0, .int .u32 0, .int .u32 0, .int .i64 0, .int .u32 0, .bool false, .int .u32 0]:=by rw [hq];exact hR1.farAt (by omega) _
  have hbl:Below w.heap.size w wa:=by rw [hq];exact below_set (by omega) hb1
  clear hq c5 f5 hB5 hB1 hR1 hb1 hH6 hA6 CL t1 t2
  generalize givesP ⟨op,rd,r1,r2,imm⟩=gv at *
  rcases gv with _ | _
  ·obtain rfl:X=⟨h.pc,u32 (h.pc+4),0,0,0,0,0,0,0,false,0⟩:=HX3.out
   clear HX3
   go_upto_region 28 with(first
    |(refine wpList_load_all rfl 68 _ rfl w.heap.size rfl 68 _ _ hBw Try.underlying68 rfl ins_info ?_)
    |(go_at_call 39;(with_reducible refine(CG.out _).mono ?_);rintro e w7 ⟨rfl,hb7⟩;replace hC:=hC.ext hb7;replace hRw:=hRw.ext hb7;replace hBw:=hBw.ext hb7;replace hbl:=hbl.trans (hb7.mono hbl.size)))
   try go_simp
   have f5:=hC.frozen 5
   have c5:=hC.cell 5
   replace hRw:=hRw.farAt (b:=g) (off:=5) (Nat.ne_of_lt hgt) (.int .u32 0)
   replace hbl:=below_set (off:=5) (u := .int .u32 0) (Nat.le_trans (Nat.le_succ _) (Nat.le_of_lt hgt)) hbl
   replace hC:=hC.set 5 (.int .u32 0)
   go_wp2_with(first
    |(refine wpList_load_all rfl 65 _ rfl g rfl 65 _ _ hC Try.underlying65 rfl com_info ?_)
    |(refine wpList_store_all rfl 65 _ _ rfl (w.heap.size+1) (Com.mk h.pc (u32 (h.pc+4)) 0 0 0 0 0 0 0 false 0).cells rfl rfl 65 _ hRw com_info rfl com_one ?_;intro w8 hB8 hg8))
   exact bodyPost_ret (v := .agg (Com.mk h.pc (u32 (h.pc+4)) 0 0 0 0 0 0 0 false 0).cells) (results_blk rfl _ _ (w.heap.size+1) 65 _ _ rfl hB8 Try.underlying65 rfl com_info) rfl ⟨rfl,below_grown hbl hg8 hbl.size (Nat.le_succ _)⟩
  ·obtain rfl:X=⟨h.pc,u32 (h.pc+4),0,0,rd,x,0,0,0,false,0⟩:=HX3.out
   clear HX3
   go_upto_region 27 with(first
    |(refine wpList_load_all rfl 68 _ rfl w.heap.size rfl 68 _ _ hBw Try.underlying68 rfl ins_info ?_)
    |(go_at_call 39;(with_reducible refine(CG.out _).mono ?_);rintro e w7 ⟨rfl,hb7⟩;replace hC:=hC.ext hb7;replace hRw:=hRw.ext hb7;replace hBw:=hBw.ext hb7;replace hbl:=hbl.trans (hb7.mono hbl.size)))
   try go_simp
   have f4:=hC.frozen 4
   have c4:=hC.cell 4
   have i1:=hBw.cell 1
   replace hRw:=hRw.farAt (b:=g) (off:=4) (Nat.ne_of_lt hgt) (.int .i64 rd)
   replace hbl:=below_set (off:=4) (u := .int .i64 rd) (Nat.le_trans (Nat.le_succ _) (Nat.le_of_lt hgt)) hbl
   replace hC:=hC.set 4 (.int .i64 rd)
   go_wp2_with(first
    |(refine wpList_load_all rfl 65 _ rfl g rfl 65 _ _ hC Try.underlying65 rfl com_info ?_)
    |(refine wpList_store_all rfl 65 _ _ rfl (w.heap.size+1) (Com.mk h.pc (u32 (h.pc+4)) 0 0 rd x 0 0 0 false 0).cells rfl rfl 65 _ hRw com_info rfl com_one ?_;intro w8 hB8 hg8))
   exact bodyPost_ret (v := .agg (Com.mk h.pc (u32 (h.pc+4)) 0 0 rd x 0 0 0 false 0).cells) (results_blk rfl _ _ (w.heap.size+1) 65 _ _ rfl hB8 Try.underlying65 rfl com_info) rfl ⟨rfl,below_grown hbl hg8 hbl.size (Nat.le_succ _)⟩
end Go.Proofs.Ytapgojgcmlnbgac
