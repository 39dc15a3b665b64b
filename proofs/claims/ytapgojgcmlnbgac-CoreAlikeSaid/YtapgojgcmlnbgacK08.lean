/- Parts of a proof. -/
import Derived.Test.YtapgojgcmlnbgacK07
import Derived.Test.YtapgojgcmlnbgacK01
import Derived.OwnWalk
set_option linter.unusedSimpArgs false
set_option linter.unusedVariables false
set_option maxRecDepth 100000
set_option maxHeartbeats 16000000
namespace Go.Proofs.Ytapgojgcmlnbgac
open Go.RowKit
abbrev Ins.cells (i:Ins):Array Value:=#[.int .i64 i.op, .int .i64 i.rd, .int .i64 i.rs1, .int .i64 i.rs2, .int .i32 i.imm]
theorem ins_info {a b c d e:Value}:(Try.prog.info? 68).map (·.size)=some (#[a,b,c,d,e]:Array Value).size:=by kernel_rfl
theorem ins_one {a b c d e:Int}:(#[.int .i64 a, .int .i64 b, .int .i64 c, .int .i64 d, .int .i32 e]:Array Value).all (·.oneCell')=true:=by kernel_rfl
theorem read_0 (op x:Int) (w:World) (h0:0≤x) (h1:x≤4294967295) :
  Calls Try.prog 88 #[.int .i64 op, .int .i64 0, .int .u32 x] w fun e w'=>e = .returned (.agg (readP op 0 x).cells)∧Below w.heap.size w w':=by
 have hn:bits .andNot .u32 x 4095=x - cutI x 0 11:=by rw [andNot12 x h0 h1,cut_eq x 0 11 1 4096 (by decide) (by decide)];omega
 have hw:wrap32 (x - cutI x 0 11)=sgnI (x - cutI x 0 11) 32:=by
  have c:=cut_eq x 0 11 1 4096 (by decide) (by decide)
  unfold sgnI wrap32
  rw [show(2:Int) ^ (32 - 1)=2147483648 by decide,show(2:Int) ^ 32=4294967296 by decide]
  split<;>omega
 have c0:=cut_hi x 0 11 4096 (by decide)
 obtain⟨c00,c01⟩:=c0
 have c7:=cut_hi x 7 11 32 (by decide)
 have c15:=cut_hi x 15 19 32 (by decide)
 have c20:=cut_hi x 20 24 32 (by decide)
 obtain⟨c70,c71⟩:=c7
 obtain⟨c150,c151⟩:=c15
 obtain⟨c200,c201⟩:=c20
 go_enter Try.func88,Try.ntmps88
 go_upto_region 1 with(fail)
 refine wp_gen fun wa hq=>?_
 have hR:Blk wa w.heap.size 68 #[.int .i64 0, .int .i64 0, .int .i64 0, .int .i64 0, .int .i32 0]:=by rw [hq];exact Blk.new w _ _
 have hb:Below w.heap.size w wa:=by rw [hq];exact(Below.refl _ _).alloc (Nat.le_refl _) _
 clear hq
 go_upto_region 2 with(first
  |(go_at_call 95;(with_reducible refine(cut_7_11 x _ h0 h1).mono ?_);rintro e w1 ⟨rfl,hb1⟩;replace hR:=hR.ext hb1;replace hb:=hb.trans (hb1.mono hb.size);clear hb1)
  |(go_at_call 95;(with_reducible refine(cut_15_19 x _ h0 h1).mono ?_);rintro e w1 ⟨rfl,hb1⟩;replace hR:=hR.ext hb1;replace hb:=hb.trans (hb1.mono hb.size);clear hb1)
  |(go_at_call 95;(with_reducible refine(cut_20_24 x _ h0 h1).mono ?_);rintro e w3 ⟨rfl,hb1⟩;replace hR:=hR.ext hb1;replace hb:=hb.trans (hb1.mono hb.size);clear hb1))
 refine wp_gen fun wq hq=>?_
 have hI:Blk wq w3.heap.size 68 #[.int .i64 op, .int .i64 (cutI x 7 11), .int .i64 (cutI x 15 19), .int .i64 (cutI x 20 24), .int .i32 0]:=by rw [hq];exact Blk.new w3 _ _
 have zR:=hR.lt
 have hge:=hb.size
 replace hR:Blk wq w.heap.size 68 #[.int .i64 0, .int .i64 0, .int .i64 0, .int .i64 0, .int .i32 0]:=by rw [hq];exact hR.alloc _
 replace hb:Below w.heap.size w wq:=by rw [hq];exact hb.alloc hge _
 have Hne:=Lib.hid (show w.heap.size≠w3.heap.size by omega)
 have Hge:=Lib.hid hge
 clear hq zR hge
 have hIc:=hI.cell
 have hIf:=hI.frozen
 have zI:=hI.lt
 have zR:=hR.lt
 go_upto_region 19 with(fail)
 refine wp_gen fun wr hq=>?_
 have hI2:Blk wr w3.heap.size 68 (readP op 0 x).cells:=by rw [hq];exact(((hI).set 2 _).set 3 _).set 4 _
 have hR2:Blk wr w.heap.size 68 #[.int .i64 0, .int .i64 0, .int .i64 0, .int .i64 0, .int .i32 0]:=by rw [hq];exact(((hR).farAt Hne.out _).farAt Hne.out _).farAt Hne.out _
 have hb2:Below w.heap.size w wr:=by rw [hq];exact below_set Hge.out (below_set Hge.out (below_set Hge.out (hb)))
 clear hq hIc hIf zI zR hI hR hb
 have hs2:=hb2.size
 go_wp2_with(first
  |(refine wpList_load_all rfl 68 _ rfl w3.heap.size rfl 68 _ _ hI2 Try.underlying68 rfl ins_info ?_)
  |(refine wpList_store_all rfl 68 _ _ rfl w.heap.size _ rfl rfl 68 _ hR2 ins_info rfl ins_one ?_;intro w5 hB5 hg5))
 exact bodyPost_ret (v := .agg _) (results_blk rfl _ _ w.heap.size 68 _ _ rfl hB5 Try.underlying68 rfl ins_info) rfl ⟨rfl,below_grown hb2 hg5 hs2 (Nat.le_refl _)⟩
theorem read_2 (op x:Int) (w:World) (h0:0≤x) (h1:x≤4294967295) :
  Calls Try.prog 88 #[.int .i64 op, .int .i64 2, .int .u32 x] w fun e w'=>e = .returned (.agg (readP op 2 x).cells)∧Below w.heap.size w w':=by
 have c7:=cut_hi x 7 11 32 (by decide)
 have c15:=cut_hi x 15 19 32 (by decide)
 have c20:=cut_hi x 20 24 32 (by decide)
 obtain⟨c70,c71⟩:=c7
 obtain⟨c150,c151⟩:=c15
 obtain⟨c200,c201⟩:=c20
 go_enter Try.func88,Try.ntmps88
 go_upto_region 1 with(fail)
 refine wp_gen fun wa hq=>?_
 have hR:Blk wa w.heap.size 68 #[.int .i64 0, .int .i64 0, .int .i64 0, .int .i64 0, .int .i32 0]:=by rw [hq];exact Blk.new w _ _
 have hb:Below w.heap.size w wa:=by rw [hq];exact(Below.refl _ _).alloc (Nat.le_refl _) _
 clear hq
 go_upto_region 2 with(first
  |(go_at_call 95;(with_reducible refine(cut_7_11 x _ h0 h1).mono ?_);rintro e w1 ⟨rfl,hb1⟩;replace hR:=hR.ext hb1;replace hb:=hb.trans (hb1.mono hb.size);clear hb1)
  |(go_at_call 95;(with_reducible refine(cut_15_19 x _ h0 h1).mono ?_);rintro e w1 ⟨rfl,hb1⟩;replace hR:=hR.ext hb1;replace hb:=hb.trans (hb1.mono hb.size);clear hb1)
  |(go_at_call 95;(with_reducible refine(cut_20_24 x _ h0 h1).mono ?_);rintro e w3 ⟨rfl,hb1⟩;replace hR:=hR.ext hb1;replace hb:=hb.trans (hb1.mono hb.size);clear hb1))
 refine wp_gen fun wq hq=>?_
 have hI:Blk wq w3.heap.size 68 #[.int .i64 op, .int .i64 (cutI x 7 11), .int .i64 (cutI x 15 19), .int .i64 (cutI x 20 24), .int .i32 0]:=by rw [hq];exact Blk.new w3 _ _
 have zR:=hR.lt
 have hge:=hb.size
 replace hR:Blk wq w.heap.size 68 #[.int .i64 0, .int .i64 0, .int .i64 0, .int .i64 0, .int .i32 0]:=by rw [hq];exact hR.alloc _
 replace hb:Below w.heap.size w wq:=by rw [hq];exact hb.alloc hge _
 have Hne:=Lib.hid (show w.heap.size≠w3.heap.size by omega)
 have Hge:=Lib.hid hge
 clear hq zR hge
 have hIc:=hI.cell
 have hIf:=hI.frozen
 have zI:=hI.lt
 have zR:=hR.lt
 go_upto_region 19 with(first | (go_at_call 95;(with_reducible refine(cut_20_31 x _ h0 h1).mono ?_);rintro e w1 ⟨rfl,hb1⟩;replace hI:=hI.ext hb1;replace hR:=hR.ext hb1;replace hb:=hb.trans (hb1.mono hb.size);clear hIc hIf zI zR;have hIc:=hI.cell;have hIf:=hI.frozen;have zI:=hI.lt;have zR:=hR.lt;clear hb1) | (go_at_call 96;(with_reducible refine(signed_12 _ _ ?_ ?_).mono ?_);exact(cut_hi x 20 31 4096 (by decide)).1;exact(cut_hi x 20 31 4096 (by decide)).2;rintro e w1 ⟨rfl,rfl⟩))
 refine wp_gen fun wr hq=>?_
 have hI2:Blk wr w3.heap.size 68 (readP op 2 x).cells:=by rw [hq];exact((hI).set 3 _).set 4 _
 have hR2:Blk wr w.heap.size 68 #[.int .i64 0, .int .i64 0, .int .i64 0, .int .i64 0, .int .i32 0]:=by rw [hq];exact((hR).farAt Hne.out _).farAt Hne.out _
 have hb2:Below w.heap.size w wr:=by rw [hq];exact below_set Hge.out (below_set Hge.out (hb))
 clear hq hIc hIf zI zR hI hR hb
 have hs2:=hb2.size
 go_wp2_with(first
  |(refine wpList_load_all rfl 68 _ rfl w3.heap.size rfl 68 _ _ hI2 Try.underlying68 rfl ins_info ?_)
  |(refine wpList_store_all rfl 68 _ _ rfl w.heap.size _ rfl rfl 68 _ hR2 ins_info rfl ins_one ?_;intro w5 hB5 hg5))
 exact bodyPost_ret (v := .agg _) (results_blk rfl _ _ w.heap.size 68 _ _ rfl hB5 Try.underlying68 rfl ins_info) rfl ⟨rfl,below_grown hb2 hg5 hs2 (Nat.le_refl _)⟩
theorem read_3 (op x:Int) (w:World) (h0:0≤x) (h1:x≤4294967295) :
  Calls Try.prog 88 #[.int .i64 op, .int .i64 3, .int .u32 x] w fun e w'=>e = .returned (.agg (readP op 3 x).cells)∧Below w.heap.size w w':=by
 have c7:=cut_hi x 7 11 32 (by decide)
 have c15:=cut_hi x 15 19 32 (by decide)
 have c20:=cut_hi x 20 24 32 (by decide)
 obtain⟨c70,c71⟩:=c7
 obtain⟨c150,c151⟩:=c15
 obtain⟨c200,c201⟩:=c20
 go_enter Try.func88,Try.ntmps88
 go_upto_region 1 with(fail)
 refine wp_gen fun wa hq=>?_
 have hR:Blk wa w.heap.size 68 #[.int .i64 0, .int .i64 0, .int .i64 0, .int .i64 0, .int .i32 0]:=by rw [hq];exact Blk.new w _ _
 have hb:Below w.heap.size w wa:=by rw [hq];exact(Below.refl _ _).alloc (Nat.le_refl _) _
 clear hq
 go_upto_region 2 with(first
  |(go_at_call 95;(with_reducible refine(cut_7_11 x _ h0 h1).mono ?_);rintro e w1 ⟨rfl,hb1⟩;replace hR:=hR.ext hb1;replace hb:=hb.trans (hb1.mono hb.size);clear hb1)
  |(go_at_call 95;(with_reducible refine(cut_15_19 x _ h0 h1).mono ?_);rintro e w1 ⟨rfl,hb1⟩;replace hR:=hR.ext hb1;replace hb:=hb.trans (hb1.mono hb.size);clear hb1)
  |(go_at_call 95;(with_reducible refine(cut_20_24 x _ h0 h1).mono ?_);rintro e w3 ⟨rfl,hb1⟩;replace hR:=hR.ext hb1;replace hb:=hb.trans (hb1.mono hb.size);clear hb1))
 refine wp_gen fun wq hq=>?_
 have hI:Blk wq w3.heap.size 68 #[.int .i64 op, .int .i64 (cutI x 7 11), .int .i64 (cutI x 15 19), .int .i64 (cutI x 20 24), .int .i32 0]:=by rw [hq];exact Blk.new w3 _ _
 have zR:=hR.lt
 have hge:=hb.size
 replace hR:Blk wq w.heap.size 68 #[.int .i64 0, .int .i64 0, .int .i64 0, .int .i64 0, .int .i32 0]:=by rw [hq];exact hR.alloc _
 replace hb:Below w.heap.size w wq:=by rw [hq];exact hb.alloc hge _
 have Hne:=Lib.hid (show w.heap.size≠w3.heap.size by omega)
 have Hge:=Lib.hid hge
 clear hq zR hge
 have hIc:=hI.cell
 have hIf:=hI.frozen
 have zI:=hI.lt
 have zR:=hR.lt
 go_upto_region 19 with((go_at_call 95;(with_reducible refine(cut_20_24 x _ h0 h1).mono ?_);rintro e w1 ⟨rfl,hb1⟩;replace hI:=hI.ext hb1;replace hR:=hR.ext hb1;replace hb:=hb.trans (hb1.mono hb.size);clear hIc hIf zI zR;have hIc:=hI.cell;have hIf:=hI.frozen;have zI:=hI.lt;have zR:=hR.lt;clear hb1))
 refine wp_gen fun wr hq=>?_
 have hI2:Blk wr w3.heap.size 68 (readP op 3 x).cells:=by rw [hq];exact((hI).set 3 _).set 4 _
 have hR2:Blk wr w.heap.size 68 #[.int .i64 0, .int .i64 0, .int .i64 0, .int .i64 0, .int .i32 0]:=by rw [hq];exact((hR).farAt Hne.out _).farAt Hne.out _
 have hb2:Below w.heap.size w wr:=by rw [hq];exact below_set Hge.out (below_set Hge.out (hb))
 clear hq hIc hIf zI zR hI hR hb
 have hs2:=hb2.size
 go_wp2_with(first
  |(refine wpList_load_all rfl 68 _ rfl w3.heap.size rfl 68 _ _ hI2 Try.underlying68 rfl ins_info ?_)
  |(refine wpList_store_all rfl 68 _ _ rfl w.heap.size _ rfl rfl 68 _ hR2 ins_info rfl ins_one ?_;intro w5 hB5 hg5))
 exact bodyPost_ret (v := .agg _) (results_blk rfl _ _ w.heap.size 68 _ _ rfl hB5 Try.underlying68 rfl ins_info) rfl ⟨rfl,below_grown hb2 hg5 hs2 (Nat.le_refl _)⟩
theorem read_6 (op x:Int) (w:World) (h0:0≤x) (h1:x≤4294967295) :
  Calls Try.prog 88 #[.int .i64 op, .int .i64 6, .int .u32 x] w fun e w'=>e = .returned (.agg (readP op 6 x).cells)∧Below w.heap.size w w':=by
 have c7:=cut_hi x 7 11 32 (by decide)
 have c15:=cut_hi x 15 19 32 (by decide)
 have c20:=cut_hi x 20 24 32 (by decide)
 obtain⟨c70,c71⟩:=c7
 obtain⟨c150,c151⟩:=c15
 obtain⟨c200,c201⟩:=c20
 go_enter Try.func88,Try.ntmps88
 go_upto_region 1 with(fail)
 refine wp_gen fun wa hq=>?_
 have hR:Blk wa w.heap.size 68 #[.int .i64 0, .int .i64 0, .int .i64 0, .int .i64 0, .int .i32 0]:=by rw [hq];exact Blk.new w _ _
 have hb:Below w.heap.size w wa:=by rw [hq];exact(Below.refl _ _).alloc (Nat.le_refl _) _
 clear hq
 go_upto_region 2 with(first
  |(go_at_call 95;(with_reducible refine(cut_7_11 x _ h0 h1).mono ?_);rintro e w1 ⟨rfl,hb1⟩;replace hR:=hR.ext hb1;replace hb:=hb.trans (hb1.mono hb.size);clear hb1)
  |(go_at_call 95;(with_reducible refine(cut_15_19 x _ h0 h1).mono ?_);rintro e w1 ⟨rfl,hb1⟩;replace hR:=hR.ext hb1;replace hb:=hb.trans (hb1.mono hb.size);clear hb1)
  |(go_at_call 95;(with_reducible refine(cut_20_24 x _ h0 h1).mono ?_);rintro e w3 ⟨rfl,hb1⟩;replace hR:=hR.ext hb1;replace hb:=hb.trans (hb1.mono hb.size);clear hb1))
 refine wp_gen fun wq hq=>?_
 have hI:Blk wq w3.heap.size 68 #[.int .i64 op, .int .i64 (cutI x 7 11), .int .i64 (cutI x 15 19), .int .i64 (cutI x 20 24), .int .i32 0]:=by rw [hq];exact Blk.new w3 _ _
 have zR:=hR.lt
 have hge:=hb.size
 replace hR:Blk wq w.heap.size 68 #[.int .i64 0, .int .i64 0, .int .i64 0, .int .i64 0, .int .i32 0]:=by rw [hq];exact hR.alloc _
 replace hb:Below w.heap.size w wq:=by rw [hq];exact hb.alloc hge _
 have Hne:=Lib.hid (show w.heap.size≠w3.heap.size by omega)
 have Hge:=Lib.hid hge
 clear hq zR hge
 have hIc:=hI.cell
 have hIf:=hI.frozen
 have zI:=hI.lt
 have zR:=hR.lt
 go_upto_region 19 with(fail)
 refine wp_gen fun wr hq=>?_
 have hI2:Blk wr w3.heap.size 68 (readP op 6 x).cells:=by rw [hq];exact hI
 have hR2:Blk wr w.heap.size 68 #[.int .i64 0, .int .i64 0, .int .i64 0, .int .i64 0, .int .i32 0]:=by rw [hq];exact hR
 have hb2:Below w.heap.size w wr:=by rw [hq];exact hb
 clear hq hIc hIf zI zR hI hR hb
 have hs2:=hb2.size
 go_wp2_with(first
  |(refine wpList_load_all rfl 68 _ rfl w3.heap.size rfl 68 _ _ hI2 Try.underlying68 rfl ins_info ?_)
  |(refine wpList_store_all rfl 68 _ _ rfl w.heap.size _ rfl rfl 68 _ hR2 ins_info rfl ins_one ?_;intro w5 hB5 hg5))
 exact bodyPost_ret (v := .agg _) (results_blk rfl _ _ w.heap.size 68 _ _ rfl hB5 Try.underlying68 rfl ins_info) rfl ⟨rfl,below_grown hb2 hg5 hs2 (Nat.le_refl _)⟩
theorem built_ins (v:Int):Try.prog.built 68 [(0, .int .i64 v)]=some #[.int .i64 v, .int .i64 0, .int .i64 0, .int .i64 0, .int .i32 0]:=by kernel_rfl
theorem read_7 (op x:Int) (w:World) (h0:0≤x) (h1:x≤4294967295) :
  Calls Try.prog 88 #[.int .i64 op, .int .i64 7, .int .u32 x] w fun e w'=>e = .returned (.agg (readP op 7 x).cells)∧Below w.heap.size w w':=by
 have c7:=cut_hi x 7 11 32 (by decide)
 have c15:=cut_hi x 15 19 32 (by decide)
 have c20:=cut_hi x 20 24 32 (by decide)
 obtain⟨c70,c71⟩:=c7
 obtain⟨c150,c151⟩:=c15
 obtain⟨c200,c201⟩:=c20
 go_enter Try.func88,Try.ntmps88
 go_upto_region 1 with(fail)
 refine wp_gen fun wa hq=>?_
 have hR:Blk wa w.heap.size 68 #[.int .i64 0, .int .i64 0, .int .i64 0, .int .i64 0, .int .i32 0]:=by rw [hq];exact Blk.new w _ _
 have hb:Below w.heap.size w wa:=by rw [hq];exact(Below.refl _ _).alloc (Nat.le_refl _) _
 clear hq
 go_upto_region 2 with(first
  |(go_at_call 95;(with_reducible refine(cut_7_11 x _ h0 h1).mono ?_);rintro e w1 ⟨rfl,hb1⟩;replace hR:=hR.ext hb1;replace hb:=hb.trans (hb1.mono hb.size);clear hb1)
  |(go_at_call 95;(with_reducible refine(cut_15_19 x _ h0 h1).mono ?_);rintro e w1 ⟨rfl,hb1⟩;replace hR:=hR.ext hb1;replace hb:=hb.trans (hb1.mono hb.size);clear hb1)
  |(go_at_call 95;(with_reducible refine(cut_20_24 x _ h0 h1).mono ?_);rintro e w3 ⟨rfl,hb1⟩;replace hR:=hR.ext hb1;replace hb:=hb.trans (hb1.mono hb.size);clear hb1))
 refine wp_gen fun wq hq=>?_
 have hI:Blk wq w3.heap.size 68 #[.int .i64 op, .int .i64 (cutI x 7 11), .int .i64 (cutI x 15 19), .int .i64 (cutI x 20 24), .int .i32 0]:=by rw [hq];exact Blk.new w3 _ _
 have zR:=hR.lt
 have hge:=hb.size
 replace hR:Blk wq w.heap.size 68 #[.int .i64 0, .int .i64 0, .int .i64 0, .int .i64 0, .int .i32 0]:=by rw [hq];exact hR.alloc _
 replace hb:Below w.heap.size w wq:=by rw [hq];exact hb.alloc hge _
 have Hne:=Lib.hid (show w.heap.size≠w3.heap.size by omega)
 have Hge:=Lib.hid hge
 clear hq zR hge
 have hIc:=hI.cell
 have hIf:=hI.frozen
 have zI:=hI.lt
 have zR:=hR.lt
 go_upto_region 18 with(fail)
 go_upto_region 19 with(first
  |(refine wpList_build_to rfl 68 _ rfl [(0, .int .i64 op)] ?_ _ (built_ins op) ?_;kernel_rfl)
  |(refine wpList_store_all rfl 68 _ _ rfl w3.heap.size _ rfl rfl 68 _ hI ins_info rfl ins_one ?_;intro w5 hB5 hg5))
 have hneS:=Hne.out
 replace hR:=hR.grown hg5 (fun e=>hneS (by injection e))
 replace hb:=below_grown hb hg5 hb.size Hge.out
 clear hneS
 go_simp
 refine wp_gen fun wr hq=>?_
 have hI2:Blk wr w3.heap.size 68 (readP op 7 x).cells:=by rw [hq];exact hB5
 have hR2:Blk wr w.heap.size 68 #[.int .i64 0, .int .i64 0, .int .i64 0, .int .i64 0, .int .i32 0]:=by rw [hq];exact hR
 have hb2:Below w.heap.size w wr:=by rw [hq];exact hb
 clear hq hIc hIf zI zR hI hR hb
 have hs2:=hb2.size
 go_wp2_with(first
  |(refine wpList_load_all rfl 68 _ rfl w3.heap.size rfl 68 _ _ hI2 Try.underlying68 rfl ins_info ?_)
  |(refine wpList_store_all rfl 68 _ _ rfl w.heap.size _ rfl rfl 68 _ hR2 ins_info rfl ins_one ?_;intro w5 hB5 hg5))
 exact bodyPost_ret (v := .agg _) (results_blk rfl _ _ w.heap.size 68 _ _ rfl hB5 Try.underlying68 rfl ins_info) rfl ⟨rfl,below_grown hb2 hg5 hs2 (Nat.le_refl _)⟩
theorem read_5 (op x:Int) (w:World) (h0:0≤x) (h1:x≤4294967295) :
  Calls Try.prog 88 #[.int .i64 op, .int .i64 5, .int .u32 x] w fun e w'=>e = .returned (.agg (readP op 5 x).cells)∧Below w.heap.size w w':=by
 obtain⟨d0,d1⟩:=cut_hi x 25 31 128 (by decide)
 have ho:=or_hi (cutI x 7 11) (cutI x 25 31) 5 32 (by decide) (by omega) (cut_hi x 7 11 32 (by decide)).1 (cut_hi x 7 11 32 (by decide)).2 d0 (by omega)
 have c7:=cut_hi x 7 11 32 (by decide)
 have c15:=cut_hi x 15 19 32 (by decide)
 have c20:=cut_hi x 20 24 32 (by decide)
 obtain⟨c70,c71⟩:=c7
 obtain⟨c150,c151⟩:=c15
 obtain⟨c200,c201⟩:=c20
 go_enter Try.func88,Try.ntmps88
 go_upto_region 1 with(fail)
 refine wp_gen fun wa hq=>?_
 have hR:Blk wa w.heap.size 68 #[.int .i64 0, .int .i64 0, .int .i64 0, .int .i64 0, .int .i32 0]:=by rw [hq];exact Blk.new w _ _
 have hb:Below w.heap.size w wa:=by rw [hq];exact(Below.refl _ _).alloc (Nat.le_refl _) _
 clear hq
 go_upto_region 2 with(first
  |(go_at_call 95;(with_reducible refine(cut_7_11 x _ h0 h1).mono ?_);rintro e w1 ⟨rfl,hb1⟩;replace hR:=hR.ext hb1;replace hb:=hb.trans (hb1.mono hb.size);clear hb1)
  |(go_at_call 95;(with_reducible refine(cut_15_19 x _ h0 h1).mono ?_);rintro e w1 ⟨rfl,hb1⟩;replace hR:=hR.ext hb1;replace hb:=hb.trans (hb1.mono hb.size);clear hb1)
  |(go_at_call 95;(with_reducible refine(cut_20_24 x _ h0 h1).mono ?_);rintro e w3 ⟨rfl,hb1⟩;replace hR:=hR.ext hb1;replace hb:=hb.trans (hb1.mono hb.size);clear hb1))
 refine wp_gen fun wq hq=>?_
 have hI:Blk wq w3.heap.size 68 #[.int .i64 op, .int .i64 (cutI x 7 11), .int .i64 (cutI x 15 19), .int .i64 (cutI x 20 24), .int .i32 0]:=by rw [hq];exact Blk.new w3 _ _
 have zR:=hR.lt
 have hge:=hb.size
 replace hR:Blk wq w.heap.size 68 #[.int .i64 0, .int .i64 0, .int .i64 0, .int .i64 0, .int .i32 0]:=by rw [hq];exact hR.alloc _
 replace hb:Below w.heap.size w wq:=by rw [hq];exact hb.alloc hge _
 have Hne:=Lib.hid (show w.heap.size≠w3.heap.size by omega)
 have Hge:=Lib.hid hge
 clear hq zR hge
 have hIc:=hI.cell
 have hIf:=hI.frozen
 have zI:=hI.lt
 have zR:=hR.lt
 go_upto_region 19 with(first | (go_at_call 95;(with_reducible refine(cut_25_31 x _ h0 h1).mono ?_);rintro e w1 ⟨rfl,hb1⟩;replace hI:=hI.ext hb1;replace hR:=hR.ext hb1;replace hb:=hb.trans (hb1.mono hb.size);clear hIc hIf zI zR;have hIc:=hI.cell;have hIf:=hI.frozen;have zI:=hI.lt;have zR:=hR.lt;clear hb1) | (go_at_call 95;(with_reducible refine(cut_7_11 x _ h0 h1).mono ?_);rintro e w1 ⟨rfl,hb1⟩;replace hI:=hI.ext hb1;replace hR:=hR.ext hb1;replace hb:=hb.trans (hb1.mono hb.size);clear hIc hIf zI zR;have hIc:=hI.cell;have hIf:=hI.frozen;have zI:=hI.lt;have zR:=hR.lt;clear hb1) | (go_at_call 96;(with_reducible refine(signed_12 _ _ ?_ ?_).mono ?_);omega;omega;rintro e w1 ⟨rfl,rfl⟩))
 refine wp_gen fun wr hq=>?_
 have hI2:Blk wr w3.heap.size 68 (readP op 5 x).cells:=by rw [hq];exact((hI).set 1 _).set 4 _
 have hR2:Blk wr w.heap.size 68 #[.int .i64 0, .int .i64 0, .int .i64 0, .int .i64 0, .int .i32 0]:=by rw [hq];exact((hR).farAt Hne.out _).farAt Hne.out _
 have hb2:Below w.heap.size w wr:=by rw [hq];exact below_set Hge.out (below_set Hge.out (hb))
 clear hq hIc hIf zI zR hI hR hb
 have hs2:=hb2.size
 go_wp2_with(first
  |(refine wpList_load_all rfl 68 _ rfl w3.heap.size rfl 68 _ _ hI2 Try.underlying68 rfl ins_info ?_)
  |(refine wpList_store_all rfl 68 _ _ rfl w.heap.size _ rfl rfl 68 _ hR2 ins_info rfl ins_one ?_;intro w5 hB5 hg5))
 exact bodyPost_ret (v := .agg _) (results_blk rfl _ _ w.heap.size 68 _ _ rfl hB5 Try.underlying68 rfl ins_info) rfl ⟨rfl,below_grown hb2 hg5 hs2 (Nat.le_refl _)⟩
theorem read_1 (op x:Int) (w:World) (h0:0≤x) (h1:x≤4294967295) :
  Calls Try.prog 88 #[.int .i64 op, .int .i64 1, .int .u32 x] w fun e w'=>e = .returned (.agg (readP op 1 x).cells)∧Below w.heap.size w w':=by
 obtain⟨d310,d311⟩:=cut_hi x 31 31 2 (by decide)
 obtain⟨d120,d121⟩:=cut_hi x 12 19 256 (by decide)
 obtain⟨d200,d201⟩:=cut_hi x 20 20 2 (by decide)
 obtain⟨d210,d211⟩:=cut_hi x 21 30 1024 (by decide)
 have ho1:=or_hi (cutI x 12 19*4096) (cutI x 31 31) 20 1048576 (by decide) (by omega) (by omega) (by omega) d310 (by omega)
 have ho2:bits .or .u32 (cutI x 31 31*1048576+cutI x 12 19*4096) (cutI x 20 20*2048)=cutI x 31 31*1048576+cutI x 12 19*4096+cutI x 20 20*2048:=by
  have:=or_hi (cutI x 20 20*2048) (cutI x 31 31*256+cutI x 12 19) 12 4096 (by decide) (by omega) (by omega) (by omega) (by omega) (by omega)
  rw [show(cutI x 31 31*256+cutI x 12 19)*4096=cutI x 31 31*1048576+cutI x 12 19*4096 by omega] at this
  exact this
 have ho3:bits .or .u32 (cutI x 31 31*1048576+cutI x 12 19*4096+cutI x 20 20*2048) (cutI x 21 30*2)=cutI x 31 31*1048576+cutI x 12 19*4096+cutI x 20 20*2048+cutI x 21 30*2:=by
  have:=or_hi (cutI x 21 30*2) (cutI x 31 31*512+cutI x 12 19*2+cutI x 20 20) 11 2048 (by decide) (by omega) (by omega) (by omega) (by omega) (by omega)
  rw [show(cutI x 31 31*512+cutI x 12 19*2+cutI x 20 20)*2048=cutI x 31 31*1048576+cutI x 12 19*4096+cutI x 20 20*2048 by omega] at this
  exact this
 have c7:=cut_hi x 7 11 32 (by decide)
 have c15:=cut_hi x 15 19 32 (by decide)
 have c20:=cut_hi x 20 24 32 (by decide)
 obtain⟨c70,c71⟩:=c7
 obtain⟨c150,c151⟩:=c15
 obtain⟨c200,c201⟩:=c20
 go_enter Try.func88,Try.ntmps88
 go_upto_region 1 with(fail)
 refine wp_gen fun wa hq=>?_
 have hR:Blk wa w.heap.size 68 #[.int .i64 0, .int .i64 0, .int .i64 0, .int .i64 0, .int .i32 0]:=by rw [hq];exact Blk.new w _ _
 have hb:Below w.heap.size w wa:=by rw [hq];exact(Below.refl _ _).alloc (Nat.le_refl _) _
 clear hq
 go_upto_region 2 with(first
  |(go_at_call 95;(with_reducible refine(cut_7_11 x _ h0 h1).mono ?_);rintro e w1 ⟨rfl,hb1⟩;replace hR:=hR.ext hb1;replace hb:=hb.trans (hb1.mono hb.size);clear hb1)
  |(go_at_call 95;(with_reducible refine(cut_15_19 x _ h0 h1).mono ?_);rintro e w1 ⟨rfl,hb1⟩;replace hR:=hR.ext hb1;replace hb:=hb.trans (hb1.mono hb.size);clear hb1)
  |(go_at_call 95;(with_reducible refine(cut_20_24 x _ h0 h1).mono ?_);rintro e w3 ⟨rfl,hb1⟩;replace hR:=hR.ext hb1;replace hb:=hb.trans (hb1.mono hb.size);clear hb1))
 refine wp_gen fun wq hq=>?_
 have hI:Blk wq w3.heap.size 68 #[.int .i64 op, .int .i64 (cutI x 7 11), .int .i64 (cutI x 15 19), .int .i64 (cutI x 20 24), .int .i32 0]:=by rw [hq];exact Blk.new w3 _ _
 have zR:=hR.lt
 have hge:=hb.size
 replace hR:Blk wq w.heap.size 68 #[.int .i64 0, .int .i64 0, .int .i64 0, .int .i64 0, .int .i32 0]:=by rw [hq];exact hR.alloc _
 replace hb:Below w.heap.size w wq:=by rw [hq];exact hb.alloc hge _
 have Hne:=Lib.hid (show w.heap.size≠w3.heap.size by omega)
 have Hge:=Lib.hid hge
 clear hq zR hge
 have hIc:=hI.cell
 have hIf:=hI.frozen
 have zI:=hI.lt
 have zR:=hR.lt
 go_upto_region 7 with(fail)
 refine wp_gen fun wr hq=>?_
 replace hI:Blk wr w3.heap.size 68 #[.int .i64 op, .int .i64 (cutI x 7 11), .int .i64 0, .int .i64 0, .int .i32 0]:=by rw [hq];exact(hI.set 2 _).set 3 _
 replace hR:Blk wr w.heap.size 68 #[.int .i64 0, .int .i64 0, .int .i64 0, .int .i64 0, .int .i32 0]:=by rw [hq];exact(hR.farAt Hne.out _).farAt Hne.out _
 replace hb:Below w.heap.size w wr:=by rw [hq];exact below_set Hge.out (below_set Hge.out hb)
 clear hq hIc hIf zI zR
 have hIc:=hI.cell
 have hIf:=hI.frozen
 have zI:=hI.lt
 have zR:=hR.lt
 go_upto_region 19 with(first | (go_at_call 95;(with_reducible refine(cut_31_31 x _ h0 h1).mono ?_);rintro e w1 ⟨rfl,hb1⟩;replace hI:=hI.ext hb1;replace hR:=hR.ext hb1;replace hb:=hb.trans (hb1.mono hb.size);clear hIc hIf zI zR;have hIc:=hI.cell;have hIf:=hI.frozen;have zI:=hI.lt;have zR:=hR.lt;clear hb1) | (go_at_call 95;(with_reducible refine(cut_12_19 x _ h0 h1).mono ?_);rintro e w1 ⟨rfl,hb1⟩;replace hI:=hI.ext hb1;replace hR:=hR.ext hb1;replace hb:=hb.trans (hb1.mono hb.size);clear hIc hIf zI zR;have hIc:=hI.cell;have hIf:=hI.frozen;have zI:=hI.lt;have zR:=hR.lt;clear hb1) | (go_at_call 95;(with_reducible refine(cut_20_20 x _ h0 h1).mono ?_);rintro e w1 ⟨rfl,hb1⟩;replace hI:=hI.ext hb1;replace hR:=hR.ext hb1;replace hb:=hb.trans (hb1.mono hb.size);clear hIc hIf zI zR;have hIc:=hI.cell;have hIf:=hI.frozen;have zI:=hI.lt;have zR:=hR.lt;clear hb1) | (go_at_call 95;(with_reducible refine(cut_21_30 x _ h0 h1).mono ?_);rintro e w1 ⟨rfl,hb1⟩;replace hI:=hI.ext hb1;replace hR:=hR.ext hb1;replace hb:=hb.trans (hb1.mono hb.size);clear hIc hIf zI zR;have hIc:=hI.cell;have hIf:=hI.frozen;have zI:=hI.lt;have zR:=hR.lt;clear hb1) | (go_at_call 96;(with_reducible refine(signed_21 _ _ ?_ ?_).mono ?_);omega;omega;rintro e w1 ⟨rfl,rfl⟩))
 refine wp_gen fun wr hq=>?_
 have hI2:Blk wr w3.heap.size 68 (readP op 1 x).cells:=by rw [hq];exact(hI).set 4 _
 have hR2:Blk wr w.heap.size 68 #[.int .i64 0, .int .i64 0, .int .i64 0, .int .i64 0, .int .i32 0]:=by rw [hq];exact(hR).farAt Hne.out _
 have hb2:Below w.heap.size w wr:=by rw [hq];exact below_set Hge.out (hb)
 clear hq hIc hIf zI zR hI hR hb
 have hs2:=hb2.size
 go_wp2_with(first
  |(refine wpList_load_all rfl 68 _ rfl w3.heap.size rfl 68 _ _ hI2 Try.underlying68 rfl ins_info ?_)
  |(refine wpList_store_all rfl 68 _ _ rfl w.heap.size _ rfl rfl 68 _ hR2 ins_info rfl ins_one ?_;intro w5 hB5 hg5))
 exact bodyPost_ret (v := .agg _) (results_blk rfl _ _ w.heap.size 68 _ _ rfl hB5 Try.underlying68 rfl ins_info) rfl ⟨rfl,below_grown hb2 hg5 hs2 (Nat.le_refl _)⟩
theorem read_4 (op x:Int) (w:World) (h0:0≤x) (h1:x≤4294967295) :
  Calls Try.prog 88 #[.int .i64 op, .int .i64 4, .int .u32 x] w fun e w'=>e = .returned (.agg (readP op 4 x).cells)∧Below w.heap.size w w':=by
 obtain⟨d310,d311⟩:=cut_hi x 31 31 2 (by decide)
 obtain⟨d70,d71⟩:=cut_hi x 7 7 2 (by decide)
 obtain⟨d250,d251⟩:=cut_hi x 25 30 64 (by decide)
 obtain⟨d80,d81⟩:=cut_hi x 8 11 16 (by decide)
 have ho1:=or_hi (cutI x 7 7*2048) (cutI x 31 31) 12 4096 (by decide) (by omega) (by omega) (by omega) d310 (by omega)
 have ho2:bits .or .u32 (cutI x 31 31*4096+cutI x 7 7*2048) (cutI x 25 30*32)=cutI x 31 31*4096+cutI x 7 7*2048+cutI x 25 30*32:=by
  have:=or_hi (cutI x 25 30*32) (cutI x 31 31*2+cutI x 7 7) 11 2048 (by decide) (by omega) (by omega) (by omega) (by omega) (by omega)
  rw [show(cutI x 31 31*2+cutI x 7 7)*2048=cutI x 31 31*4096+cutI x 7 7*2048 by omega] at this
  exact this
 have ho3:bits .or .u32 (cutI x 31 31*4096+cutI x 7 7*2048+cutI x 25 30*32) (cutI x 8 11*2)=cutI x 31 31*4096+cutI x 7 7*2048+cutI x 25 30*32+cutI x 8 11*2:=by
  have:=or_hi (cutI x 8 11*2) (cutI x 31 31*128+cutI x 7 7*64+cutI x 25 30) 5 32 (by decide) (by omega) (by omega) (by omega) (by omega) (by omega)
  rw [show(cutI x 31 31*128+cutI x 7 7*64+cutI x 25 30)*32=cutI x 31 31*4096+cutI x 7 7*2048+cutI x 25 30*32 by omega] at this
  exact this
 have c7:=cut_hi x 7 11 32 (by decide)
 have c15:=cut_hi x 15 19 32 (by decide)
 have c20:=cut_hi x 20 24 32 (by decide)
 obtain⟨c70,c71⟩:=c7
 obtain⟨c150,c151⟩:=c15
 obtain⟨c200,c201⟩:=c20
 go_enter Try.func88,Try.ntmps88
 go_upto_region 1 with(fail)
 refine wp_gen fun wa hq=>?_
 have hR:Blk wa w.heap.size 68 #[.int .i64 0, .int .i64 0, .int .i64 0, .int .i64 0, .int .i32 0]:=by rw [hq];exact Blk.new w _ _
 have hb:Below w.heap.size w wa:=by rw [hq];exact(Below.refl _ _).alloc (Nat.le_refl _) _
 clear hq
 go_upto_region 2 with(first
  |(go_at_call 95;(with_reducible refine(cut_7_11 x _ h0 h1).mono ?_);rintro e w1 ⟨rfl,hb1⟩;replace hR:=hR.ext hb1;replace hb:=hb.trans (hb1.mono hb.size);clear hb1)
  |(go_at_call 95;(with_reducible refine(cut_15_19 x _ h0 h1).mono ?_);rintro e w1 ⟨rfl,hb1⟩;replace hR:=hR.ext hb1;replace hb:=hb.trans (hb1.mono hb.size);clear hb1)
  |(go_at_call 95;(with_reducible refine(cut_20_24 x _ h0 h1).mono ?_);rintro e w3 ⟨rfl,hb1⟩;replace hR:=hR.ext hb1;replace hb:=hb.trans (hb1.mono hb.size);clear hb1))
 refine wp_gen fun wq hq=>?_
 have hI:Blk wq w3.heap.size 68 #[.int .i64 op, .int .i64 (cutI x 7 11), .int .i64 (cutI x 15 19), .int .i64 (cutI x 20 24), .int .i32 0]:=by rw [hq];exact Blk.new w3 _ _
 have zR:=hR.lt
 have hge:=hb.size
 replace hR:Blk wq w.heap.size 68 #[.int .i64 0, .int .i64 0, .int .i64 0, .int .i64 0, .int .i32 0]:=by rw [hq];exact hR.alloc _
 replace hb:Below w.heap.size w wq:=by rw [hq];exact hb.alloc hge _
 have Hne:=Lib.hid (show w.heap.size≠w3.heap.size by omega)
 have Hge:=Lib.hid hge
 clear hq zR hge
 have hIc:=hI.cell
 have hIf:=hI.frozen
 have zI:=hI.lt
 have zR:=hR.lt
 go_upto_region 14 with(fail)
 refine wp_gen fun wr hq=>?_
 replace hI:Blk wr w3.heap.size 68 #[.int .i64 op, .int .i64 0, .int .i64 (cutI x 15 19), .int .i64 (cutI x 20 24), .int .i32 0]:=by rw [hq];exact hI.set 1 _
 replace hR:Blk wr w.heap.size 68 #[.int .i64 0, .int .i64 0, .int .i64 0, .int .i64 0, .int .i32 0]:=by rw [hq];exact hR.farAt Hne.out _
 replace hb:Below w.heap.size w wr:=by rw [hq];exact below_set Hge.out hb
 clear hq hIc hIf zI zR
 have hIc:=hI.cell
 have hIf:=hI.frozen
 have zI:=hI.lt
 have zR:=hR.lt
 go_upto_region 19 with(first | (go_at_call 95;(with_reducible refine(cut_31_31 x _ h0 h1).mono ?_);rintro e w1 ⟨rfl,hb1⟩;replace hI:=hI.ext hb1;replace hR:=hR.ext hb1;replace hb:=hb.trans (hb1.mono hb.size);clear hIc hIf zI zR;have hIc:=hI.cell;have hIf:=hI.frozen;have zI:=hI.lt;have zR:=hR.lt;clear hb1) | (go_at_call 95;(with_reducible refine(cut_7_7 x _ h0 h1).mono ?_);rintro e w1 ⟨rfl,hb1⟩;replace hI:=hI.ext hb1;replace hR:=hR.ext hb1;replace hb:=hb.trans (hb1.mono hb.size);clear hIc hIf zI zR;have hIc:=hI.cell;have hIf:=hI.frozen;have zI:=hI.lt;have zR:=hR.lt;clear hb1) | (go_at_call 95;(with_reducible refine(cut_25_30 x _ h0 h1).mono ?_);rintro e w1 ⟨rfl,hb1⟩;replace hI:=hI.ext hb1;replace hR:=hR.ext hb1;replace hb:=hb.trans (hb1.mono hb.size);clear hIc hIf zI zR;have hIc:=hI.cell;have hIf:=hI.frozen;have zI:=hI.lt;have zR:=hR.lt;clear hb1) | (go_at_call 95;(with_reducible refine(cut_8_11 x _ h0 h1).mono ?_);rintro e w1 ⟨rfl,hb1⟩;replace hI:=hI.ext hb1;replace hR:=hR.ext hb1;replace hb:=hb.trans (hb1.mono hb.size);clear hIc hIf zI zR;have hIc:=hI.cell;have hIf:=hI.frozen;have zI:=hI.lt;have zR:=hR.lt;clear hb1) | (go_at_call 96;(with_reducible refine(signed_13 _ _ ?_ ?_).mono ?_);omega;omega;rintro e w1 ⟨rfl,rfl⟩))
 refine wp_gen fun wr hq=>?_
 have hI2:Blk wr w3.heap.size 68 (readP op 4 x).cells:=by rw [hq];exact(hI).set 4 _
 have hR2:Blk wr w.heap.size 68 #[.int .i64 0, .int .i64 0, .int .i64 0, .int .i64 0, .int .i32 0]:=by rw [hq];exact(hR).farAt Hne.out _
 have hb2:Below w.heap.size w wr:=by rw [hq];exact below_set Hge.out (hb)
 clear hq hIc hIf zI zR hI hR hb
 have hs2:=hb2.size
 go_wp2_with(first
  |(refine wpList_load_all rfl 68 _ rfl w3.heap.size rfl 68 _ _ hI2 Try.underlying68 rfl ins_info ?_)
  |(refine wpList_store_all rfl 68 _ _ rfl w.heap.size _ rfl rfl 68 _ hR2 ins_info rfl ins_one ?_;intro w5 hB5 hg5))
 exact bodyPost_ret (v := .agg _) (results_blk rfl _ _ w.heap.size 68 _ _ rfl hB5 Try.underlying68 rfl ins_info) rfl ⟨rfl,below_grown hb2 hg5 hs2 (Nat.le_refl _)⟩
end Go.Proofs.Ytapgojgcmlnbgac
