/- Parts of a proof. -/
import Derived.Test.YtapgojgcmlnbgacGreatK18
set_option linter.unusedSimpArgs false
set_option linter.unusedVariables false
set_option maxRecDepth 100000
set_option maxHeartbeats 16000000
namespace Go.Proofs.YtapgojgcmlnbgacGreat
open Go.RowKit
theorem Af5 (low mid up w:Int):0≤(Fp low mid up w).2∧(Fp low mid up w).2≤7:=by
 have key:∀ (c:Prop) [Decidable c] (a b:Int×Int),(0≤a.2∧a.2≤7)→(0≤b.2∧b.2≤7)→(0≤(if c then a else b).2∧(if c then a else b).2≤7):=fun c _ a b ha hb=>by
  by_cases h:c
  ·rw [if_pos h];exact ha
  ·rw [if_neg h];exact hb
 unfold Fp
 repeat' apply key
 all_goals exact⟨by simp,by simp⟩
theorem Ai4 (x op:Int) (w:World) (h0:0≤x) (h1:x≤4294967295) (ho0:0≤op) (ho1:op≤48) (CF:Hid (∀ W,Calls Tryz.prog 56 #[.int .u32 x] W fun e w'=>e = .returned (.tuple #[.int .i64 op, .int .u8 85])∧Below W.heap.size W w')) :
  Calls Tryz.prog 22 #[.int .u32 x] w fun e w'=>e = .returned (.tuple #[.agg (Cu op 0 x).cells, .bool true])∧Below w.heap.size w w':=by
 obtain⟨c7_110,c7_111⟩:=Av x 7 11 32 (by decide)
 obtain⟨c15_190,c15_191⟩:=Av x 15 19 32 (by decide)
 obtain⟨c20_240,c20_241⟩:=Av x 20 24 32 (by decide)
 obtain⟨c31_310,c31_311⟩:=Av x 31 31 2 (by decide)
 have hw:wrap32 (sg x - Ap x 0 11)=Fx (x - Ap x 0 11) 32:=by
  have c:=De x 0 11 1 4096 (by decide) (by decide)
  unfold Fx wrap32 sg
  rw [show(2:Int) ^ (32 - 1)=2147483648 by decide,show(2:Int) ^ 32=4294967296 by decide]
  (repeat' split)<;>omega
 obtain⟨c0_110,c0_111⟩:=Av x 0 11 4096 (by decide)
 have sg0:=Um h0 h1
 have sg1:=Ul h0 h1
 go_enter Tryz.func22,Tryz.ntmps22
 go_upto_region 1 with(fail)
 refine Au fun wa hq=>?_
 have hR:Blk wa w.heap.size 73 #[.int .i64 0, .int .i64 0, .int .i64 0, .int .i64 0, .int .i32 0]:=by rw [hq];exact Blk.new w _ _
 have hb:Below w.heap.size w wa:=by rw [hq];exact(Below.refl _ _).alloc (Nat.le_refl _) _
 clear hq
 go_upto_region 7 with(first
  |(go_at_call 56;(with_reducible refine(CF.out _).mono ?_);rintro e w2 ⟨rfl,hb1⟩)
  |(refine Ao rfl 73 _ rfl [(0, .int .i64 op)] ?_ _ (Gk op) ?_;kernel_rfl)
  |(refine Ab rfl 73 _ _ rfl w2.heap.size #[.int .i64 op, .int .i64 0, .int .i64 0, .int .i64 0, .int .i32 0] rfl rfl 73 _ (Blk.new w2 _ _) A4 rfl Do ?_;intro wq hI hg1))
 have zR:=hR.lt
 have hge0:=hb1.size
 replace hR:=((hR.ext hb1).alloc (.cells #[.int .i64 0, .int .i64 0, .int .i64 0, .int .i64 0, .int .i32 0] 73)).grown hg1 (by have:=(hR.ext hb1).lt;simp;omega)
 have Hge:=Lib.hid (show w.heap.size≤w2.heap.size from Nat.le_trans hb.size hb1.size)
 have Hne:=Lib.hid (show w.heap.size≠w2.heap.size by omega)
 replace hb:=below_grown ((hb.trans (hb1.mono hb.size)).alloc Hge.out (.cells #[.int .i64 0, .int .i64 0, .int .i64 0, .int .i64 0, .int .i32 0] 73)) hg1 (by have:=Hge.out;simp;omega) Hge.out
 clear hb1 hg1 zR hge0 CF
 go_simp
 have hIc:=hI.cell
 have hIf:=hI.frozen
 have zI:=hI.lt
 go_upto_region 40 with(first
  |(go_at_call 57;(with_reducible refine(I0 x _ h0 h1).mono ?_);rintro e w1 ⟨rfl,rfl⟩)
  |(go_at_call 57;(with_reducible refine(Ha x _ h0 h1).mono ?_);rintro e w1 ⟨rfl,rfl⟩)
  |(go_at_call 57;(with_reducible refine(Hh x _ h0 h1).mono ?_);rintro e w1 ⟨rfl,rfl⟩)
  |(go_at_call 57;(with_reducible refine(Hj x _ h0 h1).mono ?_);rintro e w1 ⟨rfl,rfl⟩)
  |(go_at_call 57;(with_reducible refine(Aez x _ h0 h1).mono ?_);rintro e w1 ⟨rfl,rfl⟩)
  |(go_at_call 58;(with_reducible refine(Hq x _ h0 h1).mono ?_);rintro e w1 ⟨rfl,rfl⟩))
 refine Au fun wr hq=>?_
 have hI2:Blk wr w2.heap.size 73 (Cu op 0 x).cells:=by rw [hq];exact((hI).set 1 _).set 4 _
 have hR2:Blk wr w.heap.size 73 #[.int .i64 0, .int .i64 0, .int .i64 0, .int .i64 0, .int .i32 0]:=by rw [hq];exact((hR).farAt Hne.out _).farAt Hne.out _
 have hb2:Below w.heap.size w wr:=by rw [hq];exact Ai Hge.out (Ai Hge.out (hb))
 clear hq hIc hIf zI hI hR hb
 obtain⟨i,hi⟩:∃ i,i=Cu op 0 x:=⟨_,rfl⟩
 rw [←hi] at hI2
 have Hi:=Lib.hid hi
 clear hi
 have hs2:=hb2.size
 have zR:=hR2.lt
 go_wp2_with(first
  |(refine Ac rfl 73 _ rfl w2.heap.size rfl 73 _ _ hI2 Tryz.underlying73 rfl A4 ?_)
  |(refine Ab rfl 73 _ _ rfl w.heap.size i.cells rfl rfl 73 _ hR2 A4 rfl Do ?_;intro w5 hB5 hg5;have hBc:=hB5.cell))
 exact bodyPost_ret (v := .tuple #[.agg i.cells, .bool true]) (by simp [results,Tryz.results22,go_sem,hBc]) rfl ⟨by rw [Hi.out],below_grown hb2 hg5 hs2 (Nat.le_refl _)⟩
theorem Ai5 (x op:Int) (w:World) (h0:0≤x) (h1:x≤4294967295) (ho0:0≤op) (ho1:op≤48) (CF:Hid (∀ W,Calls Tryz.prog 56 #[.int .u32 x] W fun e w'=>e = .returned (.tuple #[.int .i64 op, .int .u8 74])∧Below W.heap.size W w')) :
  Calls Tryz.prog 22 #[.int .u32 x] w fun e w'=>e = .returned (.tuple #[.agg (Cu op 1 x).cells, .bool true])∧Below w.heap.size w w':=by
 obtain⟨c7_110,c7_111⟩:=Av x 7 11 32 (by decide)
 obtain⟨c15_190,c15_191⟩:=Av x 15 19 32 (by decide)
 obtain⟨c20_240,c20_241⟩:=Av x 20 24 32 (by decide)
 obtain⟨c31_310,c31_311⟩:=Av x 31 31 2 (by decide)
 obtain⟨c12_190,c12_191⟩:=Av x 12 19 256 (by decide)
 obtain⟨c20_200,c20_201⟩:=Av x 20 20 2 (by decide)
 obtain⟨c21_300,c21_301⟩:=Av x 21 30 1024 (by decide)
 go_enter Tryz.func22,Tryz.ntmps22
 go_upto_region 1 with(fail)
 refine Au fun wa hq=>?_
 have hR:Blk wa w.heap.size 73 #[.int .i64 0, .int .i64 0, .int .i64 0, .int .i64 0, .int .i32 0]:=by rw [hq];exact Blk.new w _ _
 have hb:Below w.heap.size w wa:=by rw [hq];exact(Below.refl _ _).alloc (Nat.le_refl _) _
 clear hq
 go_upto_region 7 with(first
  |(go_at_call 56;(with_reducible refine(CF.out _).mono ?_);rintro e w2 ⟨rfl,hb1⟩)
  |(refine Ao rfl 73 _ rfl [(0, .int .i64 op)] ?_ _ (Gk op) ?_;kernel_rfl)
  |(refine Ab rfl 73 _ _ rfl w2.heap.size #[.int .i64 op, .int .i64 0, .int .i64 0, .int .i64 0, .int .i32 0] rfl rfl 73 _ (Blk.new w2 _ _) A4 rfl Do ?_;intro wq hI hg1))
 have zR:=hR.lt
 have hge0:=hb1.size
 replace hR:=((hR.ext hb1).alloc (.cells #[.int .i64 0, .int .i64 0, .int .i64 0, .int .i64 0, .int .i32 0] 73)).grown hg1 (by have:=(hR.ext hb1).lt;simp;omega)
 have Hge:=Lib.hid (show w.heap.size≤w2.heap.size from Nat.le_trans hb.size hb1.size)
 have Hne:=Lib.hid (show w.heap.size≠w2.heap.size by omega)
 replace hb:=below_grown ((hb.trans (hb1.mono hb.size)).alloc Hge.out (.cells #[.int .i64 0, .int .i64 0, .int .i64 0, .int .i64 0, .int .i32 0] 73)) hg1 (by have:=Hge.out;simp;omega) Hge.out
 clear hb1 hg1 zR hge0 CF
 go_simp
 have hIc:=hI.cell
 have hIf:=hI.frozen
 have zI:=hI.lt
 go_upto_region 40 with(first
  |(go_at_call 57;(with_reducible refine(I0 x _ h0 h1).mono ?_);rintro e w1 ⟨rfl,rfl⟩)
  |(go_at_call 57;(with_reducible refine(Ha x _ h0 h1).mono ?_);rintro e w1 ⟨rfl,rfl⟩)
  |(go_at_call 57;(with_reducible refine(Hh x _ h0 h1).mono ?_);rintro e w1 ⟨rfl,rfl⟩)
  |(go_at_call 57;(with_reducible refine(Hj x _ h0 h1).mono ?_);rintro e w1 ⟨rfl,rfl⟩)
  |(go_at_call 57;(with_reducible refine(Abp x _ h0 h1).mono ?_);rintro e w1 ⟨rfl,rfl⟩)
  |(go_at_call 57;(with_reducible refine(Abq x _ h0 h1).mono ?_);rintro e w1 ⟨rfl,rfl⟩)
  |(go_at_call 57;(with_reducible refine(Abs x _ h0 h1).mono ?_);rintro e w1 ⟨rfl,rfl⟩)
  |(go_at_call 59;(with_reducible refine(Abx _ _ ?_ ?_).mono ?_);omega;omega;rintro e w1 ⟨rfl,rfl⟩))
 refine Au fun wr hq=>?_
 have hI2:Blk wr w2.heap.size 73 (Cu op 1 x).cells:=by rw [hq];exact((hI).set 1 _).set 4 _
 have hR2:Blk wr w.heap.size 73 #[.int .i64 0, .int .i64 0, .int .i64 0, .int .i64 0, .int .i32 0]:=by rw [hq];exact((hR).farAt Hne.out _).farAt Hne.out _
 have hb2:Below w.heap.size w wr:=by rw [hq];exact Ai Hge.out (Ai Hge.out (hb))
 clear hq hIc hIf zI hI hR hb
 obtain⟨i,hi⟩:∃ i,i=Cu op 1 x:=⟨_,rfl⟩
 rw [←hi] at hI2
 have Hi:=Lib.hid hi
 clear hi
 have hs2:=hb2.size
 have zR:=hR2.lt
 go_wp2_with(first
  |(refine Ac rfl 73 _ rfl w2.heap.size rfl 73 _ _ hI2 Tryz.underlying73 rfl A4 ?_)
  |(refine Ab rfl 73 _ _ rfl w.heap.size i.cells rfl rfl 73 _ hR2 A4 rfl Do ?_;intro w5 hB5 hg5;have hBc:=hB5.cell))
 exact bodyPost_ret (v := .tuple #[.agg i.cells, .bool true]) (by simp [results,Tryz.results22,go_sem,hBc]) rfl ⟨by rw [Hi.out],below_grown hb2 hg5 hs2 (Nat.le_refl _)⟩
theorem Ai6 (x op:Int) (w:World) (h0:0≤x) (h1:x≤4294967295) (ho0:0≤op) (ho1:op≤48) (CF:Hid (∀ W,Calls Tryz.prog 56 #[.int .u32 x] W fun e w'=>e = .returned (.tuple #[.int .i64 op, .int .u8 73])∧Below W.heap.size W w')) :
  Calls Tryz.prog 22 #[.int .u32 x] w fun e w'=>e = .returned (.tuple #[.agg (Cu op 2 x).cells, .bool true])∧Below w.heap.size w w':=by
 obtain⟨c7_110,c7_111⟩:=Av x 7 11 32 (by decide)
 obtain⟨c15_190,c15_191⟩:=Av x 15 19 32 (by decide)
 obtain⟨c20_240,c20_241⟩:=Av x 20 24 32 (by decide)
 obtain⟨c31_310,c31_311⟩:=Av x 31 31 2 (by decide)
 obtain⟨c20_310,c20_311⟩:=Av x 20 31 4096 (by decide)
 go_enter Tryz.func22,Tryz.ntmps22
 go_upto_region 1 with(fail)
 refine Au fun wa hq=>?_
 have hR:Blk wa w.heap.size 73 #[.int .i64 0, .int .i64 0, .int .i64 0, .int .i64 0, .int .i32 0]:=by rw [hq];exact Blk.new w _ _
 have hb:Below w.heap.size w wa:=by rw [hq];exact(Below.refl _ _).alloc (Nat.le_refl _) _
 clear hq
 go_upto_region 7 with(first
  |(go_at_call 56;(with_reducible refine(CF.out _).mono ?_);rintro e w2 ⟨rfl,hb1⟩)
  |(refine Ao rfl 73 _ rfl [(0, .int .i64 op)] ?_ _ (Gk op) ?_;kernel_rfl)
  |(refine Ab rfl 73 _ _ rfl w2.heap.size #[.int .i64 op, .int .i64 0, .int .i64 0, .int .i64 0, .int .i32 0] rfl rfl 73 _ (Blk.new w2 _ _) A4 rfl Do ?_;intro wq hI hg1))
 have zR:=hR.lt
 have hge0:=hb1.size
 replace hR:=((hR.ext hb1).alloc (.cells #[.int .i64 0, .int .i64 0, .int .i64 0, .int .i64 0, .int .i32 0] 73)).grown hg1 (by have:=(hR.ext hb1).lt;simp;omega)
 have Hge:=Lib.hid (show w.heap.size≤w2.heap.size from Nat.le_trans hb.size hb1.size)
 have Hne:=Lib.hid (show w.heap.size≠w2.heap.size by omega)
 replace hb:=below_grown ((hb.trans (hb1.mono hb.size)).alloc Hge.out (.cells #[.int .i64 0, .int .i64 0, .int .i64 0, .int .i64 0, .int .i32 0] 73)) hg1 (by have:=Hge.out;simp;omega) Hge.out
 clear hb1 hg1 zR hge0 CF
 go_simp
 have hIc:=hI.cell
 have hIf:=hI.frozen
 have zI:=hI.lt
 go_upto_region 40 with(first
  |(go_at_call 57;(with_reducible refine(I0 x _ h0 h1).mono ?_);rintro e w1 ⟨rfl,rfl⟩)
  |(go_at_call 57;(with_reducible refine(Ha x _ h0 h1).mono ?_);rintro e w1 ⟨rfl,rfl⟩)
  |(go_at_call 57;(with_reducible refine(Hh x _ h0 h1).mono ?_);rintro e w1 ⟨rfl,rfl⟩)
  |(go_at_call 57;(with_reducible refine(Hj x _ h0 h1).mono ?_);rintro e w1 ⟨rfl,rfl⟩)
  |(go_at_call 57;(with_reducible refine(Abr x _ h0 h1).mono ?_);rintro e w1 ⟨rfl,rfl⟩)
  |(go_at_call 59;(with_reducible refine(Uh _ _ ?_ ?_).mono ?_);exact(Av x 20 31 4096 (by decide)).1;exact(Av x 20 31 4096 (by decide)).2;rintro e w1 ⟨rfl,rfl⟩))
 refine Au fun wr hq=>?_
 have hI2:Blk wr w2.heap.size 73 (Cu op 2 x).cells:=by rw [hq];exact(((hI).set 1 _).set 2 _).set 4 _
 have hR2:Blk wr w.heap.size 73 #[.int .i64 0, .int .i64 0, .int .i64 0, .int .i64 0, .int .i32 0]:=by rw [hq];exact(((hR).farAt Hne.out _).farAt Hne.out _).farAt Hne.out _
 have hb2:Below w.heap.size w wr:=by rw [hq];exact Ai Hge.out (Ai Hge.out (Ai Hge.out (hb)))
 clear hq hIc hIf zI hI hR hb
 obtain⟨i,hi⟩:∃ i,i=Cu op 2 x:=⟨_,rfl⟩
 rw [←hi] at hI2
 have Hi:=Lib.hid hi
 clear hi
 have hs2:=hb2.size
 have zR:=hR2.lt
 go_wp2_with(first
  |(refine Ac rfl 73 _ rfl w2.heap.size rfl 73 _ _ hI2 Tryz.underlying73 rfl A4 ?_)
  |(refine Ab rfl 73 _ _ rfl w.heap.size i.cells rfl rfl 73 _ hR2 A4 rfl Do ?_;intro w5 hB5 hg5;have hBc:=hB5.cell))
 exact bodyPost_ret (v := .tuple #[.agg i.cells, .bool true]) (by simp [results,Tryz.results22,go_sem,hBc]) rfl ⟨by rw [Hi.out],below_grown hb2 hg5 hs2 (Nat.le_refl _)⟩
theorem Ai7 (x op:Int) (w:World) (h0:0≤x) (h1:x≤4294967295) (ho0:0≤op) (ho1:op≤48) (CF:Hid (∀ W,Calls Tryz.prog 56 #[.int .u32 x] W fun e w'=>e = .returned (.tuple #[.int .i64 op, .int .u8 72])∧Below W.heap.size W w')) :
  Calls Tryz.prog 22 #[.int .u32 x] w fun e w'=>e = .returned (.tuple #[.agg (Cu op 3 x).cells, .bool true])∧Below w.heap.size w w':=by
 obtain⟨c7_110,c7_111⟩:=Av x 7 11 32 (by decide)
 obtain⟨c15_190,c15_191⟩:=Av x 15 19 32 (by decide)
 obtain⟨c20_240,c20_241⟩:=Av x 20 24 32 (by decide)
 obtain⟨c31_310,c31_311⟩:=Av x 31 31 2 (by decide)
 go_enter Tryz.func22,Tryz.ntmps22
 go_upto_region 1 with(fail)
 refine Au fun wa hq=>?_
 have hR:Blk wa w.heap.size 73 #[.int .i64 0, .int .i64 0, .int .i64 0, .int .i64 0, .int .i32 0]:=by rw [hq];exact Blk.new w _ _
 have hb:Below w.heap.size w wa:=by rw [hq];exact(Below.refl _ _).alloc (Nat.le_refl _) _
 clear hq
 go_upto_region 7 with(first
  |(go_at_call 56;(with_reducible refine(CF.out _).mono ?_);rintro e w2 ⟨rfl,hb1⟩)
  |(refine Ao rfl 73 _ rfl [(0, .int .i64 op)] ?_ _ (Gk op) ?_;kernel_rfl)
  |(refine Ab rfl 73 _ _ rfl w2.heap.size #[.int .i64 op, .int .i64 0, .int .i64 0, .int .i64 0, .int .i32 0] rfl rfl 73 _ (Blk.new w2 _ _) A4 rfl Do ?_;intro wq hI hg1))
 have zR:=hR.lt
 have hge0:=hb1.size
 replace hR:=((hR.ext hb1).alloc (.cells #[.int .i64 0, .int .i64 0, .int .i64 0, .int .i64 0, .int .i32 0] 73)).grown hg1 (by have:=(hR.ext hb1).lt;simp;omega)
 have Hge:=Lib.hid (show w.heap.size≤w2.heap.size from Nat.le_trans hb.size hb1.size)
 have Hne:=Lib.hid (show w.heap.size≠w2.heap.size by omega)
 replace hb:=below_grown ((hb.trans (hb1.mono hb.size)).alloc Hge.out (.cells #[.int .i64 0, .int .i64 0, .int .i64 0, .int .i64 0, .int .i32 0] 73)) hg1 (by have:=Hge.out;simp;omega) Hge.out
 clear hb1 hg1 zR hge0 CF
 go_simp
 have hIc:=hI.cell
 have hIf:=hI.frozen
 have zI:=hI.lt
 go_upto_region 40 with(first
  |(go_at_call 57;(with_reducible refine(I0 x _ h0 h1).mono ?_);rintro e w1 ⟨rfl,rfl⟩)
  |(go_at_call 57;(with_reducible refine(Ha x _ h0 h1).mono ?_);rintro e w1 ⟨rfl,rfl⟩)
  |(go_at_call 57;(with_reducible refine(Hh x _ h0 h1).mono ?_);rintro e w1 ⟨rfl,rfl⟩)
  |(go_at_call 57;(with_reducible refine(Hj x _ h0 h1).mono ?_);rintro e w1 ⟨rfl,rfl⟩))
 refine Au fun wr hq=>?_
 have hI2:Blk wr w2.heap.size 73 (Cu op 3 x).cells:=by rw [hq];exact(((hI).set 1 _).set 2 _).set 4 _
 have hR2:Blk wr w.heap.size 73 #[.int .i64 0, .int .i64 0, .int .i64 0, .int .i64 0, .int .i32 0]:=by rw [hq];exact(((hR).farAt Hne.out _).farAt Hne.out _).farAt Hne.out _
 have hb2:Below w.heap.size w wr:=by rw [hq];exact Ai Hge.out (Ai Hge.out (Ai Hge.out (hb)))
 clear hq hIc hIf zI hI hR hb
 obtain⟨i,hi⟩:∃ i,i=Cu op 3 x:=⟨_,rfl⟩
 rw [←hi] at hI2
 have Hi:=Lib.hid hi
 clear hi
 have hs2:=hb2.size
 have zR:=hR2.lt
 go_wp2_with(first
  |(refine Ac rfl 73 _ rfl w2.heap.size rfl 73 _ _ hI2 Tryz.underlying73 rfl A4 ?_)
  |(refine Ab rfl 73 _ _ rfl w.heap.size i.cells rfl rfl 73 _ hR2 A4 rfl Do ?_;intro w5 hB5 hg5;have hBc:=hB5.cell))
 exact bodyPost_ret (v := .tuple #[.agg i.cells, .bool true]) (by simp [results,Tryz.results22,go_sem,hBc]) rfl ⟨by rw [Hi.out],below_grown hb2 hg5 hs2 (Nat.le_refl _)⟩
theorem Ai8 (x op:Int) (w:World) (h0:0≤x) (h1:x≤4294967295) (ho0:0≤op) (ho1:op≤48) (CF:Hid (∀ W,Calls Tryz.prog 56 #[.int .u32 x] W fun e w'=>e = .returned (.tuple #[.int .i64 op, .int .u8 66])∧Below W.heap.size W w')) :
  Calls Tryz.prog 22 #[.int .u32 x] w fun e w'=>e = .returned (.tuple #[.agg (Cu op 4 x).cells, .bool true])∧Below w.heap.size w w':=by
 obtain⟨c7_110,c7_111⟩:=Av x 7 11 32 (by decide)
 obtain⟨c15_190,c15_191⟩:=Av x 15 19 32 (by decide)
 obtain⟨c20_240,c20_241⟩:=Av x 20 24 32 (by decide)
 obtain⟨c31_310,c31_311⟩:=Av x 31 31 2 (by decide)
 obtain⟨c7_70,c7_71⟩:=Av x 7 7 2 (by decide)
 obtain⟨c25_300,c25_301⟩:=Av x 25 30 64 (by decide)
 obtain⟨c8_110,c8_111⟩:=Av x 8 11 16 (by decide)
 go_enter Tryz.func22,Tryz.ntmps22
 go_upto_region 1 with(fail)
 refine Au fun wa hq=>?_
 have hR:Blk wa w.heap.size 73 #[.int .i64 0, .int .i64 0, .int .i64 0, .int .i64 0, .int .i32 0]:=by rw [hq];exact Blk.new w _ _
 have hb:Below w.heap.size w wa:=by rw [hq];exact(Below.refl _ _).alloc (Nat.le_refl _) _
 clear hq
 go_upto_region 7 with(first
  |(go_at_call 56;(with_reducible refine(CF.out _).mono ?_);rintro e w2 ⟨rfl,hb1⟩)
  |(refine Ao rfl 73 _ rfl [(0, .int .i64 op)] ?_ _ (Gk op) ?_;kernel_rfl)
  |(refine Ab rfl 73 _ _ rfl w2.heap.size #[.int .i64 op, .int .i64 0, .int .i64 0, .int .i64 0, .int .i32 0] rfl rfl 73 _ (Blk.new w2 _ _) A4 rfl Do ?_;intro wq hI hg1))
 have zR:=hR.lt
 have hge0:=hb1.size
 replace hR:=((hR.ext hb1).alloc (.cells #[.int .i64 0, .int .i64 0, .int .i64 0, .int .i64 0, .int .i32 0] 73)).grown hg1 (by have:=(hR.ext hb1).lt;simp;omega)
 have Hge:=Lib.hid (show w.heap.size≤w2.heap.size from Nat.le_trans hb.size hb1.size)
 have Hne:=Lib.hid (show w.heap.size≠w2.heap.size by omega)
 replace hb:=below_grown ((hb.trans (hb1.mono hb.size)).alloc Hge.out (.cells #[.int .i64 0, .int .i64 0, .int .i64 0, .int .i64 0, .int .i32 0] 73)) hg1 (by have:=Hge.out;simp;omega) Hge.out
 clear hb1 hg1 zR hge0 CF
 go_simp
 have hIc:=hI.cell
 have hIf:=hI.frozen
 have zI:=hI.lt
 go_upto_region 40 with(first
  |(go_at_call 57;(with_reducible refine(I0 x _ h0 h1).mono ?_);rintro e w1 ⟨rfl,rfl⟩)
  |(go_at_call 57;(with_reducible refine(Ha x _ h0 h1).mono ?_);rintro e w1 ⟨rfl,rfl⟩)
  |(go_at_call 57;(with_reducible refine(Hh x _ h0 h1).mono ?_);rintro e w1 ⟨rfl,rfl⟩)
  |(go_at_call 57;(with_reducible refine(Hj x _ h0 h1).mono ?_);rintro e w1 ⟨rfl,rfl⟩)
  |(go_at_call 57;(with_reducible refine(Ag0 x _ h0 h1).mono ?_);rintro e w1 ⟨rfl,rfl⟩)
  |(go_at_call 57;(with_reducible refine(Abt x _ h0 h1).mono ?_);rintro e w1 ⟨rfl,rfl⟩)
  |(go_at_call 57;(with_reducible refine(Ae0 x _ h0 h1).mono ?_);rintro e w1 ⟨rfl,rfl⟩)
  |(go_at_call 59;(with_reducible refine(Abw _ _ ?_ ?_).mono ?_);omega;omega;rintro e w1 ⟨rfl,rfl⟩))
 refine Au fun wr hq=>?_
 have hI2:Blk wr w2.heap.size 73 (Cu op 4 x).cells:=by rw [hq];exact(((hI).set 2 _).set 3 _).set 4 _
 have hR2:Blk wr w.heap.size 73 #[.int .i64 0, .int .i64 0, .int .i64 0, .int .i64 0, .int .i32 0]:=by rw [hq];exact(((hR).farAt Hne.out _).farAt Hne.out _).farAt Hne.out _
 have hb2:Below w.heap.size w wr:=by rw [hq];exact Ai Hge.out (Ai Hge.out (Ai Hge.out (hb)))
 clear hq hIc hIf zI hI hR hb
 obtain⟨i,hi⟩:∃ i,i=Cu op 4 x:=⟨_,rfl⟩
 rw [←hi] at hI2
 have Hi:=Lib.hid hi
 clear hi
 have hs2:=hb2.size
 have zR:=hR2.lt
 go_wp2_with(first
  |(refine Ac rfl 73 _ rfl w2.heap.size rfl 73 _ _ hI2 Tryz.underlying73 rfl A4 ?_)
  |(refine Ab rfl 73 _ _ rfl w.heap.size i.cells rfl rfl 73 _ hR2 A4 rfl Do ?_;intro w5 hB5 hg5;have hBc:=hB5.cell))
 exact bodyPost_ret (v := .tuple #[.agg i.cells, .bool true]) (by simp [results,Tryz.results22,go_sem,hBc]) rfl ⟨by rw [Hi.out],below_grown hb2 hg5 hs2 (Nat.le_refl _)⟩
theorem Ai9 (x op:Int) (w:World) (h0:0≤x) (h1:x≤4294967295) (ho0:0≤op) (ho1:op≤48) (CF:Hid (∀ W,Calls Tryz.prog 56 #[.int .u32 x] W fun e w'=>e = .returned (.tuple #[.int .i64 op, .int .u8 83])∧Below W.heap.size W w')) :
  Calls Tryz.prog 22 #[.int .u32 x] w fun e w'=>e = .returned (.tuple #[.agg (Cu op 5 x).cells, .bool true])∧Below w.heap.size w w':=by
 obtain⟨c7_110,c7_111⟩:=Av x 7 11 32 (by decide)
 obtain⟨c15_190,c15_191⟩:=Av x 15 19 32 (by decide)
 obtain⟨c20_240,c20_241⟩:=Av x 20 24 32 (by decide)
 obtain⟨c31_310,c31_311⟩:=Av x 31 31 2 (by decide)
 obtain⟨c25_310,c25_311⟩:=Av x 25 31 128 (by decide)
 go_enter Tryz.func22,Tryz.ntmps22
 go_upto_region 1 with(fail)
 refine Au fun wa hq=>?_
 have hR:Blk wa w.heap.size 73 #[.int .i64 0, .int .i64 0, .int .i64 0, .int .i64 0, .int .i32 0]:=by rw [hq];exact Blk.new w _ _
 have hb:Below w.heap.size w wa:=by rw [hq];exact(Below.refl _ _).alloc (Nat.le_refl _) _
 clear hq
 go_upto_region 7 with(first
  |(go_at_call 56;(with_reducible refine(CF.out _).mono ?_);rintro e w2 ⟨rfl,hb1⟩)
  |(refine Ao rfl 73 _ rfl [(0, .int .i64 op)] ?_ _ (Gk op) ?_;kernel_rfl)
  |(refine Ab rfl 73 _ _ rfl w2.heap.size #[.int .i64 op, .int .i64 0, .int .i64 0, .int .i64 0, .int .i32 0] rfl rfl 73 _ (Blk.new w2 _ _) A4 rfl Do ?_;intro wq hI hg1))
 have zR:=hR.lt
 have hge0:=hb1.size
 replace hR:=((hR.ext hb1).alloc (.cells #[.int .i64 0, .int .i64 0, .int .i64 0, .int .i64 0, .int .i32 0] 73)).grown hg1 (by have:=(hR.ext hb1).lt;simp;omega)
 have Hge:=Lib.hid (show w.heap.size≤w2.heap.size from Nat.le_trans hb.size hb1.size)
 have Hne:=Lib.hid (show w.heap.size≠w2.heap.size by omega)
 replace hb:=below_grown ((hb.trans (hb1.mono hb.size)).alloc Hge.out (.cells #[.int .i64 0, .int .i64 0, .int .i64 0, .int .i64 0, .int .i32 0] 73)) hg1 (by have:=Hge.out;simp;omega) Hge.out
 clear hb1 hg1 zR hge0 CF
 go_simp
 have hIc:=hI.cell
 have hIf:=hI.frozen
 have zI:=hI.lt
 go_upto_region 40 with(first
  |(go_at_call 57;(with_reducible refine(I0 x _ h0 h1).mono ?_);rintro e w1 ⟨rfl,rfl⟩)
  |(go_at_call 57;(with_reducible refine(Ha x _ h0 h1).mono ?_);rintro e w1 ⟨rfl,rfl⟩)
  |(go_at_call 57;(with_reducible refine(Hh x _ h0 h1).mono ?_);rintro e w1 ⟨rfl,rfl⟩)
  |(go_at_call 57;(with_reducible refine(Hj x _ h0 h1).mono ?_);rintro e w1 ⟨rfl,rfl⟩)
  |(go_at_call 57;(with_reducible refine(Cw x _ h0 h1).mono ?_);rintro e w1 ⟨rfl,rfl⟩)
  |(go_at_call 59;(with_reducible refine(Uh _ _ ?_ ?_).mono ?_);omega;omega;rintro e w1 ⟨rfl,rfl⟩))
 refine Au fun wr hq=>?_
 have hI2:Blk wr w2.heap.size 73 (Cu op 5 x).cells:=by rw [hq];exact(((hI).set 2 _).set 3 _).set 4 _
 have hR2:Blk wr w.heap.size 73 #[.int .i64 0, .int .i64 0, .int .i64 0, .int .i64 0, .int .i32 0]:=by rw [hq];exact(((hR).farAt Hne.out _).farAt Hne.out _).farAt Hne.out _
 have hb2:Below w.heap.size w wr:=by rw [hq];exact Ai Hge.out (Ai Hge.out (Ai Hge.out (hb)))
 clear hq hIc hIf zI hI hR hb
 obtain⟨i,hi⟩:∃ i,i=Cu op 5 x:=⟨_,rfl⟩
 rw [←hi] at hI2
 have Hi:=Lib.hid hi
 clear hi
 have hs2:=hb2.size
 have zR:=hR2.lt
 go_wp2_with(first
  |(refine Ac rfl 73 _ rfl w2.heap.size rfl 73 _ _ hI2 Tryz.underlying73 rfl A4 ?_)
  |(refine Ab rfl 73 _ _ rfl w.heap.size i.cells rfl rfl 73 _ hR2 A4 rfl Do ?_;intro w5 hB5 hg5;have hBc:=hB5.cell))
 exact bodyPost_ret (v := .tuple #[.agg i.cells, .bool true]) (by simp [results,Tryz.results22,go_sem,hBc]) rfl ⟨by rw [Hi.out],below_grown hb2 hg5 hs2 (Nat.le_refl _)⟩
theorem Aja (x op:Int) (w:World) (h0:0≤x) (h1:x≤4294967295) (ho0:0≤op) (ho1:op≤48) (CF:Hid (∀ W,Calls Tryz.prog 56 #[.int .u32 x] W fun e w'=>e = .returned (.tuple #[.int .i64 op, .int .u8 82])∧Below W.heap.size W w')) :
  Calls Tryz.prog 22 #[.int .u32 x] w fun e w'=>e = .returned (.tuple #[.agg (Cu op 6 x).cells, .bool true])∧Below w.heap.size w w':=by
 obtain⟨c7_110,c7_111⟩:=Av x 7 11 32 (by decide)
 obtain⟨c15_190,c15_191⟩:=Av x 15 19 32 (by decide)
 obtain⟨c20_240,c20_241⟩:=Av x 20 24 32 (by decide)
 obtain⟨c31_310,c31_311⟩:=Av x 31 31 2 (by decide)
 go_enter Tryz.func22,Tryz.ntmps22
 go_upto_region 1 with(fail)
 refine Au fun wa hq=>?_
 have hR:Blk wa w.heap.size 73 #[.int .i64 0, .int .i64 0, .int .i64 0, .int .i64 0, .int .i32 0]:=by rw [hq];exact Blk.new w _ _
 have hb:Below w.heap.size w wa:=by rw [hq];exact(Below.refl _ _).alloc (Nat.le_refl _) _
 clear hq
 go_upto_region 7 with(first
  |(go_at_call 56;(with_reducible refine(CF.out _).mono ?_);rintro e w2 ⟨rfl,hb1⟩)
  |(refine Ao rfl 73 _ rfl [(0, .int .i64 op)] ?_ _ (Gk op) ?_;kernel_rfl)
  |(refine Ab rfl 73 _ _ rfl w2.heap.size #[.int .i64 op, .int .i64 0, .int .i64 0, .int .i64 0, .int .i32 0] rfl rfl 73 _ (Blk.new w2 _ _) A4 rfl Do ?_;intro wq hI hg1))
 have zR:=hR.lt
 have hge0:=hb1.size
 replace hR:=((hR.ext hb1).alloc (.cells #[.int .i64 0, .int .i64 0, .int .i64 0, .int .i64 0, .int .i32 0] 73)).grown hg1 (by have:=(hR.ext hb1).lt;simp;omega)
 have Hge:=Lib.hid (show w.heap.size≤w2.heap.size from Nat.le_trans hb.size hb1.size)
 have Hne:=Lib.hid (show w.heap.size≠w2.heap.size by omega)
 replace hb:=below_grown ((hb.trans (hb1.mono hb.size)).alloc Hge.out (.cells #[.int .i64 0, .int .i64 0, .int .i64 0, .int .i64 0, .int .i32 0] 73)) hg1 (by have:=Hge.out;simp;omega) Hge.out
 clear hb1 hg1 zR hge0 CF
 go_simp
 have hIc:=hI.cell
 have hIf:=hI.frozen
 have zI:=hI.lt
 go_upto_region 40 with(first
  |(go_at_call 57;(with_reducible refine(I0 x _ h0 h1).mono ?_);rintro e w1 ⟨rfl,rfl⟩)
  |(go_at_call 57;(with_reducible refine(Ha x _ h0 h1).mono ?_);rintro e w1 ⟨rfl,rfl⟩)
  |(go_at_call 57;(with_reducible refine(Hh x _ h0 h1).mono ?_);rintro e w1 ⟨rfl,rfl⟩)
  |(go_at_call 57;(with_reducible refine(Hj x _ h0 h1).mono ?_);rintro e w1 ⟨rfl,rfl⟩))
 refine Au fun wr hq=>?_
 have hI2:Blk wr w2.heap.size 73 (Cu op 6 x).cells:=by rw [hq];exact(((hI).set 1 _).set 2 _).set 3 _
 have hR2:Blk wr w.heap.size 73 #[.int .i64 0, .int .i64 0, .int .i64 0, .int .i64 0, .int .i32 0]:=by rw [hq];exact(((hR).farAt Hne.out _).farAt Hne.out _).farAt Hne.out _
 have hb2:Below w.heap.size w wr:=by rw [hq];exact Ai Hge.out (Ai Hge.out (Ai Hge.out (hb)))
 clear hq hIc hIf zI hI hR hb
 obtain⟨i,hi⟩:∃ i,i=Cu op 6 x:=⟨_,rfl⟩
 rw [←hi] at hI2
 have Hi:=Lib.hid hi
 clear hi
 have hs2:=hb2.size
 have zR:=hR2.lt
 go_wp2_with(first
  |(refine Ac rfl 73 _ rfl w2.heap.size rfl 73 _ _ hI2 Tryz.underlying73 rfl A4 ?_)
  |(refine Ab rfl 73 _ _ rfl w.heap.size i.cells rfl rfl 73 _ hR2 A4 rfl Do ?_;intro w5 hB5 hg5;have hBc:=hB5.cell))
 exact bodyPost_ret (v := .tuple #[.agg i.cells, .bool true]) (by simp [results,Tryz.results22,go_sem,hBc]) rfl ⟨by rw [Hi.out],below_grown hb2 hg5 hs2 (Nat.le_refl _)⟩
theorem Ajb (x op:Int) (w:World) (h0:0≤x) (h1:x≤4294967295) (ho0:0≤op) (ho1:op≤48) (CF:Hid (∀ W,Calls Tryz.prog 56 #[.int .u32 x] W fun e w'=>e = .returned (.tuple #[.int .i64 op, .int .u8 69])∧Below W.heap.size W w')) :
  Calls Tryz.prog 22 #[.int .u32 x] w fun e w'=>e = .returned (.tuple #[.agg (Cu op 7 x).cells, .bool true])∧Below w.heap.size w w':=by
 go_enter Tryz.func22,Tryz.ntmps22
 go_upto_region 1 with(fail)
 refine Au fun wa hq=>?_
 have hR:Blk wa w.heap.size 73 #[.int .i64 0, .int .i64 0, .int .i64 0, .int .i64 0, .int .i32 0]:=by rw [hq];exact Blk.new w _ _
 have hb:Below w.heap.size w wa:=by rw [hq];exact(Below.refl _ _).alloc (Nat.le_refl _) _
 clear hq
 go_upto_region 6 with(first
  |(go_at_call 56;(with_reducible refine(CF.out _).mono ?_);rintro e w2 ⟨rfl,hb1⟩)
  |(refine Ao rfl 73 _ rfl [(0, .int .i64 op)] ?_ _ (Gk op) ?_;kernel_rfl)
  |(refine Ab rfl 73 _ _ rfl w2.heap.size #[.int .i64 op, .int .i64 0, .int .i64 0, .int .i64 0, .int .i32 0] rfl rfl 73 _ (Blk.new w2 _ _) A4 rfl Do ?_;intro wq hI hg1))
 have zR:=hR.lt
 have hge0:=hb1.size
 replace hR:=((hR.ext hb1).alloc (.cells #[.int .i64 0, .int .i64 0, .int .i64 0, .int .i64 0, .int .i32 0] 73)).grown hg1 (by have:=(hR.ext hb1).lt;simp;omega)
 have Hge:=Lib.hid (show w.heap.size≤w2.heap.size from Nat.le_trans hb.size hb1.size)
 have Hne:=Lib.hid (show w.heap.size≠w2.heap.size by omega)
 replace hb:=below_grown ((hb.trans (hb1.mono hb.size)).alloc Hge.out (.cells #[.int .i64 0, .int .i64 0, .int .i64 0, .int .i64 0, .int .i32 0] 73)) hg1 (by have:=Hge.out;simp;omega) Hge.out
 clear hb1 hg1 zR hge0 CF
 go_simp
 have hIc:=hI.cell
 have hIf:=hI.frozen
 have zI:=hI.lt
 refine Au fun wr hq=>?_
 have hI2:Blk wr w2.heap.size 73 (Cu op 7 x).cells:=by rw [hq];exact hI
 have hR2:Blk wr w.heap.size 73 #[.int .i64 0, .int .i64 0, .int .i64 0, .int .i64 0, .int .i32 0]:=by rw [hq];exact hR
 have hb2:Below w.heap.size w wr:=by rw [hq];exact hb
 clear hq hIc hIf zI hI hR hb
 obtain⟨i,hi⟩:∃ i,i=Cu op 7 x:=⟨_,rfl⟩
 rw [←hi] at hI2
 have Hi:=Lib.hid hi
 clear hi
 have hs2:=hb2.size
 have zR:=hR2.lt
 go_wp2_with(first
  |(refine Ac rfl 73 _ rfl w2.heap.size rfl 73 _ _ hI2 Tryz.underlying73 rfl A4 ?_)
  |(refine Ab rfl 73 _ _ rfl w.heap.size i.cells rfl rfl 73 _ hR2 A4 rfl Do ?_;intro w5 hB5 hg5;have hBc:=hB5.cell))
 exact bodyPost_ret (v := .tuple #[.agg i.cells, .bool true]) (by simp [results,Tryz.results22,go_sem,hBc]) rfl ⟨by rw [Hi.out],below_grown hb2 hg5 hs2 (Nat.le_refl _)⟩
theorem Ae1 (x op f:Int) (w:World) (h0:0≤x) (h1:x≤4294967295) (ho:op<0) (CF:Hid (∀ W,Calls Tryz.prog 56 #[.int .u32 x] W fun e w'=>e = .returned (.tuple #[.int .i64 op, .int .u8 f])∧Below W.heap.size W w')) :
  Calls Tryz.prog 22 #[.int .u32 x] w fun e w'=>e = .returned (.tuple #[.agg Q6.cells, .bool false])∧Below w.heap.size w w':=by
 go_enter Tryz.func22,Tryz.ntmps22
 go_upto_region 1 with(fail)
 refine Au fun wa hq=>?_
 have hR:Blk wa w.heap.size 73 #[.int .i64 0, .int .i64 0, .int .i64 0, .int .i64 0, .int .i32 0]:=by rw [hq];exact Blk.new w _ _
 have hb:Below w.heap.size w wa:=by rw [hq];exact(Below.refl _ _).alloc (Nat.le_refl _) _
 clear hq
 go_wp2_with(first
  |(go_at_call 56;(with_reducible refine(CF.out _).mono ?_);rintro e w2 ⟨rfl,hb1⟩;have hR2:=hR.ext hb1)
  |(refine Ao rfl 73 _ rfl [] ?_ _ S6 ?_;kernel_rfl)
  |(refine Ab rfl 73 _ _ rfl w.heap.size Q6.cells rfl rfl 73 _ hR2 A4 rfl Do ?_;intro w5 hB5 hg5;have hBc:=hB5.cell))
 exact bodyPost_ret (v := .tuple #[.agg Q6.cells, .bool false]) (by simp [results,Tryz.results22,go_sem,hBc]) rfl ⟨rfl,below_grown (hb.trans (hb1.mono hb.size)) hg5 (Nat.le_trans hb.size hb1.size) (Nat.le_refl _)⟩
theorem Af6 (low mid up w:Int) (m0:0≤mid) (m1:mid<8) (u0:0≤up) (hl:low=w%128):(Fp low mid up w).1≤48:=by
 obtain⟨h1,_⟩:=Vy low mid up w m0 m1 u0 hl
 have hk:=find_ok low mid up w Eq Wb
 rw [←h1]
 generalize F9 low mid up w Eq=p at hk
 unfold Agq at hk
 simp only [Bool.or_eq_true,Bool.and_eq_true,decide_eq_true_eq] at hk
 omega
theorem Zv (x:Int) (w:World) (h0:0≤x) (h1:x≤4294967295) :
  Calls Tryz.prog 22 #[.int .u32 x] w fun e w'=>e = .returned (.tuple #[.agg ((Ld x).getD Q6).cells, .bool (Ld x).isSome])∧Below w.heap.size w w':=by
 have CF:=fun W=>Af7 x W h0 h1
 rw [Ahn]
 unfold Aiy
 have hb:=Af5 (Ap x 0 6) (Ap x 12 14) (Ap x 25 31) x
 have h48:=Af6 (Ap x 0 6) (Ap x 12 14) (Ap x 25 31) x (Oz _ _ _).1 (by simpa using (Oz x 12 14).2) (Oz _ _ _).1 (by unfold Ap;simp)
 generalize Fp (Ap x 0 6) (Ap x 12 14) (Ap x 25 31) x=p at *
 obtain⟨op,f⟩:=p
 simp only at CF hb h48 ⊢
 by_cases hop:op<0
 ·rw [if_pos hop]
  exact Ae1 x op _ w h0 h1 hop (Lib.hid CF)
 ·rw [if_neg hop]
  obtain rfl | rfl | rfl | rfl | rfl | rfl | rfl | rfl:f=0∨f=1∨f=2∨f=3∨f=4∨f=5∨f=6∨f=7:=by omega
  ·exact Ai4 x op w h0 h1 (by omega) h48 (Lib.hid CF)
  ·exact Ai5 x op w h0 h1 (by omega) h48 (Lib.hid CF)
  ·exact Ai6 x op w h0 h1 (by omega) h48 (Lib.hid CF)
  ·exact Ai7 x op w h0 h1 (by omega) h48 (Lib.hid CF)
  ·exact Ai8 x op w h0 h1 (by omega) h48 (Lib.hid CF)
  ·exact Ai9 x op w h0 h1 (by omega) h48 (Lib.hid CF)
  ·exact Aja x op w h0 h1 (by omega) h48 (Lib.hid CF)
  ·exact Ajb x op w h0 h1 (by omega) h48 (Lib.hid CF)
end Go.Proofs.YtapgojgcmlnbgacGreat
