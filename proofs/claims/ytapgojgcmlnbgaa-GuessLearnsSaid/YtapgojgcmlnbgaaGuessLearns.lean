/- GuessLearns, walked. -/
import Derived.Test.YtapgojgcmlnbgaaGuess
import Derived.Test.YtapgojgcmlnbgaaGuessLearnsPlain
namespace Go.Proofs.Ytapgojgcmlnbgaa
open Go.RowKit

set_option maxRecDepth 100000 in
set_option maxHeartbeats 1000000 in
theorem guessLearns_walk (cs : Array Value) (pc n by_ : Int) (w : World) (h0 : 0 ≤ pc) (h1 : pc ≤ 4294967295) (n0 : 0 ≤ n) (n1 : n ≤ 4294967295) (b0 : 0 ≤ by_) (b1 : by_ ≤ 4294967295) (hok : TabOk cs) :
    Calls Try.prog 6 #[.agg cs, .int .u32 pc, .int .u32 n, .int .u32 by_] w fun e w' => e = .returned (.bool true) ∧ Below w.heap.size w w' := by
  obtain ⟨c, cw, ca⟩ := hok.cnt _ (cntK_lt pc)
  obtain ⟨v, vw, va⟩ := hok.vl _ (vlK_lt pc)
  have Hs := Lib.hid hok.size
  have L4 := learn4 vw h0 h1 n0 n1 b0 b1
  have C5a := (learnC2 c n).1
  have C5b := (learnC2 c n).2
  have C8 := learnC3 (learnC (learnC c true n) true n) by_
  have C1 := fun W => learnValue_any cs v pc n W h0 h1 (by omega) (by omega) hok vw va
  obtain ⟨ok1, vw1, va1⟩ := lv_ok hok vw h0 h1 (n := n) (by omega) (by omega)
  generalize learnValueP cs v pc n = E1 at C1 ok1 va1
  generalize learnV v pc n = v1 at C1 vw1 va1 L4
  have C2 := fun W => learnValue_any E1 v1 pc ((n + by_) % 4294967296) W h0 h1 (by omega) (by omega) ok1 vw1 va1
  obtain ⟨ok2, vw2, va2⟩ := lv_ok ok1 vw1 h0 h1 (n := ((n + by_) % 4294967296)) (by omega) (by omega)
  generalize learnValueP E1 v1 pc ((n + by_) % 4294967296) = E2 at C2 ok2 va2
  generalize learnV v1 pc ((n + by_) % 4294967296) = v2 at C2 vw2 va2 L4
  have C3 := fun W => learnValue_any E2 v2 pc ((n + 2 * by_) % 4294967296) W h0 h1 (by omega) (by omega) ok2 vw2 va2
  obtain ⟨ok3, vw3, va3⟩ := lv_ok ok2 vw2 h0 h1 (n := ((n + 2 * by_) % 4294967296)) (by omega) (by omega)
  generalize learnValueP E2 v2 pc ((n + 2 * by_) % 4294967296) = E3 at C3 ok3 va3
  generalize learnV v2 pc ((n + 2 * by_) % 4294967296) = v3 at C3 vw3 va3 L4
  have C4 := fun W => learnValue_any E3 v3 pc ((n + 3 * by_) % 4294967296) W h0 h1 (by omega) (by omega) ok3 vw3 va3
  obtain ⟨ok4, vw4, va4⟩ := lv_ok ok3 vw3 h0 h1 (n := ((n + 3 * by_) % 4294967296)) (by omega) (by omega)
  generalize learnValueP E3 v3 pc ((n + 3 * by_) % 4294967296) = E4 at C4 ok4 va4
  generalize learnV v3 pc ((n + 3 * by_) % 4294967296) = v4 at C4 vw4 va4 L4
  have CV := fun W => gvalue_any E4 v4 pc W h0 h1 ok4.size vw4 va4
  rw [L4] at CV
  have B1 := fun W => learnBranch_any cs c pc n true W h0 h1 (by omega) (by omega) hok cw ca
  obtain ⟨bk1, cw1, ca1⟩ := lb_ok (pc := pc) true hok cw (n := n) (by omega) (by omega)
  generalize learnBranchP cs c pc true n = F1 at B1 bk1 ca1
  generalize learnC c true n = c1 at B1 cw1 ca1 C5a C5b C8
  have B2 := fun W => learnBranch_any F1 c1 pc n true W h0 h1 (by omega) (by omega) bk1 cw1 ca1
  obtain ⟨bk2, cw2, ca2⟩ := lb_ok (pc := pc) true bk1 cw1 (n := n) (by omega) (by omega)
  generalize learnBranchP F1 c1 pc true n = F2 at B2 bk2 ca2
  generalize learnC c1 true n = c2 at B2 cw2 ca2 C5a C5b C8
  have B3 := fun W => learnBranch_any F2 c2 pc by_ false W h0 h1 (by omega) (by omega) bk2 cw2 ca2
  obtain ⟨bk3, cw3, ca3⟩ := lb_ok (pc := pc) false bk2 cw2 (n := by_) (by omega) (by omega)
  generalize learnBranchP F2 c2 pc false by_ = F3 at B3 bk3 ca3
  generalize learnC c2 false by_ = c3 at B3 cw3 ca3 C5a C5b C8
  have B4 := fun W => learnBranch_any F3 c3 pc by_ false W h0 h1 (by omega) (by omega) bk3 cw3 ca3
  obtain ⟨bk4, cw4, ca4⟩ := lb_ok (pc := pc) false bk3 cw3 (n := by_) (by omega) (by omega)
  generalize learnBranchP F3 c3 pc false by_ = F4 at B4 bk4 ca4
  generalize learnC c3 false by_ = c4 at B4 cw4 ca4 C5a C5b C8
  have B5 := fun W => learnBranch_any F4 c4 pc by_ false W h0 h1 (by omega) (by omega) bk4 cw4 ca4
  obtain ⟨bk5, cw5, ca5⟩ := lb_ok (pc := pc) false bk4 cw4 (n := by_) (by omega) (by omega)
  generalize learnBranchP F4 c4 pc false by_ = F5 at B5 bk5 ca5
  generalize learnC c4 false by_ = c5 at B5 cw5 ca5 C5a C5b C8
  have BA := fun W => branch_any F2 c2 pc W h0 h1 bk2.size ca2
  have BB := fun W => branch_any F5 c5 pc W h0 h1 bk5.size ca5
  rw [decide_eq_true C5a, C5b] at BA
  rw [decide_eq_false (show ¬ 2 ≤ c5.lv by omega)] at BB
  generalize c5.tg = tg at BB
  have Z1 := Lib.hid ok1.size
  have O1 := Lib.hid ok1.one
  replace C1 := Lib.hid C1
  have Z2 := Lib.hid ok2.size
  have O2 := Lib.hid ok2.one
  replace C2 := Lib.hid C2
  have Z3 := Lib.hid ok3.size
  have O3 := Lib.hid ok3.one
  replace C3 := Lib.hid C3
  have Z4 := Lib.hid ok4.size
  have O4 := Lib.hid ok4.one
  replace C4 := Lib.hid C4
  have Y1 := Lib.hid bk1.size
  have Q1 := Lib.hid bk1.one
  replace B1 := Lib.hid B1
  have Y2 := Lib.hid bk2.size
  have Q2 := Lib.hid bk2.one
  replace B2 := Lib.hid B2
  have Y3 := Lib.hid bk3.size
  have Q3 := Lib.hid bk3.one
  replace B3 := Lib.hid B3
  have Y4 := Lib.hid bk4.size
  have Q4 := Lib.hid bk4.one
  replace B4 := Lib.hid B4
  have Y5 := Lib.hid bk5.size
  have Q5 := Lib.hid bk5.one
  replace B5 := Lib.hid B5
  replace CV := Lib.hid CV
  replace BA := Lib.hid BA
  replace BB := Lib.hid BB
  clear hok cw ca vw va L4 C5a C5b C8 ok1 vw1 va1 ok2 vw2 va2 ok3 vw3 va3 ok4 vw4 va4 bk1 cw1 ca1 bk2 cw2 ca2 bk3 cw3 ca3 bk4 cw4 ca4 bk5 cw5 ca5
  clear v c v1 v2 v3 v4 c1 c2 c3 c4 c5
  have e1 : (n == n) = true := by simp
  have e2 : ((n + 4 * by_) % 4294967296 == (n + 4 * by_) % 4294967296) = true := by simp
  go_enter Try.func6, Try.ntmps6
  go_upto_region 1 with (fail)
  refine wp_gen fun wa hq => ?_
  have hB : Blk wa w.heap.size 38 cs := by rw [hq]; exact Blk.new w _ _
  have hb : Below w.heap.size w wa := by rw [hq]; exact (Below.refl _ _).alloc (Nat.le_refl _) _
  clear hq
  go_upto_region 2 with (first
    | (refine load_tab rfl _ rfl w.heap.size rfl cs hB Hs.out ?_)
    | (go_at_call 22; (with_reducible refine (C1.out _).mono ?_); rintro e w1 ⟨rfl, hb1⟩)
    | (refine store_tab rfl _ _ rfl w1.heap.size E1 rfl rfl _ (Blk.new w1 _ _) Z1.out rfl O1.out ?_; intro wn hA2 hg1))
  have zC := hB.lt
  have z7 := hb1.size
  have z8 := hg1.size
  simp only [World.size_alloc] at z8
  replace hB := ((hB.ext hb1).alloc (.cells _ 38)).grown hg1 (by simp; omega)
  replace hb := below_grown ((hb.trans (hb1.mono hb.size)).alloc (Nat.le_trans hb.size hb1.size) (.cells _ 38)) hg1 (by simp; have := hb.size; omega) (Nat.le_trans hb.size hb1.size)
  have hA := hA2
  have Hne := Lib.hid (show w.heap.size ≠ w1.heap.size by omega)
  have Hge := Lib.hid (show w.heap.size ≤ w1.heap.size by omega)
  clear hb1 hg1 zC z7 z8 hA2
  go_upto_region 3 with (first
    | (refine load_tab rfl _ rfl w1.heap.size rfl _ hA Z1.out ?_)
    | (go_at_call 22; (with_reducible refine (C2.out _).mono ?_); rintro e w2 ⟨rfl, hb1⟩)
    | (refine store_tab rfl _ _ rfl w1.heap.size E2 rfl rfl _ (hA.ext hb1) Z2.out Z1.out O2.out ?_; intro wn hA2 hg1))
  
  replace hB := (hB.ext hb1).grown hg1 (by have := Hne.out; simp; omega)
  replace hb := below_grown (hb.trans (hb1.mono hb.size)) hg1 (by have := hb.size; have := hb1.size; omega) Hge.out
  replace hA := hA2
  clear hb1 hg1 hA2
  go_upto_region 4 with (first
    | (refine load_tab rfl _ rfl w1.heap.size rfl _ hA Z2.out ?_)
    | (go_at_call 22; (with_reducible refine (C3.out _).mono ?_); rintro e w3 ⟨rfl, hb1⟩)
    | (refine store_tab rfl _ _ rfl w1.heap.size E3 rfl rfl _ (hA.ext hb1) Z3.out Z2.out O3.out ?_; intro wn hA2 hg1))
  
  replace hB := (hB.ext hb1).grown hg1 (by have := Hne.out; simp; omega)
  replace hb := below_grown (hb.trans (hb1.mono hb.size)) hg1 (by have := hb.size; have := hb1.size; omega) Hge.out
  replace hA := hA2
  clear hb1 hg1 hA2
  go_upto_region 5 with (first
    | (refine load_tab rfl _ rfl w1.heap.size rfl _ hA Z3.out ?_)
    | (go_at_call 22; (with_reducible refine (C4.out _).mono ?_); rintro e w4 ⟨rfl, hb1⟩)
    | (refine store_tab rfl _ _ rfl w1.heap.size E4 rfl rfl _ (hA.ext hb1) Z4.out Z3.out O4.out ?_; intro wn hA2 hg1))
  
  replace hB := (hB.ext hb1).grown hg1 (by have := Hne.out; simp; omega)
  replace hb := below_grown (hb.trans (hb1.mono hb.size)) hg1 (by have := hb.size; have := hb1.size; omega) Hge.out
  replace hA := hA2
  clear hb1 hg1 hA2
  go_upto_region 6 with (first
    | (refine load_tab rfl _ rfl w1.heap.size rfl _ hA Z4.out ?_)
    | (go_at_call 19; (with_reducible refine (CV.out _).mono ?_); rintro e w5 ⟨rfl, hb1⟩))
  replace hB := hB.ext hb1
  replace hb := hb.trans (hb1.mono hb.size)
  replace hA := hA.ext hb1
  clear hb1
  clear Hne Hge hA
  go_upto_region 7 with (first
    | (refine load_tab rfl _ rfl w.heap.size rfl cs hB Hs.out ?_)
    | (go_at_call 21; (with_reducible refine (B1.out _).mono ?_); rintro e w6 ⟨rfl, hb1⟩)
    | (refine store_tab rfl _ _ rfl w6.heap.size F1 rfl rfl _ (Blk.new w6 _ _) Y1.out rfl Q1.out ?_; intro wn hA2 hg1))
  have zC := hB.lt
  have z7 := hb1.size
  have z8 := hg1.size
  simp only [World.size_alloc] at z8
  replace hB := ((hB.ext hb1).alloc (.cells _ 38)).grown hg1 (by simp; omega)
  replace hb := below_grown ((hb.trans (hb1.mono hb.size)).alloc (Nat.le_trans hb.size hb1.size) (.cells _ 38)) hg1 (by simp; have := hb.size; omega) (Nat.le_trans hb.size hb1.size)
  have hA := hA2
  have Hne := Lib.hid (show w.heap.size ≠ w6.heap.size by omega)
  have Hge := Lib.hid (show w.heap.size ≤ w6.heap.size by omega)
  clear hb1 hg1 zC z7 z8 hA2
  go_upto_region 8 with (first
    | (refine load_tab rfl _ rfl w6.heap.size rfl _ hA Y1.out ?_)
    | (go_at_call 21; (with_reducible refine (B2.out _).mono ?_); rintro e w7 ⟨rfl, hb1⟩)
    | (refine store_tab rfl _ _ rfl w6.heap.size F2 rfl rfl _ (hA.ext hb1) Y2.out Y1.out Q2.out ?_; intro wn hA2 hg1))
  
  replace hB := (hB.ext hb1).grown hg1 (by have := Hne.out; simp; omega)
  replace hb := below_grown (hb.trans (hb1.mono hb.size)) hg1 (by have := hb.size; have := hb1.size; omega) Hge.out
  replace hA := hA2
  clear hb1 hg1 hA2
  go_upto_region 9 with (first
    | (refine load_tab rfl _ rfl w6.heap.size rfl _ hA Y2.out ?_)
    | (go_at_call 17; (with_reducible refine (BA.out _).mono ?_); rintro e w8 ⟨rfl, hb1⟩))
  replace hB := hB.ext hb1
  replace hb := hb.trans (hb1.mono hb.size)
  replace hA := hA.ext hb1
  clear hb1
  go_upto_region 10 with (first
    | (refine load_tab rfl _ rfl w6.heap.size rfl _ hA Y2.out ?_)
    | (go_at_call 21; (with_reducible refine (B3.out _).mono ?_); rintro e w9 ⟨rfl, hb1⟩)
    | (refine store_tab rfl _ _ rfl w6.heap.size F3 rfl rfl _ (hA.ext hb1) Y3.out Y2.out Q3.out ?_; intro wn hA2 hg1))
  
  replace hB := (hB.ext hb1).grown hg1 (by have := Hne.out; simp; omega)
  replace hb := below_grown (hb.trans (hb1.mono hb.size)) hg1 (by have := hb.size; have := hb1.size; omega) Hge.out
  replace hA := hA2
  clear hb1 hg1 hA2
  go_upto_region 11 with (first
    | (refine load_tab rfl _ rfl w6.heap.size rfl _ hA Y3.out ?_)
    | (go_at_call 21; (with_reducible refine (B4.out _).mono ?_); rintro e wA ⟨rfl, hb1⟩)
    | (refine store_tab rfl _ _ rfl w6.heap.size F4 rfl rfl _ (hA.ext hb1) Y4.out Y3.out Q4.out ?_; intro wn hA2 hg1))
  
  replace hB := (hB.ext hb1).grown hg1 (by have := Hne.out; simp; omega)
  replace hb := below_grown (hb.trans (hb1.mono hb.size)) hg1 (by have := hb.size; have := hb1.size; omega) Hge.out
  replace hA := hA2
  clear hb1 hg1 hA2
  go_upto_region 12 with (first
    | (refine load_tab rfl _ rfl w6.heap.size rfl _ hA Y4.out ?_)
    | (go_at_call 21; (with_reducible refine (B5.out _).mono ?_); rintro e wB ⟨rfl, hb1⟩)
    | (refine store_tab rfl _ _ rfl w6.heap.size F5 rfl rfl _ (hA.ext hb1) Y5.out Y4.out Q5.out ?_; intro wn hA2 hg1))
  
  replace hB := (hB.ext hb1).grown hg1 (by have := Hne.out; simp; omega)
  replace hb := below_grown (hb.trans (hb1.mono hb.size)) hg1 (by have := hb.size; have := hb1.size; omega) Hge.out
  replace hA := hA2
  clear hb1 hg1 hA2
  go_upto_region 13 with (first
    | (refine load_tab rfl _ rfl w6.heap.size rfl _ hA Y5.out ?_)
    | (go_at_call 17; (with_reducible refine (BB.out _).mono ?_); rintro e wC ⟨rfl, hb1⟩))
  replace hB := hB.ext hb1
  replace hb := hb.trans (hb1.mono hb.size)
  replace hA := hA.ext hb1
  clear hb1
  go_simp
  go_wp2
  go_ret
  exact ⟨rfl, hb⟩
end Go.Proofs.Ytapgojgcmlnbgaa
