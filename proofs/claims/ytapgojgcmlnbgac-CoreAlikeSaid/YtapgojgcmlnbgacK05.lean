/- Parts of a proof. -/
import Derived.Test.YtapgojgcmlnbgacK04
set_option linter.unusedSimpArgs false
set_option linter.unusedVariables false
set_option maxRecDepth 100000
set_option maxHeartbeats 16000000
namespace Go.Proofs.Ytapgojgcmlnbgac
open Go.RowKit
theorem of_1 (w:World):Calls Try.prog 86 #[.int .i64 1] w fun e w'=>e = .returned (.tuple #[.agg #[.int .i64 0, .int .u32 55, .int .u32 0, .int .u32 0], .bool true])∧Below w.heap.size w w':=by
 go_enter Try.func86,Try.ntmps86
 go_wp2_with(fail)
 exact bodyPost_ret (v := .tuple #[.agg #[.int .i64 0, .int .u32 55, .int .u32 0, .int .u32 0], .bool true]) (by simp [results,Try.results86,go_sem]) rfl ⟨rfl,((Below.refl _ _).alloc (Nat.le_refl _) _).alloc (by simp) _⟩
theorem of_2 (w:World):Calls Try.prog 86 #[.int .i64 2] w fun e w'=>e = .returned (.tuple #[.agg #[.int .i64 0, .int .u32 23, .int .u32 0, .int .u32 0], .bool true])∧Below w.heap.size w w':=by
 go_enter Try.func86,Try.ntmps86
 go_wp2_with(fail)
 exact bodyPost_ret (v := .tuple #[.agg #[.int .i64 0, .int .u32 23, .int .u32 0, .int .u32 0], .bool true]) (by simp [results,Try.results86,go_sem]) rfl ⟨rfl,((Below.refl _ _).alloc (Nat.le_refl _) _).alloc (by simp) _⟩
theorem of_3 (w:World):Calls Try.prog 86 #[.int .i64 3] w fun e w'=>e = .returned (.tuple #[.agg #[.int .i64 1, .int .u32 111, .int .u32 0, .int .u32 0], .bool true])∧Below w.heap.size w w':=by
 go_enter Try.func86,Try.ntmps86
 go_wp2_with(fail)
 exact bodyPost_ret (v := .tuple #[.agg #[.int .i64 1, .int .u32 111, .int .u32 0, .int .u32 0], .bool true]) (by simp [results,Try.results86,go_sem]) rfl ⟨rfl,((Below.refl _ _).alloc (Nat.le_refl _) _).alloc (by simp) _⟩
theorem of_4 (w:World):Calls Try.prog 86 #[.int .i64 4] w fun e w'=>e = .returned (.tuple #[.agg #[.int .i64 2, .int .u32 103, .int .u32 0, .int .u32 0], .bool true])∧Below w.heap.size w w':=by
 go_enter Try.func86,Try.ntmps86
 go_wp2_with(fail)
 exact bodyPost_ret (v := .tuple #[.agg #[.int .i64 2, .int .u32 103, .int .u32 0, .int .u32 0], .bool true]) (by simp [results,Try.results86,go_sem]) rfl ⟨rfl,((Below.refl _ _).alloc (Nat.le_refl _) _).alloc (by simp) _⟩
theorem of_5 (w:World):Calls Try.prog 86 #[.int .i64 5] w fun e w'=>e = .returned (.tuple #[.agg #[.int .i64 4, .int .u32 99, .int .u32 0, .int .u32 0], .bool true])∧Below w.heap.size w w':=by
 have hbq:=(((Below.refl w.heap.size w).alloc (Nat.le_refl _) (.cells #[.int .i64 5] 3)).alloc (by simp) (.cells #[.int .i64 0, .int .u32 0, .int .u32 0, .int .u32 0] 154)).alloc (by simp;omega) (.cells #[.int .u32 0, .int .u32 1, .int .u32 4, .int .u32 5, .int .u32 6, .int .u32 7] 24)
 go_enter Try.func86,Try.ntmps86
 go_wp2_with(go_at_call 94;(refine(up_any 5 5 4 99 0 w.heap.size (w.heap.size+2) 6 _ ?_ ?_ ?_ ?_ ?_ ?_).mono ?_;decide;decide;decide;decide;go_simp;go_simp;rintro e w1 ⟨rfl,hb1⟩;have hR:=((Blk.newAt (w.alloc (.cells #[.int .i64 5] 3)) 154 #[.int .i64 0, .int .u32 0, .int .u32 0, .int .u32 0] (g:=w.heap.size+1) (by simp)).alloc _).ext hb1;have hRc:=hR.cell;have hRf:=hR.frozen))
 exact bodyPost_ret (v := .tuple #[.agg #[.int .i64 4, .int .u32 99, .int .u32 0, .int .u32 0], .bool true]) (by simp [results,Try.results86,go_sem,hRc]) rfl
  ⟨rfl,below_set (Nat.le_succ _) (below_set (Nat.le_succ _) (below_set (Nat.le_succ _) (below_set (Nat.le_succ _) (hbq.trans (hb1.mono (by simp;omega))))))⟩
theorem of_6 (w:World):Calls Try.prog 86 #[.int .i64 6] w fun e w'=>e = .returned (.tuple #[.agg #[.int .i64 4, .int .u32 99, .int .u32 1, .int .u32 0], .bool true])∧Below w.heap.size w w':=by
 have hbq:=(((Below.refl w.heap.size w).alloc (Nat.le_refl _) (.cells #[.int .i64 6] 3)).alloc (by simp) (.cells #[.int .i64 0, .int .u32 0, .int .u32 0, .int .u32 0] 154)).alloc (by simp;omega) (.cells #[.int .u32 0, .int .u32 1, .int .u32 4, .int .u32 5, .int .u32 6, .int .u32 7] 24)
 go_enter Try.func86,Try.ntmps86
 go_wp2_with(go_at_call 94;(refine(up_any 6 5 4 99 1 w.heap.size (w.heap.size+2) 6 _ ?_ ?_ ?_ ?_ ?_ ?_).mono ?_;decide;decide;decide;decide;go_simp;go_simp;rintro e w1 ⟨rfl,hb1⟩;have hR:=((Blk.newAt (w.alloc (.cells #[.int .i64 6] 3)) 154 #[.int .i64 0, .int .u32 0, .int .u32 0, .int .u32 0] (g:=w.heap.size+1) (by simp)).alloc _).ext hb1;have hRc:=hR.cell;have hRf:=hR.frozen))
 exact bodyPost_ret (v := .tuple #[.agg #[.int .i64 4, .int .u32 99, .int .u32 1, .int .u32 0], .bool true]) (by simp [results,Try.results86,go_sem,hRc]) rfl
  ⟨rfl,below_set (Nat.le_succ _) (below_set (Nat.le_succ _) (below_set (Nat.le_succ _) (below_set (Nat.le_succ _) (hbq.trans (hb1.mono (by simp;omega))))))⟩
theorem of_7 (w:World):Calls Try.prog 86 #[.int .i64 7] w fun e w'=>e = .returned (.tuple #[.agg #[.int .i64 4, .int .u32 99, .int .u32 4, .int .u32 0], .bool true])∧Below w.heap.size w w':=by
 have hbq:=(((Below.refl w.heap.size w).alloc (Nat.le_refl _) (.cells #[.int .i64 7] 3)).alloc (by simp) (.cells #[.int .i64 0, .int .u32 0, .int .u32 0, .int .u32 0] 154)).alloc (by simp;omega) (.cells #[.int .u32 0, .int .u32 1, .int .u32 4, .int .u32 5, .int .u32 6, .int .u32 7] 24)
 go_enter Try.func86,Try.ntmps86
 go_wp2_with(go_at_call 94;(refine(up_any 7 5 4 99 4 w.heap.size (w.heap.size+2) 6 _ ?_ ?_ ?_ ?_ ?_ ?_).mono ?_;decide;decide;decide;decide;go_simp;go_simp;rintro e w1 ⟨rfl,hb1⟩;have hR:=((Blk.newAt (w.alloc (.cells #[.int .i64 7] 3)) 154 #[.int .i64 0, .int .u32 0, .int .u32 0, .int .u32 0] (g:=w.heap.size+1) (by simp)).alloc _).ext hb1;have hRc:=hR.cell;have hRf:=hR.frozen))
 exact bodyPost_ret (v := .tuple #[.agg #[.int .i64 4, .int .u32 99, .int .u32 4, .int .u32 0], .bool true]) (by simp [results,Try.results86,go_sem,hRc]) rfl
  ⟨rfl,below_set (Nat.le_succ _) (below_set (Nat.le_succ _) (below_set (Nat.le_succ _) (below_set (Nat.le_succ _) (hbq.trans (hb1.mono (by simp;omega))))))⟩
theorem of_8 (w:World):Calls Try.prog 86 #[.int .i64 8] w fun e w'=>e = .returned (.tuple #[.agg #[.int .i64 4, .int .u32 99, .int .u32 5, .int .u32 0], .bool true])∧Below w.heap.size w w':=by
 have hbq:=(((Below.refl w.heap.size w).alloc (Nat.le_refl _) (.cells #[.int .i64 8] 3)).alloc (by simp) (.cells #[.int .i64 0, .int .u32 0, .int .u32 0, .int .u32 0] 154)).alloc (by simp;omega) (.cells #[.int .u32 0, .int .u32 1, .int .u32 4, .int .u32 5, .int .u32 6, .int .u32 7] 24)
 go_enter Try.func86,Try.ntmps86
 go_wp2_with(go_at_call 94;(refine(up_any 8 5 4 99 5 w.heap.size (w.heap.size+2) 6 _ ?_ ?_ ?_ ?_ ?_ ?_).mono ?_;decide;decide;decide;decide;go_simp;go_simp;rintro e w1 ⟨rfl,hb1⟩;have hR:=((Blk.newAt (w.alloc (.cells #[.int .i64 8] 3)) 154 #[.int .i64 0, .int .u32 0, .int .u32 0, .int .u32 0] (g:=w.heap.size+1) (by simp)).alloc _).ext hb1;have hRc:=hR.cell;have hRf:=hR.frozen))
 exact bodyPost_ret (v := .tuple #[.agg #[.int .i64 4, .int .u32 99, .int .u32 5, .int .u32 0], .bool true]) (by simp [results,Try.results86,go_sem,hRc]) rfl
  ⟨rfl,below_set (Nat.le_succ _) (below_set (Nat.le_succ _) (below_set (Nat.le_succ _) (below_set (Nat.le_succ _) (hbq.trans (hb1.mono (by simp;omega))))))⟩
theorem of_9 (w:World):Calls Try.prog 86 #[.int .i64 9] w fun e w'=>e = .returned (.tuple #[.agg #[.int .i64 4, .int .u32 99, .int .u32 6, .int .u32 0], .bool true])∧Below w.heap.size w w':=by
 have hbq:=(((Below.refl w.heap.size w).alloc (Nat.le_refl _) (.cells #[.int .i64 9] 3)).alloc (by simp) (.cells #[.int .i64 0, .int .u32 0, .int .u32 0, .int .u32 0] 154)).alloc (by simp;omega) (.cells #[.int .u32 0, .int .u32 1, .int .u32 4, .int .u32 5, .int .u32 6, .int .u32 7] 24)
 go_enter Try.func86,Try.ntmps86
 go_wp2_with(go_at_call 94;(refine(up_any 9 5 4 99 6 w.heap.size (w.heap.size+2) 6 _ ?_ ?_ ?_ ?_ ?_ ?_).mono ?_;decide;decide;decide;decide;go_simp;go_simp;rintro e w1 ⟨rfl,hb1⟩;have hR:=((Blk.newAt (w.alloc (.cells #[.int .i64 9] 3)) 154 #[.int .i64 0, .int .u32 0, .int .u32 0, .int .u32 0] (g:=w.heap.size+1) (by simp)).alloc _).ext hb1;have hRc:=hR.cell;have hRf:=hR.frozen))
 exact bodyPost_ret (v := .tuple #[.agg #[.int .i64 4, .int .u32 99, .int .u32 6, .int .u32 0], .bool true]) (by simp [results,Try.results86,go_sem,hRc]) rfl
  ⟨rfl,below_set (Nat.le_succ _) (below_set (Nat.le_succ _) (below_set (Nat.le_succ _) (below_set (Nat.le_succ _) (hbq.trans (hb1.mono (by simp;omega))))))⟩
theorem of_10 (w:World):Calls Try.prog 86 #[.int .i64 10] w fun e w'=>e = .returned (.tuple #[.agg #[.int .i64 4, .int .u32 99, .int .u32 7, .int .u32 0], .bool true])∧Below w.heap.size w w':=by
 have hbq:=(((Below.refl w.heap.size w).alloc (Nat.le_refl _) (.cells #[.int .i64 10] 3)).alloc (by simp) (.cells #[.int .i64 0, .int .u32 0, .int .u32 0, .int .u32 0] 154)).alloc (by simp;omega) (.cells #[.int .u32 0, .int .u32 1, .int .u32 4, .int .u32 5, .int .u32 6, .int .u32 7] 24)
 go_enter Try.func86,Try.ntmps86
 go_wp2_with(go_at_call 94;(refine(up_any 10 5 4 99 7 w.heap.size (w.heap.size+2) 6 _ ?_ ?_ ?_ ?_ ?_ ?_).mono ?_;decide;decide;decide;decide;go_simp;go_simp;rintro e w1 ⟨rfl,hb1⟩;have hR:=((Blk.newAt (w.alloc (.cells #[.int .i64 10] 3)) 154 #[.int .i64 0, .int .u32 0, .int .u32 0, .int .u32 0] (g:=w.heap.size+1) (by simp)).alloc _).ext hb1;have hRc:=hR.cell;have hRf:=hR.frozen))
 exact bodyPost_ret (v := .tuple #[.agg #[.int .i64 4, .int .u32 99, .int .u32 7, .int .u32 0], .bool true]) (by simp [results,Try.results86,go_sem,hRc]) rfl
  ⟨rfl,below_set (Nat.le_succ _) (below_set (Nat.le_succ _) (below_set (Nat.le_succ _) (below_set (Nat.le_succ _) (hbq.trans (hb1.mono (by simp;omega))))))⟩
theorem of_11 (w:World):Calls Try.prog 86 #[.int .i64 11] w fun e w'=>e = .returned (.tuple #[.agg #[.int .i64 2, .int .u32 3, .int .u32 0, .int .u32 0], .bool true])∧Below w.heap.size w w':=by
 have hbq:=(((Below.refl w.heap.size w).alloc (Nat.le_refl _) (.cells #[.int .i64 11] 3)).alloc (by simp) (.cells #[.int .i64 0, .int .u32 0, .int .u32 0, .int .u32 0] 154)).alloc (by simp;omega) (.cells #[.int .u32 0, .int .u32 1, .int .u32 2, .int .u32 4, .int .u32 5] 24)
 go_enter Try.func86,Try.ntmps86
 go_wp2_with(go_at_call 94;(refine(up_any 11 11 2 3 0 w.heap.size (w.heap.size+2) 5 _ ?_ ?_ ?_ ?_ ?_ ?_).mono ?_;decide;decide;decide;decide;go_simp;go_simp;rintro e w1 ⟨rfl,hb1⟩;have hR:=((Blk.newAt (w.alloc (.cells #[.int .i64 11] 3)) 154 #[.int .i64 0, .int .u32 0, .int .u32 0, .int .u32 0] (g:=w.heap.size+1) (by simp)).alloc _).ext hb1;have hRc:=hR.cell;have hRf:=hR.frozen))
 exact bodyPost_ret (v := .tuple #[.agg #[.int .i64 2, .int .u32 3, .int .u32 0, .int .u32 0], .bool true]) (by simp [results,Try.results86,go_sem,hRc]) rfl
  ⟨rfl,below_set (Nat.le_succ _) (below_set (Nat.le_succ _) (below_set (Nat.le_succ _) (below_set (Nat.le_succ _) (hbq.trans (hb1.mono (by simp;omega))))))⟩
theorem of_12 (w:World):Calls Try.prog 86 #[.int .i64 12] w fun e w'=>e = .returned (.tuple #[.agg #[.int .i64 2, .int .u32 3, .int .u32 1, .int .u32 0], .bool true])∧Below w.heap.size w w':=by
 have hbq:=(((Below.refl w.heap.size w).alloc (Nat.le_refl _) (.cells #[.int .i64 12] 3)).alloc (by simp) (.cells #[.int .i64 0, .int .u32 0, .int .u32 0, .int .u32 0] 154)).alloc (by simp;omega) (.cells #[.int .u32 0, .int .u32 1, .int .u32 2, .int .u32 4, .int .u32 5] 24)
 go_enter Try.func86,Try.ntmps86
 go_wp2_with(go_at_call 94;(refine(up_any 12 11 2 3 1 w.heap.size (w.heap.size+2) 5 _ ?_ ?_ ?_ ?_ ?_ ?_).mono ?_;decide;decide;decide;decide;go_simp;go_simp;rintro e w1 ⟨rfl,hb1⟩;have hR:=((Blk.newAt (w.alloc (.cells #[.int .i64 12] 3)) 154 #[.int .i64 0, .int .u32 0, .int .u32 0, .int .u32 0] (g:=w.heap.size+1) (by simp)).alloc _).ext hb1;have hRc:=hR.cell;have hRf:=hR.frozen))
 exact bodyPost_ret (v := .tuple #[.agg #[.int .i64 2, .int .u32 3, .int .u32 1, .int .u32 0], .bool true]) (by simp [results,Try.results86,go_sem,hRc]) rfl
  ⟨rfl,below_set (Nat.le_succ _) (below_set (Nat.le_succ _) (below_set (Nat.le_succ _) (below_set (Nat.le_succ _) (hbq.trans (hb1.mono (by simp;omega))))))⟩
theorem of_13 (w:World):Calls Try.prog 86 #[.int .i64 13] w fun e w'=>e = .returned (.tuple #[.agg #[.int .i64 2, .int .u32 3, .int .u32 2, .int .u32 0], .bool true])∧Below w.heap.size w w':=by
 have hbq:=(((Below.refl w.heap.size w).alloc (Nat.le_refl _) (.cells #[.int .i64 13] 3)).alloc (by simp) (.cells #[.int .i64 0, .int .u32 0, .int .u32 0, .int .u32 0] 154)).alloc (by simp;omega) (.cells #[.int .u32 0, .int .u32 1, .int .u32 2, .int .u32 4, .int .u32 5] 24)
 go_enter Try.func86,Try.ntmps86
 go_wp2_with(go_at_call 94;(refine(up_any 13 11 2 3 2 w.heap.size (w.heap.size+2) 5 _ ?_ ?_ ?_ ?_ ?_ ?_).mono ?_;decide;decide;decide;decide;go_simp;go_simp;rintro e w1 ⟨rfl,hb1⟩;have hR:=((Blk.newAt (w.alloc (.cells #[.int .i64 13] 3)) 154 #[.int .i64 0, .int .u32 0, .int .u32 0, .int .u32 0] (g:=w.heap.size+1) (by simp)).alloc _).ext hb1;have hRc:=hR.cell;have hRf:=hR.frozen))
 exact bodyPost_ret (v := .tuple #[.agg #[.int .i64 2, .int .u32 3, .int .u32 2, .int .u32 0], .bool true]) (by simp [results,Try.results86,go_sem,hRc]) rfl
  ⟨rfl,below_set (Nat.le_succ _) (below_set (Nat.le_succ _) (below_set (Nat.le_succ _) (below_set (Nat.le_succ _) (hbq.trans (hb1.mono (by simp;omega))))))⟩
theorem of_14 (w:World):Calls Try.prog 86 #[.int .i64 14] w fun e w'=>e = .returned (.tuple #[.agg #[.int .i64 2, .int .u32 3, .int .u32 4, .int .u32 0], .bool true])∧Below w.heap.size w w':=by
 have hbq:=(((Below.refl w.heap.size w).alloc (Nat.le_refl _) (.cells #[.int .i64 14] 3)).alloc (by simp) (.cells #[.int .i64 0, .int .u32 0, .int .u32 0, .int .u32 0] 154)).alloc (by simp;omega) (.cells #[.int .u32 0, .int .u32 1, .int .u32 2, .int .u32 4, .int .u32 5] 24)
 go_enter Try.func86,Try.ntmps86
 go_wp2_with(go_at_call 94;(refine(up_any 14 11 2 3 4 w.heap.size (w.heap.size+2) 5 _ ?_ ?_ ?_ ?_ ?_ ?_).mono ?_;decide;decide;decide;decide;go_simp;go_simp;rintro e w1 ⟨rfl,hb1⟩;have hR:=((Blk.newAt (w.alloc (.cells #[.int .i64 14] 3)) 154 #[.int .i64 0, .int .u32 0, .int .u32 0, .int .u32 0] (g:=w.heap.size+1) (by simp)).alloc _).ext hb1;have hRc:=hR.cell;have hRf:=hR.frozen))
 exact bodyPost_ret (v := .tuple #[.agg #[.int .i64 2, .int .u32 3, .int .u32 4, .int .u32 0], .bool true]) (by simp [results,Try.results86,go_sem,hRc]) rfl
  ⟨rfl,below_set (Nat.le_succ _) (below_set (Nat.le_succ _) (below_set (Nat.le_succ _) (below_set (Nat.le_succ _) (hbq.trans (hb1.mono (by simp;omega))))))⟩
theorem of_15 (w:World):Calls Try.prog 86 #[.int .i64 15] w fun e w'=>e = .returned (.tuple #[.agg #[.int .i64 2, .int .u32 3, .int .u32 5, .int .u32 0], .bool true])∧Below w.heap.size w w':=by
 have hbq:=(((Below.refl w.heap.size w).alloc (Nat.le_refl _) (.cells #[.int .i64 15] 3)).alloc (by simp) (.cells #[.int .i64 0, .int .u32 0, .int .u32 0, .int .u32 0] 154)).alloc (by simp;omega) (.cells #[.int .u32 0, .int .u32 1, .int .u32 2, .int .u32 4, .int .u32 5] 24)
 go_enter Try.func86,Try.ntmps86
 go_wp2_with(go_at_call 94;(refine(up_any 15 11 2 3 5 w.heap.size (w.heap.size+2) 5 _ ?_ ?_ ?_ ?_ ?_ ?_).mono ?_;decide;decide;decide;decide;go_simp;go_simp;rintro e w1 ⟨rfl,hb1⟩;have hR:=((Blk.newAt (w.alloc (.cells #[.int .i64 15] 3)) 154 #[.int .i64 0, .int .u32 0, .int .u32 0, .int .u32 0] (g:=w.heap.size+1) (by simp)).alloc _).ext hb1;have hRc:=hR.cell;have hRf:=hR.frozen))
 exact bodyPost_ret (v := .tuple #[.agg #[.int .i64 2, .int .u32 3, .int .u32 5, .int .u32 0], .bool true]) (by simp [results,Try.results86,go_sem,hRc]) rfl
  ⟨rfl,below_set (Nat.le_succ _) (below_set (Nat.le_succ _) (below_set (Nat.le_succ _) (below_set (Nat.le_succ _) (hbq.trans (hb1.mono (by simp;omega))))))⟩
theorem of_16 (w:World):Calls Try.prog 86 #[.int .i64 16] w fun e w'=>e = .returned (.tuple #[.agg #[.int .i64 5, .int .u32 35, .int .u32 0, .int .u32 0], .bool true])∧Below w.heap.size w w':=by
 have hbq:=(((Below.refl w.heap.size w).alloc (Nat.le_refl _) (.cells #[.int .i64 16] 3)).alloc (by simp) (.cells #[.int .i64 0, .int .u32 0, .int .u32 0, .int .u32 0] 154)).alloc (by simp;omega) (.cells #[.int .u32 0, .int .u32 1, .int .u32 2] 24)
 go_enter Try.func86,Try.ntmps86
 go_wp2_with(go_at_call 94;(refine(up_any 16 16 5 35 0 w.heap.size (w.heap.size+2) 3 _ ?_ ?_ ?_ ?_ ?_ ?_).mono ?_;decide;decide;decide;decide;go_simp;go_simp;rintro e w1 ⟨rfl,hb1⟩;have hR:=((Blk.newAt (w.alloc (.cells #[.int .i64 16] 3)) 154 #[.int .i64 0, .int .u32 0, .int .u32 0, .int .u32 0] (g:=w.heap.size+1) (by simp)).alloc _).ext hb1;have hRc:=hR.cell;have hRf:=hR.frozen))
 exact bodyPost_ret (v := .tuple #[.agg #[.int .i64 5, .int .u32 35, .int .u32 0, .int .u32 0], .bool true]) (by simp [results,Try.results86,go_sem,hRc]) rfl
  ⟨rfl,below_set (Nat.le_succ _) (below_set (Nat.le_succ _) (below_set (Nat.le_succ _) (below_set (Nat.le_succ _) (hbq.trans (hb1.mono (by simp;omega))))))⟩
end Go.Proofs.Ytapgojgcmlnbgac
