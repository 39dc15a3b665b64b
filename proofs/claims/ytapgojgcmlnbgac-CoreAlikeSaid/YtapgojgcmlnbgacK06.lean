/- Parts of a proof. -/
import Derived.Test.YtapgojgcmlnbgacK04
set_option linter.unusedSimpArgs false
set_option linter.unusedVariables false
set_option maxRecDepth 100000
set_option maxHeartbeats 16000000
namespace Go.Proofs.Ytapgojgcmlnbgac
open Go.RowKit
theorem of_17 (w:World):Calls Try.prog 86 #[.int .i64 17] w fun e w'=>e = .returned (.tuple #[.agg #[.int .i64 5, .int .u32 35, .int .u32 1, .int .u32 0], .bool true])∧Below w.heap.size w w':=by
 have hbq:=(((Below.refl w.heap.size w).alloc (Nat.le_refl _) (.cells #[.int .i64 17] 3)).alloc (by simp) (.cells #[.int .i64 0, .int .u32 0, .int .u32 0, .int .u32 0] 154)).alloc (by simp;omega) (.cells #[.int .u32 0, .int .u32 1, .int .u32 2] 24)
 go_enter Try.func86,Try.ntmps86
 go_wp2_with(go_at_call 94;(refine(up_any 17 16 5 35 1 w.heap.size (w.heap.size+2) 3 _ ?_ ?_ ?_ ?_ ?_ ?_).mono ?_;decide;decide;decide;decide;go_simp;go_simp;rintro e w1 ⟨rfl,hb1⟩;have hR:=((Blk.newAt (w.alloc (.cells #[.int .i64 17] 3)) 154 #[.int .i64 0, .int .u32 0, .int .u32 0, .int .u32 0] (g:=w.heap.size+1) (by simp)).alloc _).ext hb1;have hRc:=hR.cell;have hRf:=hR.frozen))
 exact bodyPost_ret (v := .tuple #[.agg #[.int .i64 5, .int .u32 35, .int .u32 1, .int .u32 0], .bool true]) (by simp [results,Try.results86,go_sem,hRc]) rfl
  ⟨rfl,below_set (Nat.le_succ _) (below_set (Nat.le_succ _) (below_set (Nat.le_succ _) (below_set (Nat.le_succ _) (hbq.trans (hb1.mono (by simp;omega))))))⟩
theorem of_18 (w:World):Calls Try.prog 86 #[.int .i64 18] w fun e w'=>e = .returned (.tuple #[.agg #[.int .i64 5, .int .u32 35, .int .u32 2, .int .u32 0], .bool true])∧Below w.heap.size w w':=by
 have hbq:=(((Below.refl w.heap.size w).alloc (Nat.le_refl _) (.cells #[.int .i64 18] 3)).alloc (by simp) (.cells #[.int .i64 0, .int .u32 0, .int .u32 0, .int .u32 0] 154)).alloc (by simp;omega) (.cells #[.int .u32 0, .int .u32 1, .int .u32 2] 24)
 go_enter Try.func86,Try.ntmps86
 go_wp2_with(go_at_call 94;(refine(up_any 18 16 5 35 2 w.heap.size (w.heap.size+2) 3 _ ?_ ?_ ?_ ?_ ?_ ?_).mono ?_;decide;decide;decide;decide;go_simp;go_simp;rintro e w1 ⟨rfl,hb1⟩;have hR:=((Blk.newAt (w.alloc (.cells #[.int .i64 18] 3)) 154 #[.int .i64 0, .int .u32 0, .int .u32 0, .int .u32 0] (g:=w.heap.size+1) (by simp)).alloc _).ext hb1;have hRc:=hR.cell;have hRf:=hR.frozen))
 exact bodyPost_ret (v := .tuple #[.agg #[.int .i64 5, .int .u32 35, .int .u32 2, .int .u32 0], .bool true]) (by simp [results,Try.results86,go_sem,hRc]) rfl
  ⟨rfl,below_set (Nat.le_succ _) (below_set (Nat.le_succ _) (below_set (Nat.le_succ _) (below_set (Nat.le_succ _) (hbq.trans (hb1.mono (by simp;omega))))))⟩
theorem of_19 (w:World):Calls Try.prog 86 #[.int .i64 19] w fun e w'=>e = .returned (.tuple #[.agg #[.int .i64 2, .int .u32 19, .int .u32 0, .int .u32 0], .bool true])∧Below w.heap.size w w':=by
 have hbq:=(((Below.refl w.heap.size w).alloc (Nat.le_refl _) (.cells #[.int .i64 19] 3)).alloc (by simp) (.cells #[.int .i64 0, .int .u32 0, .int .u32 0, .int .u32 0] 154)).alloc (by simp;omega) (.cells #[.int .u32 0, .int .u32 2, .int .u32 3, .int .u32 4, .int .u32 6, .int .u32 7] 24)
 go_enter Try.func86,Try.ntmps86
 go_wp2_with(go_at_call 94;(refine(up_any 19 19 2 19 0 w.heap.size (w.heap.size+2) 6 _ ?_ ?_ ?_ ?_ ?_ ?_).mono ?_;decide;decide;decide;decide;go_simp;go_simp;rintro e w1 ⟨rfl,hb1⟩;have hR:=((Blk.newAt (w.alloc (.cells #[.int .i64 19] 3)) 154 #[.int .i64 0, .int .u32 0, .int .u32 0, .int .u32 0] (g:=w.heap.size+1) (by simp)).alloc _).ext hb1;have hRc:=hR.cell;have hRf:=hR.frozen))
 exact bodyPost_ret (v := .tuple #[.agg #[.int .i64 2, .int .u32 19, .int .u32 0, .int .u32 0], .bool true]) (by simp [results,Try.results86,go_sem,hRc]) rfl
  ⟨rfl,below_set (Nat.le_succ _) (below_set (Nat.le_succ _) (below_set (Nat.le_succ _) (below_set (Nat.le_succ _) (hbq.trans (hb1.mono (by simp;omega))))))⟩
theorem of_20 (w:World):Calls Try.prog 86 #[.int .i64 20] w fun e w'=>e = .returned (.tuple #[.agg #[.int .i64 2, .int .u32 19, .int .u32 2, .int .u32 0], .bool true])∧Below w.heap.size w w':=by
 have hbq:=(((Below.refl w.heap.size w).alloc (Nat.le_refl _) (.cells #[.int .i64 20] 3)).alloc (by simp) (.cells #[.int .i64 0, .int .u32 0, .int .u32 0, .int .u32 0] 154)).alloc (by simp;omega) (.cells #[.int .u32 0, .int .u32 2, .int .u32 3, .int .u32 4, .int .u32 6, .int .u32 7] 24)
 go_enter Try.func86,Try.ntmps86
 go_wp2_with(go_at_call 94;(refine(up_any 20 19 2 19 2 w.heap.size (w.heap.size+2) 6 _ ?_ ?_ ?_ ?_ ?_ ?_).mono ?_;decide;decide;decide;decide;go_simp;go_simp;rintro e w1 ⟨rfl,hb1⟩;have hR:=((Blk.newAt (w.alloc (.cells #[.int .i64 20] 3)) 154 #[.int .i64 0, .int .u32 0, .int .u32 0, .int .u32 0] (g:=w.heap.size+1) (by simp)).alloc _).ext hb1;have hRc:=hR.cell;have hRf:=hR.frozen))
 exact bodyPost_ret (v := .tuple #[.agg #[.int .i64 2, .int .u32 19, .int .u32 2, .int .u32 0], .bool true]) (by simp [results,Try.results86,go_sem,hRc]) rfl
  ⟨rfl,below_set (Nat.le_succ _) (below_set (Nat.le_succ _) (below_set (Nat.le_succ _) (below_set (Nat.le_succ _) (hbq.trans (hb1.mono (by simp;omega))))))⟩
theorem of_21 (w:World):Calls Try.prog 86 #[.int .i64 21] w fun e w'=>e = .returned (.tuple #[.agg #[.int .i64 2, .int .u32 19, .int .u32 3, .int .u32 0], .bool true])∧Below w.heap.size w w':=by
 have hbq:=(((Below.refl w.heap.size w).alloc (Nat.le_refl _) (.cells #[.int .i64 21] 3)).alloc (by simp) (.cells #[.int .i64 0, .int .u32 0, .int .u32 0, .int .u32 0] 154)).alloc (by simp;omega) (.cells #[.int .u32 0, .int .u32 2, .int .u32 3, .int .u32 4, .int .u32 6, .int .u32 7] 24)
 go_enter Try.func86,Try.ntmps86
 go_wp2_with(go_at_call 94;(refine(up_any 21 19 2 19 3 w.heap.size (w.heap.size+2) 6 _ ?_ ?_ ?_ ?_ ?_ ?_).mono ?_;decide;decide;decide;decide;go_simp;go_simp;rintro e w1 ⟨rfl,hb1⟩;have hR:=((Blk.newAt (w.alloc (.cells #[.int .i64 21] 3)) 154 #[.int .i64 0, .int .u32 0, .int .u32 0, .int .u32 0] (g:=w.heap.size+1) (by simp)).alloc _).ext hb1;have hRc:=hR.cell;have hRf:=hR.frozen))
 exact bodyPost_ret (v := .tuple #[.agg #[.int .i64 2, .int .u32 19, .int .u32 3, .int .u32 0], .bool true]) (by simp [results,Try.results86,go_sem,hRc]) rfl
  ⟨rfl,below_set (Nat.le_succ _) (below_set (Nat.le_succ _) (below_set (Nat.le_succ _) (below_set (Nat.le_succ _) (hbq.trans (hb1.mono (by simp;omega))))))⟩
theorem of_22 (w:World):Calls Try.prog 86 #[.int .i64 22] w fun e w'=>e = .returned (.tuple #[.agg #[.int .i64 2, .int .u32 19, .int .u32 4, .int .u32 0], .bool true])∧Below w.heap.size w w':=by
 have hbq:=(((Below.refl w.heap.size w).alloc (Nat.le_refl _) (.cells #[.int .i64 22] 3)).alloc (by simp) (.cells #[.int .i64 0, .int .u32 0, .int .u32 0, .int .u32 0] 154)).alloc (by simp;omega) (.cells #[.int .u32 0, .int .u32 2, .int .u32 3, .int .u32 4, .int .u32 6, .int .u32 7] 24)
 go_enter Try.func86,Try.ntmps86
 go_wp2_with(go_at_call 94;(refine(up_any 22 19 2 19 4 w.heap.size (w.heap.size+2) 6 _ ?_ ?_ ?_ ?_ ?_ ?_).mono ?_;decide;decide;decide;decide;go_simp;go_simp;rintro e w1 ⟨rfl,hb1⟩;have hR:=((Blk.newAt (w.alloc (.cells #[.int .i64 22] 3)) 154 #[.int .i64 0, .int .u32 0, .int .u32 0, .int .u32 0] (g:=w.heap.size+1) (by simp)).alloc _).ext hb1;have hRc:=hR.cell;have hRf:=hR.frozen))
 exact bodyPost_ret (v := .tuple #[.agg #[.int .i64 2, .int .u32 19, .int .u32 4, .int .u32 0], .bool true]) (by simp [results,Try.results86,go_sem,hRc]) rfl
  ⟨rfl,below_set (Nat.le_succ _) (below_set (Nat.le_succ _) (below_set (Nat.le_succ _) (below_set (Nat.le_succ _) (hbq.trans (hb1.mono (by simp;omega))))))⟩
theorem of_23 (w:World):Calls Try.prog 86 #[.int .i64 23] w fun e w'=>e = .returned (.tuple #[.agg #[.int .i64 2, .int .u32 19, .int .u32 6, .int .u32 0], .bool true])∧Below w.heap.size w w':=by
 have hbq:=(((Below.refl w.heap.size w).alloc (Nat.le_refl _) (.cells #[.int .i64 23] 3)).alloc (by simp) (.cells #[.int .i64 0, .int .u32 0, .int .u32 0, .int .u32 0] 154)).alloc (by simp;omega) (.cells #[.int .u32 0, .int .u32 2, .int .u32 3, .int .u32 4, .int .u32 6, .int .u32 7] 24)
 go_enter Try.func86,Try.ntmps86
 go_wp2_with(go_at_call 94;(refine(up_any 23 19 2 19 6 w.heap.size (w.heap.size+2) 6 _ ?_ ?_ ?_ ?_ ?_ ?_).mono ?_;decide;decide;decide;decide;go_simp;go_simp;rintro e w1 ⟨rfl,hb1⟩;have hR:=((Blk.newAt (w.alloc (.cells #[.int .i64 23] 3)) 154 #[.int .i64 0, .int .u32 0, .int .u32 0, .int .u32 0] (g:=w.heap.size+1) (by simp)).alloc _).ext hb1;have hRc:=hR.cell;have hRf:=hR.frozen))
 exact bodyPost_ret (v := .tuple #[.agg #[.int .i64 2, .int .u32 19, .int .u32 6, .int .u32 0], .bool true]) (by simp [results,Try.results86,go_sem,hRc]) rfl
  ⟨rfl,below_set (Nat.le_succ _) (below_set (Nat.le_succ _) (below_set (Nat.le_succ _) (below_set (Nat.le_succ _) (hbq.trans (hb1.mono (by simp;omega))))))⟩
theorem of_24 (w:World):Calls Try.prog 86 #[.int .i64 24] w fun e w'=>e = .returned (.tuple #[.agg #[.int .i64 2, .int .u32 19, .int .u32 7, .int .u32 0], .bool true])∧Below w.heap.size w w':=by
 have hbq:=(((Below.refl w.heap.size w).alloc (Nat.le_refl _) (.cells #[.int .i64 24] 3)).alloc (by simp) (.cells #[.int .i64 0, .int .u32 0, .int .u32 0, .int .u32 0] 154)).alloc (by simp;omega) (.cells #[.int .u32 0, .int .u32 2, .int .u32 3, .int .u32 4, .int .u32 6, .int .u32 7] 24)
 go_enter Try.func86,Try.ntmps86
 go_wp2_with(go_at_call 94;(refine(up_any 24 19 2 19 7 w.heap.size (w.heap.size+2) 6 _ ?_ ?_ ?_ ?_ ?_ ?_).mono ?_;decide;decide;decide;decide;go_simp;go_simp;rintro e w1 ⟨rfl,hb1⟩;have hR:=((Blk.newAt (w.alloc (.cells #[.int .i64 24] 3)) 154 #[.int .i64 0, .int .u32 0, .int .u32 0, .int .u32 0] (g:=w.heap.size+1) (by simp)).alloc _).ext hb1;have hRc:=hR.cell;have hRf:=hR.frozen))
 exact bodyPost_ret (v := .tuple #[.agg #[.int .i64 2, .int .u32 19, .int .u32 7, .int .u32 0], .bool true]) (by simp [results,Try.results86,go_sem,hRc]) rfl
  ⟨rfl,below_set (Nat.le_succ _) (below_set (Nat.le_succ _) (below_set (Nat.le_succ _) (below_set (Nat.le_succ _) (hbq.trans (hb1.mono (by simp;omega))))))⟩
theorem of_25 (w:World):Calls Try.prog 86 #[.int .i64 25] w fun e w'=>e = .returned (.tuple #[.agg #[.int .i64 3, .int .u32 19, .int .u32 1, .int .u32 0], .bool true])∧Below w.heap.size w w':=by
 go_enter Try.func86,Try.ntmps86
 go_wp2_with(fail)
 exact bodyPost_ret (v := .tuple #[.agg #[.int .i64 3, .int .u32 19, .int .u32 1, .int .u32 0], .bool true]) (by simp [results,Try.results86,go_sem]) rfl ⟨rfl,((Below.refl _ _).alloc (Nat.le_refl _) _).alloc (by simp) _⟩
theorem of_26 (w:World):Calls Try.prog 86 #[.int .i64 26] w fun e w'=>e = .returned (.tuple #[.agg #[.int .i64 3, .int .u32 19, .int .u32 5, .int .u32 0], .bool true])∧Below w.heap.size w w':=by
 go_enter Try.func86,Try.ntmps86
 go_wp2_with(fail)
 exact bodyPost_ret (v := .tuple #[.agg #[.int .i64 3, .int .u32 19, .int .u32 5, .int .u32 0], .bool true]) (by simp [results,Try.results86,go_sem]) rfl ⟨rfl,((Below.refl _ _).alloc (Nat.le_refl _) _).alloc (by simp) _⟩
theorem of_27 (w:World):Calls Try.prog 86 #[.int .i64 27] w fun e w'=>e = .returned (.tuple #[.agg #[.int .i64 3, .int .u32 19, .int .u32 5, .int .u32 32], .bool true])∧Below w.heap.size w w':=by
 go_enter Try.func86,Try.ntmps86
 go_wp2_with(fail)
 exact bodyPost_ret (v := .tuple #[.agg #[.int .i64 3, .int .u32 19, .int .u32 5, .int .u32 32], .bool true]) (by simp [results,Try.results86,go_sem]) rfl ⟨rfl,((Below.refl _ _).alloc (Nat.le_refl _) _).alloc (by simp) _⟩
theorem of_28 (w:World):Calls Try.prog 86 #[.int .i64 28] w fun e w'=>e = .returned (.tuple #[.agg #[.int .i64 6, .int .u32 51, .int .u32 0, .int .u32 0], .bool true])∧Below w.heap.size w w':=by
 have hbq:=(((Below.refl w.heap.size w).alloc (Nat.le_refl _) (.cells #[.int .i64 28] 3)).alloc (by simp) (.cells #[.int .i64 0, .int .u32 0, .int .u32 0, .int .u32 0] 154)).alloc (by simp;omega) (.cells #[.int .u32 0, .int .u32 0, .int .u32 1, .int .u32 2, .int .u32 3, .int .u32 4, .int .u32 5, .int .u32 5, .int .u32 6, .int .u32 7] 24)
 go_enter Try.func86,Try.ntmps86
 go_wp2_with(go_at_call 94;(refine(up_any 28 28 6 51 0 w.heap.size (w.heap.size+2) 10 _ ?_ ?_ ?_ ?_ ?_ ?_).mono ?_;decide;decide;decide;decide;go_simp;go_simp;rintro e w1 ⟨rfl,hb1⟩;have hR:=((Blk.newAt (w.alloc (.cells #[.int .i64 28] 3)) 154 #[.int .i64 0, .int .u32 0, .int .u32 0, .int .u32 0] (g:=w.heap.size+1) (by simp)).alloc _).ext hb1;have hRc:=hR.cell;have hRf:=hR.frozen))
 exact bodyPost_ret (v := .tuple #[.agg #[.int .i64 6, .int .u32 51, .int .u32 0, .int .u32 0], .bool true]) (by simp [results,Try.results86,go_sem,hRc]) rfl
  ⟨rfl,below_set (Nat.le_succ _) (below_set (Nat.le_succ _) (below_set (Nat.le_succ _) (below_set (Nat.le_succ _) (hbq.trans (hb1.mono (by simp;omega))))))⟩
theorem of_29 (w:World):Calls Try.prog 86 #[.int .i64 29] w fun e w'=>e = .returned (.tuple #[.agg #[.int .i64 6, .int .u32 51, .int .u32 0, .int .u32 32], .bool true])∧Below w.heap.size w w':=by
 go_enter Try.func86,Try.ntmps86
 go_wp2_with(fail)
 exact bodyPost_ret (v := .tuple #[.agg #[.int .i64 6, .int .u32 51, .int .u32 0, .int .u32 32], .bool true]) (by simp [results,Try.results86,go_sem]) rfl ⟨rfl,((Below.refl _ _).alloc (Nat.le_refl _) _).alloc (by simp) _⟩
theorem of_30 (w:World):Calls Try.prog 86 #[.int .i64 30] w fun e w'=>e = .returned (.tuple #[.agg #[.int .i64 6, .int .u32 51, .int .u32 1, .int .u32 0], .bool true])∧Below w.heap.size w w':=by
 have hbq:=(((Below.refl w.heap.size w).alloc (Nat.le_refl _) (.cells #[.int .i64 30] 3)).alloc (by simp) (.cells #[.int .i64 0, .int .u32 0, .int .u32 0, .int .u32 0] 154)).alloc (by simp;omega) (.cells #[.int .u32 0, .int .u32 0, .int .u32 1, .int .u32 2, .int .u32 3, .int .u32 4, .int .u32 5, .int .u32 5, .int .u32 6, .int .u32 7] 24)
 go_enter Try.func86,Try.ntmps86
 go_wp2_with(go_at_call 94;(refine(up_any 30 28 6 51 1 w.heap.size (w.heap.size+2) 10 _ ?_ ?_ ?_ ?_ ?_ ?_).mono ?_;decide;decide;decide;decide;go_simp;go_simp;rintro e w1 ⟨rfl,hb1⟩;have hR:=((Blk.newAt (w.alloc (.cells #[.int .i64 30] 3)) 154 #[.int .i64 0, .int .u32 0, .int .u32 0, .int .u32 0] (g:=w.heap.size+1) (by simp)).alloc _).ext hb1;have hRc:=hR.cell;have hRf:=hR.frozen))
 exact bodyPost_ret (v := .tuple #[.agg #[.int .i64 6, .int .u32 51, .int .u32 1, .int .u32 0], .bool true]) (by simp [results,Try.results86,go_sem,hRc]) rfl
  ⟨rfl,below_set (Nat.le_succ _) (below_set (Nat.le_succ _) (below_set (Nat.le_succ _) (below_set (Nat.le_succ _) (hbq.trans (hb1.mono (by simp;omega))))))⟩
theorem of_31 (w:World):Calls Try.prog 86 #[.int .i64 31] w fun e w'=>e = .returned (.tuple #[.agg #[.int .i64 6, .int .u32 51, .int .u32 2, .int .u32 0], .bool true])∧Below w.heap.size w w':=by
 have hbq:=(((Below.refl w.heap.size w).alloc (Nat.le_refl _) (.cells #[.int .i64 31] 3)).alloc (by simp) (.cells #[.int .i64 0, .int .u32 0, .int .u32 0, .int .u32 0] 154)).alloc (by simp;omega) (.cells #[.int .u32 0, .int .u32 0, .int .u32 1, .int .u32 2, .int .u32 3, .int .u32 4, .int .u32 5, .int .u32 5, .int .u32 6, .int .u32 7] 24)
 go_enter Try.func86,Try.ntmps86
 go_wp2_with(go_at_call 94;(refine(up_any 31 28 6 51 2 w.heap.size (w.heap.size+2) 10 _ ?_ ?_ ?_ ?_ ?_ ?_).mono ?_;decide;decide;decide;decide;go_simp;go_simp;rintro e w1 ⟨rfl,hb1⟩;have hR:=((Blk.newAt (w.alloc (.cells #[.int .i64 31] 3)) 154 #[.int .i64 0, .int .u32 0, .int .u32 0, .int .u32 0] (g:=w.heap.size+1) (by simp)).alloc _).ext hb1;have hRc:=hR.cell;have hRf:=hR.frozen))
 exact bodyPost_ret (v := .tuple #[.agg #[.int .i64 6, .int .u32 51, .int .u32 2, .int .u32 0], .bool true]) (by simp [results,Try.results86,go_sem,hRc]) rfl
  ⟨rfl,below_set (Nat.le_succ _) (below_set (Nat.le_succ _) (below_set (Nat.le_succ _) (below_set (Nat.le_succ _) (hbq.trans (hb1.mono (by simp;omega))))))⟩
theorem of_32 (w:World):Calls Try.prog 86 #[.int .i64 32] w fun e w'=>e = .returned (.tuple #[.agg #[.int .i64 6, .int .u32 51, .int .u32 3, .int .u32 0], .bool true])∧Below w.heap.size w w':=by
 have hbq:=(((Below.refl w.heap.size w).alloc (Nat.le_refl _) (.cells #[.int .i64 32] 3)).alloc (by simp) (.cells #[.int .i64 0, .int .u32 0, .int .u32 0, .int .u32 0] 154)).alloc (by simp;omega) (.cells #[.int .u32 0, .int .u32 0, .int .u32 1, .int .u32 2, .int .u32 3, .int .u32 4, .int .u32 5, .int .u32 5, .int .u32 6, .int .u32 7] 24)
 go_enter Try.func86,Try.ntmps86
 go_wp2_with(go_at_call 94;(refine(up_any 32 28 6 51 3 w.heap.size (w.heap.size+2) 10 _ ?_ ?_ ?_ ?_ ?_ ?_).mono ?_;decide;decide;decide;decide;go_simp;go_simp;rintro e w1 ⟨rfl,hb1⟩;have hR:=((Blk.newAt (w.alloc (.cells #[.int .i64 32] 3)) 154 #[.int .i64 0, .int .u32 0, .int .u32 0, .int .u32 0] (g:=w.heap.size+1) (by simp)).alloc _).ext hb1;have hRc:=hR.cell;have hRf:=hR.frozen))
 exact bodyPost_ret (v := .tuple #[.agg #[.int .i64 6, .int .u32 51, .int .u32 3, .int .u32 0], .bool true]) (by simp [results,Try.results86,go_sem,hRc]) rfl
  ⟨rfl,below_set (Nat.le_succ _) (below_set (Nat.le_succ _) (below_set (Nat.le_succ _) (below_set (Nat.le_succ _) (hbq.trans (hb1.mono (by simp;omega))))))⟩
end Go.Proofs.Ytapgojgcmlnbgac
