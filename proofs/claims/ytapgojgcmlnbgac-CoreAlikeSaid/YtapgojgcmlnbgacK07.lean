/- Parts of a proof. -/
import Derived.Test.YtapgojgcmlnbgacK04
import Derived.Test.YtapgojgcmlnbgacK05
import Derived.Test.YtapgojgcmlnbgacK06
set_option linter.unusedSimpArgs false
set_option linter.unusedVariables false
set_option maxRecDepth 100000
set_option maxHeartbeats 16000000
namespace Go.Proofs.Ytapgojgcmlnbgac
open Go.RowKit
theorem of_33 (w:World):Calls Try.prog 86 #[.int .i64 33] w fun e w'=>e = .returned (.tuple #[.agg #[.int .i64 6, .int .u32 51, .int .u32 4, .int .u32 0], .bool true])∧Below w.heap.size w w':=by
 have hbq:=(((Below.refl w.heap.size w).alloc (Nat.le_refl _) (.cells #[.int .i64 33] 3)).alloc (by simp) (.cells #[.int .i64 0, .int .u32 0, .int .u32 0, .int .u32 0] 154)).alloc (by simp;omega) (.cells #[.int .u32 0, .int .u32 0, .int .u32 1, .int .u32 2, .int .u32 3, .int .u32 4, .int .u32 5, .int .u32 5, .int .u32 6, .int .u32 7] 24)
 go_enter Try.func86,Try.ntmps86
 go_wp2_with(go_at_call 94;(refine(up_any 33 28 6 51 4 w.heap.size (w.heap.size+2) 10 _ ?_ ?_ ?_ ?_ ?_ ?_).mono ?_;decide;decide;decide;decide;go_simp;go_simp;rintro e w1 ⟨rfl,hb1⟩;have hR:=((Blk.newAt (w.alloc (.cells #[.int .i64 33] 3)) 154 #[.int .i64 0, .int .u32 0, .int .u32 0, .int .u32 0] (g:=w.heap.size+1) (by simp)).alloc _).ext hb1;have hRc:=hR.cell;have hRf:=hR.frozen))
 exact bodyPost_ret (v := .tuple #[.agg #[.int .i64 6, .int .u32 51, .int .u32 4, .int .u32 0], .bool true]) (by simp [results,Try.results86,go_sem,hRc]) rfl
  ⟨rfl,below_set (Nat.le_succ _) (below_set (Nat.le_succ _) (below_set (Nat.le_succ _) (below_set (Nat.le_succ _) (hbq.trans (hb1.mono (by simp;omega))))))⟩
theorem of_34 (w:World):Calls Try.prog 86 #[.int .i64 34] w fun e w'=>e = .returned (.tuple #[.agg #[.int .i64 6, .int .u32 51, .int .u32 5, .int .u32 0], .bool true])∧Below w.heap.size w w':=by
 have hbq:=(((Below.refl w.heap.size w).alloc (Nat.le_refl _) (.cells #[.int .i64 34] 3)).alloc (by simp) (.cells #[.int .i64 0, .int .u32 0, .int .u32 0, .int .u32 0] 154)).alloc (by simp;omega) (.cells #[.int .u32 0, .int .u32 0, .int .u32 1, .int .u32 2, .int .u32 3, .int .u32 4, .int .u32 5, .int .u32 5, .int .u32 6, .int .u32 7] 24)
 go_enter Try.func86,Try.ntmps86
 go_wp2_with(go_at_call 94;(refine(up_any 34 28 6 51 5 w.heap.size (w.heap.size+2) 10 _ ?_ ?_ ?_ ?_ ?_ ?_).mono ?_;decide;decide;decide;decide;go_simp;go_simp;rintro e w1 ⟨rfl,hb1⟩;have hR:=((Blk.newAt (w.alloc (.cells #[.int .i64 34] 3)) 154 #[.int .i64 0, .int .u32 0, .int .u32 0, .int .u32 0] (g:=w.heap.size+1) (by simp)).alloc _).ext hb1;have hRc:=hR.cell;have hRf:=hR.frozen))
 exact bodyPost_ret (v := .tuple #[.agg #[.int .i64 6, .int .u32 51, .int .u32 5, .int .u32 0], .bool true]) (by simp [results,Try.results86,go_sem,hRc]) rfl
  ⟨rfl,below_set (Nat.le_succ _) (below_set (Nat.le_succ _) (below_set (Nat.le_succ _) (below_set (Nat.le_succ _) (hbq.trans (hb1.mono (by simp;omega))))))⟩
theorem of_35 (w:World):Calls Try.prog 86 #[.int .i64 35] w fun e w'=>e = .returned (.tuple #[.agg #[.int .i64 6, .int .u32 51, .int .u32 5, .int .u32 32], .bool true])∧Below w.heap.size w w':=by
 go_enter Try.func86,Try.ntmps86
 go_wp2_with(fail)
 exact bodyPost_ret (v := .tuple #[.agg #[.int .i64 6, .int .u32 51, .int .u32 5, .int .u32 32], .bool true]) (by simp [results,Try.results86,go_sem]) rfl ⟨rfl,((Below.refl _ _).alloc (Nat.le_refl _) _).alloc (by simp) _⟩
theorem of_36 (w:World):Calls Try.prog 86 #[.int .i64 36] w fun e w'=>e = .returned (.tuple #[.agg #[.int .i64 6, .int .u32 51, .int .u32 6, .int .u32 0], .bool true])∧Below w.heap.size w w':=by
 have hbq:=(((Below.refl w.heap.size w).alloc (Nat.le_refl _) (.cells #[.int .i64 36] 3)).alloc (by simp) (.cells #[.int .i64 0, .int .u32 0, .int .u32 0, .int .u32 0] 154)).alloc (by simp;omega) (.cells #[.int .u32 0, .int .u32 0, .int .u32 1, .int .u32 2, .int .u32 3, .int .u32 4, .int .u32 5, .int .u32 5, .int .u32 6, .int .u32 7] 24)
 go_enter Try.func86,Try.ntmps86
 go_wp2_with(go_at_call 94;(refine(up_any 36 28 6 51 6 w.heap.size (w.heap.size+2) 10 _ ?_ ?_ ?_ ?_ ?_ ?_).mono ?_;decide;decide;decide;decide;go_simp;go_simp;rintro e w1 ⟨rfl,hb1⟩;have hR:=((Blk.newAt (w.alloc (.cells #[.int .i64 36] 3)) 154 #[.int .i64 0, .int .u32 0, .int .u32 0, .int .u32 0] (g:=w.heap.size+1) (by simp)).alloc _).ext hb1;have hRc:=hR.cell;have hRf:=hR.frozen))
 exact bodyPost_ret (v := .tuple #[.agg #[.int .i64 6, .int .u32 51, .int .u32 6, .int .u32 0], .bool true]) (by simp [results,Try.results86,go_sem,hRc]) rfl
  ⟨rfl,below_set (Nat.le_succ _) (below_set (Nat.le_succ _) (below_set (Nat.le_succ _) (below_set (Nat.le_succ _) (hbq.trans (hb1.mono (by simp;omega))))))⟩
theorem of_37 (w:World):Calls Try.prog 86 #[.int .i64 37] w fun e w'=>e = .returned (.tuple #[.agg #[.int .i64 6, .int .u32 51, .int .u32 7, .int .u32 0], .bool true])∧Below w.heap.size w w':=by
 have hbq:=(((Below.refl w.heap.size w).alloc (Nat.le_refl _) (.cells #[.int .i64 37] 3)).alloc (by simp) (.cells #[.int .i64 0, .int .u32 0, .int .u32 0, .int .u32 0] 154)).alloc (by simp;omega) (.cells #[.int .u32 0, .int .u32 0, .int .u32 1, .int .u32 2, .int .u32 3, .int .u32 4, .int .u32 5, .int .u32 5, .int .u32 6, .int .u32 7] 24)
 go_enter Try.func86,Try.ntmps86
 go_wp2_with(go_at_call 94;(refine(up_any 37 28 6 51 7 w.heap.size (w.heap.size+2) 10 _ ?_ ?_ ?_ ?_ ?_ ?_).mono ?_;decide;decide;decide;decide;go_simp;go_simp;rintro e w1 ⟨rfl,hb1⟩;have hR:=((Blk.newAt (w.alloc (.cells #[.int .i64 37] 3)) 154 #[.int .i64 0, .int .u32 0, .int .u32 0, .int .u32 0] (g:=w.heap.size+1) (by simp)).alloc _).ext hb1;have hRc:=hR.cell;have hRf:=hR.frozen))
 exact bodyPost_ret (v := .tuple #[.agg #[.int .i64 6, .int .u32 51, .int .u32 7, .int .u32 0], .bool true]) (by simp [results,Try.results86,go_sem,hRc]) rfl
  ⟨rfl,below_set (Nat.le_succ _) (below_set (Nat.le_succ _) (below_set (Nat.le_succ _) (below_set (Nat.le_succ _) (hbq.trans (hb1.mono (by simp;omega))))))⟩
theorem of_38 (w:World):Calls Try.prog 86 #[.int .i64 38] w fun e w'=>e = .returned (.tuple #[.agg #[.int .i64 6, .int .u32 51, .int .u32 0, .int .u32 1], .bool true])∧Below w.heap.size w w':=by
 go_enter Try.func86,Try.ntmps86
 go_wp2_with(fail)
 exact bodyPost_ret (v := .tuple #[.agg #[.int .i64 6, .int .u32 51, .int .u32 0, .int .u32 1], .bool true]) (by simp [results,Try.results86,go_sem]) rfl ⟨rfl,((Below.refl _ _).alloc (Nat.le_refl _) _).alloc (by simp) _⟩
theorem of_39 (w:World):Calls Try.prog 86 #[.int .i64 39] w fun e w'=>e = .returned (.tuple #[.agg #[.int .i64 6, .int .u32 51, .int .u32 1, .int .u32 1], .bool true])∧Below w.heap.size w w':=by
 go_enter Try.func86,Try.ntmps86
 go_wp2_with(fail)
 exact bodyPost_ret (v := .tuple #[.agg #[.int .i64 6, .int .u32 51, .int .u32 1, .int .u32 1], .bool true]) (by simp [results,Try.results86,go_sem]) rfl ⟨rfl,((Below.refl _ _).alloc (Nat.le_refl _) _).alloc (by simp) _⟩
theorem of_40 (w:World):Calls Try.prog 86 #[.int .i64 40] w fun e w'=>e = .returned (.tuple #[.agg #[.int .i64 6, .int .u32 51, .int .u32 2, .int .u32 1], .bool true])∧Below w.heap.size w w':=by
 go_enter Try.func86,Try.ntmps86
 go_wp2_with(fail)
 exact bodyPost_ret (v := .tuple #[.agg #[.int .i64 6, .int .u32 51, .int .u32 2, .int .u32 1], .bool true]) (by simp [results,Try.results86,go_sem]) rfl ⟨rfl,((Below.refl _ _).alloc (Nat.le_refl _) _).alloc (by simp) _⟩
theorem of_41 (w:World):Calls Try.prog 86 #[.int .i64 41] w fun e w'=>e = .returned (.tuple #[.agg #[.int .i64 6, .int .u32 51, .int .u32 3, .int .u32 1], .bool true])∧Below w.heap.size w w':=by
 go_enter Try.func86,Try.ntmps86
 go_wp2_with(fail)
 exact bodyPost_ret (v := .tuple #[.agg #[.int .i64 6, .int .u32 51, .int .u32 3, .int .u32 1], .bool true]) (by simp [results,Try.results86,go_sem]) rfl ⟨rfl,((Below.refl _ _).alloc (Nat.le_refl _) _).alloc (by simp) _⟩
theorem of_42 (w:World):Calls Try.prog 86 #[.int .i64 42] w fun e w'=>e = .returned (.tuple #[.agg #[.int .i64 6, .int .u32 51, .int .u32 4, .int .u32 1], .bool true])∧Below w.heap.size w w':=by
 go_enter Try.func86,Try.ntmps86
 go_wp2_with(fail)
 exact bodyPost_ret (v := .tuple #[.agg #[.int .i64 6, .int .u32 51, .int .u32 4, .int .u32 1], .bool true]) (by simp [results,Try.results86,go_sem]) rfl ⟨rfl,((Below.refl _ _).alloc (Nat.le_refl _) _).alloc (by simp) _⟩
theorem of_43 (w:World):Calls Try.prog 86 #[.int .i64 43] w fun e w'=>e = .returned (.tuple #[.agg #[.int .i64 6, .int .u32 51, .int .u32 5, .int .u32 1], .bool true])∧Below w.heap.size w w':=by
 go_enter Try.func86,Try.ntmps86
 go_wp2_with(fail)
 exact bodyPost_ret (v := .tuple #[.agg #[.int .i64 6, .int .u32 51, .int .u32 5, .int .u32 1], .bool true]) (by simp [results,Try.results86,go_sem]) rfl ⟨rfl,((Below.refl _ _).alloc (Nat.le_refl _) _).alloc (by simp) _⟩
theorem of_44 (w:World):Calls Try.prog 86 #[.int .i64 44] w fun e w'=>e = .returned (.tuple #[.agg #[.int .i64 6, .int .u32 51, .int .u32 6, .int .u32 1], .bool true])∧Below w.heap.size w w':=by
 go_enter Try.func86,Try.ntmps86
 go_wp2_with(fail)
 exact bodyPost_ret (v := .tuple #[.agg #[.int .i64 6, .int .u32 51, .int .u32 6, .int .u32 1], .bool true]) (by simp [results,Try.results86,go_sem]) rfl ⟨rfl,((Below.refl _ _).alloc (Nat.le_refl _) _).alloc (by simp) _⟩
theorem of_45 (w:World):Calls Try.prog 86 #[.int .i64 45] w fun e w'=>e = .returned (.tuple #[.agg #[.int .i64 6, .int .u32 51, .int .u32 7, .int .u32 1], .bool true])∧Below w.heap.size w w':=by
 go_enter Try.func86,Try.ntmps86
 go_wp2_with(fail)
 exact bodyPost_ret (v := .tuple #[.agg #[.int .i64 6, .int .u32 51, .int .u32 7, .int .u32 1], .bool true]) (by simp [results,Try.results86,go_sem]) rfl ⟨rfl,((Below.refl _ _).alloc (Nat.le_refl _) _).alloc (by simp) _⟩
theorem of_46 (w:World):Calls Try.prog 86 #[.int .i64 46] w fun e w'=>e = .returned (.tuple #[.agg #[.int .i64 2, .int .u32 15, .int .u32 0, .int .u32 0], .bool true])∧Below w.heap.size w w':=by
 go_enter Try.func86,Try.ntmps86
 go_wp2_with(fail)
 exact bodyPost_ret (v := .tuple #[.agg #[.int .i64 2, .int .u32 15, .int .u32 0, .int .u32 0], .bool true]) (by simp [results,Try.results86,go_sem]) rfl ⟨rfl,((Below.refl _ _).alloc (Nat.le_refl _) _).alloc (by simp) _⟩
theorem of_47 (w:World):Calls Try.prog 86 #[.int .i64 47] w fun e w'=>e = .returned (.tuple #[.agg #[.int .i64 7, .int .u32 115, .int .u32 0, .int .u32 0], .bool true])∧Below w.heap.size w w':=by
 go_enter Try.func86,Try.ntmps86
 go_wp2_with(fail)
 exact bodyPost_ret (v := .tuple #[.agg #[.int .i64 7, .int .u32 115, .int .u32 0, .int .u32 0], .bool true]) (by simp [results,Try.results86,go_sem]) rfl ⟨rfl,((Below.refl _ _).alloc (Nat.le_refl _) _).alloc (by simp) _⟩
theorem of_48 (w:World):Calls Try.prog 86 #[.int .i64 48] w fun e w'=>e = .returned (.tuple #[.agg #[.int .i64 7, .int .u32 115, .int .u32 0, .int .u32 1], .bool true])∧Below w.heap.size w w':=by
 go_enter Try.func86,Try.ntmps86
 go_wp2_with(fail)
 exact bodyPost_ret (v := .tuple #[.agg #[.int .i64 7, .int .u32 115, .int .u32 0, .int .u32 1], .bool true]) (by simp [results,Try.results86,go_sem]) rfl ⟨rfl,((Below.refl _ _).alloc (Nat.le_refl _) _).alloc (by simp) _⟩
abbrev Kind.cells (k:Kind):Array Value:=#[.int .i64 k.form, .int .u32 k.low, .int .u32 k.middle, .int .u32 k.upper]
theorem of_nat (n:Nat) (hn:n<49) (k:Kind) (hk:kindP n=some k) (w:World):Calls Try.prog 86 #[.int .i64 n] w fun e w'=>e = .returned (.tuple #[.agg k.cells, .bool true])∧Below w.heap.size w w':=by
 match n,hn with
 |0,_=>have e:kindP ((0:Nat):Int)=none:=rfl;rw [e] at hk;cases hk
 |1,_=>obtain rfl:(⟨0,55,0,0⟩:Kind)=k:=Option.some.inj hk;exact of_1 w
 |2,_=>obtain rfl:(⟨0,23,0,0⟩:Kind)=k:=Option.some.inj hk;exact of_2 w
 |3,_=>obtain rfl:(⟨1,111,0,0⟩:Kind)=k:=Option.some.inj hk;exact of_3 w
 |4,_=>obtain rfl:(⟨2,103,0,0⟩:Kind)=k:=Option.some.inj hk;exact of_4 w
 |5,_=>obtain rfl:(⟨4,99,0,0⟩:Kind)=k:=Option.some.inj hk;exact of_5 w
 |6,_=>obtain rfl:(⟨4,99,1,0⟩:Kind)=k:=Option.some.inj hk;exact of_6 w
 |7,_=>obtain rfl:(⟨4,99,4,0⟩:Kind)=k:=Option.some.inj hk;exact of_7 w
 |8,_=>obtain rfl:(⟨4,99,5,0⟩:Kind)=k:=Option.some.inj hk;exact of_8 w
 |9,_=>obtain rfl:(⟨4,99,6,0⟩:Kind)=k:=Option.some.inj hk;exact of_9 w
 |10,_=>obtain rfl:(⟨4,99,7,0⟩:Kind)=k:=Option.some.inj hk;exact of_10 w
 |11,_=>obtain rfl:(⟨2,3,0,0⟩:Kind)=k:=Option.some.inj hk;exact of_11 w
 |12,_=>obtain rfl:(⟨2,3,1,0⟩:Kind)=k:=Option.some.inj hk;exact of_12 w
 |13,_=>obtain rfl:(⟨2,3,2,0⟩:Kind)=k:=Option.some.inj hk;exact of_13 w
 |14,_=>obtain rfl:(⟨2,3,4,0⟩:Kind)=k:=Option.some.inj hk;exact of_14 w
 |15,_=>obtain rfl:(⟨2,3,5,0⟩:Kind)=k:=Option.some.inj hk;exact of_15 w
 |16,_=>obtain rfl:(⟨5,35,0,0⟩:Kind)=k:=Option.some.inj hk;exact of_16 w
 |17,_=>obtain rfl:(⟨5,35,1,0⟩:Kind)=k:=Option.some.inj hk;exact of_17 w
 |18,_=>obtain rfl:(⟨5,35,2,0⟩:Kind)=k:=Option.some.inj hk;exact of_18 w
 |19,_=>obtain rfl:(⟨2,19,0,0⟩:Kind)=k:=Option.some.inj hk;exact of_19 w
 |20,_=>obtain rfl:(⟨2,19,2,0⟩:Kind)=k:=Option.some.inj hk;exact of_20 w
 |21,_=>obtain rfl:(⟨2,19,3,0⟩:Kind)=k:=Option.some.inj hk;exact of_21 w
 |22,_=>obtain rfl:(⟨2,19,4,0⟩:Kind)=k:=Option.some.inj hk;exact of_22 w
 |23,_=>obtain rfl:(⟨2,19,6,0⟩:Kind)=k:=Option.some.inj hk;exact of_23 w
 |24,_=>obtain rfl:(⟨2,19,7,0⟩:Kind)=k:=Option.some.inj hk;exact of_24 w
 |25,_=>obtain rfl:(⟨3,19,1,0⟩:Kind)=k:=Option.some.inj hk;exact of_25 w
 |26,_=>obtain rfl:(⟨3,19,5,0⟩:Kind)=k:=Option.some.inj hk;exact of_26 w
 |27,_=>obtain rfl:(⟨3,19,5,32⟩:Kind)=k:=Option.some.inj hk;exact of_27 w
 |28,_=>obtain rfl:(⟨6,51,0,0⟩:Kind)=k:=Option.some.inj hk;exact of_28 w
 |29,_=>obtain rfl:(⟨6,51,0,32⟩:Kind)=k:=Option.some.inj hk;exact of_29 w
 |30,_=>obtain rfl:(⟨6,51,1,0⟩:Kind)=k:=Option.some.inj hk;exact of_30 w
 |31,_=>obtain rfl:(⟨6,51,2,0⟩:Kind)=k:=Option.some.inj hk;exact of_31 w
 |32,_=>obtain rfl:(⟨6,51,3,0⟩:Kind)=k:=Option.some.inj hk;exact of_32 w
 |33,_=>obtain rfl:(⟨6,51,4,0⟩:Kind)=k:=Option.some.inj hk;exact of_33 w
 |34,_=>obtain rfl:(⟨6,51,5,0⟩:Kind)=k:=Option.some.inj hk;exact of_34 w
 |35,_=>obtain rfl:(⟨6,51,5,32⟩:Kind)=k:=Option.some.inj hk;exact of_35 w
 |36,_=>obtain rfl:(⟨6,51,6,0⟩:Kind)=k:=Option.some.inj hk;exact of_36 w
 |37,_=>obtain rfl:(⟨6,51,7,0⟩:Kind)=k:=Option.some.inj hk;exact of_37 w
 |38,_=>obtain rfl:(⟨6,51,0,1⟩:Kind)=k:=Option.some.inj hk;exact of_38 w
 |39,_=>obtain rfl:(⟨6,51,1,1⟩:Kind)=k:=Option.some.inj hk;exact of_39 w
 |40,_=>obtain rfl:(⟨6,51,2,1⟩:Kind)=k:=Option.some.inj hk;exact of_40 w
 |41,_=>obtain rfl:(⟨6,51,3,1⟩:Kind)=k:=Option.some.inj hk;exact of_41 w
 |42,_=>obtain rfl:(⟨6,51,4,1⟩:Kind)=k:=Option.some.inj hk;exact of_42 w
 |43,_=>obtain rfl:(⟨6,51,5,1⟩:Kind)=k:=Option.some.inj hk;exact of_43 w
 |44,_=>obtain rfl:(⟨6,51,6,1⟩:Kind)=k:=Option.some.inj hk;exact of_44 w
 |45,_=>obtain rfl:(⟨6,51,7,1⟩:Kind)=k:=Option.some.inj hk;exact of_45 w
 |46,_=>obtain rfl:(⟨2,15,0,0⟩:Kind)=k:=Option.some.inj hk;exact of_46 w
 |47,_=>obtain rfl:(⟨7,115,0,0⟩:Kind)=k:=Option.some.inj hk;exact of_47 w
 |48,_=>obtain rfl:(⟨7,115,0,1⟩:Kind)=k:=Option.some.inj hk;exact of_48 w
theorem kindP_range {op:Int} {k:Kind} (hk:kindP op=some k):1≤op∧op≤48:=by
 rcases Int.lt_or_le op 1 with h1 | h1
 ·exfalso
  unfold kindP at hk
  repeat rw [if_neg (by omega)] at hk
  cases hk
 ·rcases Int.lt_or_le 48 op with h2 | h2
  ·exfalso
   unfold kindP at hk
   repeat rw [if_neg (by omega)] at hk
   cases hk
  ·exact⟨h1,h2⟩
theorem dof_any (op:Int) (k:Kind) (hk:kindP op=some k) (w:World):Calls Try.prog 86 #[.int .i64 op] w fun e w'=>e = .returned (.tuple #[.agg k.cells, .bool true])∧Below w.heap.size w w':=by
 obtain⟨h1,h2⟩:=kindP_range hk
 obtain⟨n,rfl⟩:=Int.eq_ofNat_of_zero_le (show 0≤op by omega)
 exact of_nat n (by omega) k hk w
theorem or_comm32 (a b:Int) (a0:0≤a) (a1:a≤4294967295) (b0:0≤b) (b1:b≤4294967295):bits .or .u32 a b=bits .or .u32 b a:=by
 obtain⟨n,rfl⟩:=Int.eq_ofNat_of_zero_le a0
 obtain⟨m,rfl⟩:=Int.eq_ofNat_of_zero_le b0
 rw [u32_or_nat n m (by omega) (by omega),u32_or_nat m n (by omega) (by omega),Nat.or_comm]
theorem or_hi (x b:Int) (k:Nat) (K:Int) (hK:((2 ^ k:Nat):Int)=K) (hk:k≤31) (hx0:0≤x) (hx:x<K) (hb0:0≤b) (hb:b*K<4294967296):bits .or .u32 (b*K) x=b*K+x:=by
 subst hK
 have h:=u32_or_shift x b k hk hx0 hx hb0 hb
 have p:(0:Int)≤((2 ^ k:Nat):Int):=by omega
 have p2:((2 ^ k:Nat):Int)≤((2 ^ 31:Nat):Int):=by
  have:=Nat.pow_le_pow_right (n:=2) (by omega) hk
  omega
 have h31:((2 ^ 31:Nat):Int)=2147483648:=by decide
 rw [or_comm32 _ _ (Int.mul_nonneg hb0 p) (by omega) hx0 (by omega),h]
 omega
theorem or_lo (x b:Int) (k:Nat) (K:Int) (hK:((2 ^ k:Nat):Int)=K) (hk:k≤31) (hx0:0≤x) (hx:x<K) (hb0:0≤b) (hb:b*K<4294967296):bits .or .u32 x (b*K)=x+b*K:=by
 subst hK
 exact u32_or_shift x b k hk hx0 hx hb0 hb
theorem tells_any (k:Kind) (x:Int) (w:World) (h0:0≤x) (h1:x≤4294967295) (l0:0≤k.low) (l1:k.low<128) (u0:0≤k.upper) (u1:k.upper<128) :
  Calls Try.prog 87 #[.agg k.cells, .int .u32 x] w fun e w'=>e = .returned (.bool (tellsB k x))∧Below w.heap.size w w':=by
 obtain⟨form,low,mid,up⟩:=k
 dsimp only at l0 l1 u0 u1
 generalize hX:tellsB ⟨form,low,mid,up⟩ x=X
 have HX:=Lib.hid hX
 clear hX
 by_cases hl:cutI x 0 6=low
 ·have el:(cutI x 0 6 != low)=false:=by simp [hl]
  have Hl:=Lib.hid hl
  clear hl
  by_cases f0:form=0
  ·subst f0
   go_enter Try.func87,Try.ntmps87
   go_wp2
   have z1:w.heap.size<(w.alloc (.cells #[.int .i64 0, .int .u32 low, .int .u32 mid, .int .u32 up] 154)).heap.size:=by simp
   refine wp_region_below (by kernel_rfl) (by kernel_rfl) ?_
   repeat'(first
    |refine wpMix_plain rfl ?_
    |(refine' wpMixW_quiet _ (fun wq hwq K hK=>?_) ?_ ?_;rotate_left 1;(· obtain⟨hcq,hfq⟩:=bcell hwq;go_wp2_with((go_at_call 95;(with_reducible refine(cut_0_6 x _ h0 h1).mono ?_);rintro e w1 ⟨rfl,hb1⟩;exact hK _ (hwq.trans (hb1.mono hwq.size))));all_goals exact hK _ hwq);rfl)
    |((first | refine wpMix_guardT rfl rfl rfl ?_ ?_ | refine wpMix_guardF rfl rfl rfl ?_ ?_)<;>intro hc<;>first | (cases hc;done) | ((try cases hc);simp only [Act.put,sA,sS,sZ]))
    |refine wpMix_guardU rfl rfl rfl ?_)
   refine wpMix_nil ?_
   intro w4 hw4
   have hB:=(Blk.new w 154 #[.int .i64 0, .int .u32 low, .int .u32 mid, .int .u32 up]).ext hw4
   have hBc:=hB.cell
   have hBf:=hB.frozen
   have hb4:Below w.heap.size w w4:=((Below.refl _ _).alloc (Nat.le_refl _) _).trans (hw4.mono (by simp))
   have z4:=hB.lt
   clear hw4 z1
   go_wp2
   go_ret
   refine⟨ret_bool ?_,hb4⟩
   rw [←HX.out]
   unfold tellsB
   dsimp only
   rw [if_pos Hl.out,if_pos (.inl rfl)]
  by_cases f1:form=1
  ·subst f1
   go_enter Try.func87,Try.ntmps87
   go_wp2
   have z1:w.heap.size<(w.alloc (.cells #[.int .i64 1, .int .u32 low, .int .u32 mid, .int .u32 up] 154)).heap.size:=by simp
   refine wp_region_below (by kernel_rfl) (by kernel_rfl) ?_
   repeat'(first
    |refine wpMix_plain rfl ?_
    |(refine' wpMixW_quiet _ (fun wq hwq K hK=>?_) ?_ ?_;rotate_left 1;(· obtain⟨hcq,hfq⟩:=bcell hwq;go_wp2_with((go_at_call 95;(with_reducible refine(cut_0_6 x _ h0 h1).mono ?_);rintro e w1 ⟨rfl,hb1⟩;exact hK _ (hwq.trans (hb1.mono hwq.size))));all_goals exact hK _ hwq);rfl)
    |((first | refine wpMix_guardT rfl rfl rfl ?_ ?_ | refine wpMix_guardF rfl rfl rfl ?_ ?_)<;>intro hc<;>first | (cases hc;done) | ((try cases hc);simp only [Act.put,sA,sS,sZ]))
    |refine wpMix_guardU rfl rfl rfl ?_)
   refine wpMix_nil ?_
   intro w4 hw4
   have hB:=(Blk.new w 154 #[.int .i64 1, .int .u32 low, .int .u32 mid, .int .u32 up]).ext hw4
   have hBc:=hB.cell
   have hBf:=hB.frozen
   have hb4:Below w.heap.size w w4:=((Below.refl _ _).alloc (Nat.le_refl _) _).trans (hw4.mono (by simp))
   have z4:=hB.lt
   clear hw4 z1
   go_wp2
   go_ret
   refine⟨ret_bool ?_,hb4⟩
   rw [←HX.out]
   unfold tellsB
   dsimp only
   rw [if_pos Hl.out,if_pos (.inr rfl)]
  have n0:(form==0)=false:=by simp [f0]
  have n1:(form==1)=false:=by simp [f1]
  by_cases f7:form=7
  ·subst f7
   have ho:=or_lo low up 20 1048576 (by decide) (by omega) l0 (by omega) u0 (by omega)
   have up1:up*1048576%4294967296=up*1048576:=Int.emod_eq_of_lt (by omega) (by omega)
   clear f0 f1 n0 n1
   go_enter Try.func87,Try.ntmps87
   go_wp2
   have z1:w.heap.size<(w.alloc (.cells #[.int .i64 7, .int .u32 low, .int .u32 mid, .int .u32 up] 154)).heap.size:=by simp
   refine wp_region_below (by kernel_rfl) (by kernel_rfl) ?_
   repeat'(first
    |refine wpMix_plain rfl ?_
    |(refine' wpMixW_quiet _ (fun wq hwq K hK=>?_) ?_ ?_;rotate_left 1;(· obtain⟨hcq,hfq⟩:=bcell hwq;go_wp2_with((go_at_call 95;(with_reducible refine(cut_0_6 x _ h0 h1).mono ?_);rintro e w1 ⟨rfl,hb1⟩;exact hK _ (hwq.trans (hb1.mono hwq.size))));all_goals exact hK _ hwq);rfl)
    |((first | refine wpMix_guardT rfl rfl rfl ?_ ?_ | refine wpMix_guardF rfl rfl rfl ?_ ?_)<;>intro hc<;>first | (cases hc;done) | ((try cases hc);simp only [Act.put,sA,sS,sZ]))
    |refine wpMix_guardU rfl rfl rfl ?_)
   refine wpMix_nil ?_
   intro w4 hw4
   have hB:=(Blk.new w 154 #[.int .i64 7, .int .u32 low, .int .u32 mid, .int .u32 up]).ext hw4
   have hBc:=hB.cell
   have hBf:=hB.frozen
   have hb4:Below w.heap.size w w4:=((Below.refl _ _).alloc (Nat.le_refl _) _).trans (hw4.mono (by simp))
   have z4:=hB.lt
   clear hw4 z1
   go_wp2
   go_ret
   refine⟨ret_bool ?_,hb4⟩
   rw [←HX.out]
   unfold tellsB
   dsimp only
   rw [if_pos Hl.out,if_neg (by decide),if_pos rfl]
   rw [Bool.eq_iff_iff]
   simp
  have n7:(form==7)=false:=by simp [f7]
  by_cases f3:form=3
  ·subst f3
   clear f0 f1 n0 n1 f7 n7
   go_enter Try.func87,Try.ntmps87
   go_wp2
   have z1:w.heap.size<(w.alloc (.cells #[.int .i64 3, .int .u32 low, .int .u32 mid, .int .u32 up] 154)).heap.size:=by simp
   refine wp_region_below (by kernel_rfl) (by kernel_rfl) ?_
   repeat'(first
    |refine wpMix_plain rfl ?_
    |(refine' wpMixW_quiet _ (fun wq hwq K hK=>?_) ?_ ?_;rotate_left 1;(· obtain⟨hcq,hfq⟩:=bcell hwq;go_wp2_with((go_at_call 95;(with_reducible refine(cut_0_6 x _ h0 h1).mono ?_);rintro e w1 ⟨rfl,hb1⟩;exact hK _ (hwq.trans (hb1.mono hwq.size))));all_goals exact hK _ hwq);rfl)
    |((first | refine wpMix_guardT rfl rfl rfl ?_ ?_ | refine wpMix_guardF rfl rfl rfl ?_ ?_)<;>intro hc<;>first | (cases hc;done) | ((try cases hc);simp only [Act.put,sA,sS,sZ]))
    |refine wpMix_guardU rfl rfl rfl ?_)
   refine wpMix_nil ?_
   intro w4 hw4
   have hB:=(Blk.new w 154 #[.int .i64 3, .int .u32 low, .int .u32 mid, .int .u32 up]).ext hw4
   have hBc:=hB.cell
   have hBf:=hB.frozen
   have hb4:Below w.heap.size w w4:=((Below.refl _ _).alloc (Nat.le_refl _) _).trans (hw4.mono (by simp))
   have z4:=hB.lt
   clear hw4 z1
   go_upto_region 11 with(fail)
   refine wp_region_below (by kernel_rfl) (by kernel_rfl) ?_
   repeat'(first
    |refine wpMix_plain rfl ?_
    |(refine' wpMixW_quiet _ (fun wq hwq K hK=>?_) ?_ ?_;rotate_left 1;(· obtain⟨hcq,hfq⟩:=bcell hwq;go_wp2_with((first | (go_at_call 95;(with_reducible refine(cut_12_14 x _ h0 h1).mono ?_);rintro e w1 ⟨rfl,hb1⟩;exact hK _ (hwq.trans (hb1.mono hwq.size))) | (go_at_call 95;(with_reducible refine(cut_25_31 x _ h0 h1).mono ?_);rintro e w1 ⟨rfl,hb1⟩;exact hK _ (hwq.trans (hb1.mono hwq.size)))));all_goals exact hK _ hwq);rfl)
    |((first | refine wpMix_guardT rfl rfl rfl ?_ ?_ | refine wpMix_guardF rfl rfl rfl ?_ ?_)<;>intro hc<;>first | (cases hc;done) | ((try cases hc);simp only [Act.put,sA,sS,sZ]))
    |refine wpMix_guardU rfl rfl rfl ?_)
   all_goals
    refine wpMix_nil ?_
    intro w5 hw5
    go_wp2
    go_ret
    refine⟨ret_bool ?_,hb4.trans (hw5.mono hb4.size)⟩
    rw [←HX.out]
    unfold tellsB
    dsimp only
   all_goals
    rw [if_pos Hl.out,if_neg (by decide),if_neg (by decide),if_pos (.inl rfl)]
    first | (have e:=beq_iff_eq.1 hc;rw [Bool.eq_iff_iff];simp [e];done) | (have e:=beq_eq_false_iff_ne.1 hc;simp [e])
  by_cases f6:form=6
  ·subst f6
   clear f0 f1 n0 n1 f7 n7 f3
   go_enter Try.func87,Try.ntmps87
   go_wp2
   have z1:w.heap.size<(w.alloc (.cells #[.int .i64 6, .int .u32 low, .int .u32 mid, .int .u32 up] 154)).heap.size:=by simp
   refine wp_region_below (by kernel_rfl) (by kernel_rfl) ?_
   repeat'(first
    |refine wpMix_plain rfl ?_
    |(refine' wpMixW_quiet _ (fun wq hwq K hK=>?_) ?_ ?_;rotate_left 1;(· obtain⟨hcq,hfq⟩:=bcell hwq;go_wp2_with((go_at_call 95;(with_reducible refine(cut_0_6 x _ h0 h1).mono ?_);rintro e w1 ⟨rfl,hb1⟩;exact hK _ (hwq.trans (hb1.mono hwq.size))));all_goals exact hK _ hwq);rfl)
    |((first | refine wpMix_guardT rfl rfl rfl ?_ ?_ | refine wpMix_guardF rfl rfl rfl ?_ ?_)<;>intro hc<;>first | (cases hc;done) | ((try cases hc);simp only [Act.put,sA,sS,sZ]))
    |refine wpMix_guardU rfl rfl rfl ?_)
   refine wpMix_nil ?_
   intro w4 hw4
   have hB:=(Blk.new w 154 #[.int .i64 6, .int .u32 low, .int .u32 mid, .int .u32 up]).ext hw4
   have hBc:=hB.cell
   have hBf:=hB.frozen
   have hb4:Below w.heap.size w w4:=((Below.refl _ _).alloc (Nat.le_refl _) _).trans (hw4.mono (by simp))
   have z4:=hB.lt
   clear hw4 z1
   go_upto_region 11 with(fail)
   refine wp_region_below (by kernel_rfl) (by kernel_rfl) ?_
   repeat'(first
    |refine wpMix_plain rfl ?_
    |(refine' wpMixW_quiet _ (fun wq hwq K hK=>?_) ?_ ?_;rotate_left 1;(· obtain⟨hcq,hfq⟩:=bcell hwq;go_wp2_with((first | (go_at_call 95;(with_reducible refine(cut_12_14 x _ h0 h1).mono ?_);rintro e w1 ⟨rfl,hb1⟩;exact hK _ (hwq.trans (hb1.mono hwq.size))) | (go_at_call 95;(with_reducible refine(cut_25_31 x _ h0 h1).mono ?_);rintro e w1 ⟨rfl,hb1⟩;exact hK _ (hwq.trans (hb1.mono hwq.size)))));all_goals exact hK _ hwq);rfl)
    |((first | refine wpMix_guardT rfl rfl rfl ?_ ?_ | refine wpMix_guardF rfl rfl rfl ?_ ?_)<;>intro hc<;>first | (cases hc;done) | ((try cases hc);simp only [Act.put,sA,sS,sZ]))
    |refine wpMix_guardU rfl rfl rfl ?_)
   all_goals
    refine wpMix_nil ?_
    intro w5 hw5
    go_wp2
    go_ret
    refine⟨ret_bool ?_,hb4.trans (hw5.mono hb4.size)⟩
    rw [←HX.out]
    unfold tellsB
    dsimp only
   all_goals
    rw [if_pos Hl.out,if_neg (by decide),if_neg (by decide),if_pos (.inr rfl)]
    first | (have e:=beq_iff_eq.1 hc;rw [Bool.eq_iff_iff];simp [e];done) | (have e:=beq_eq_false_iff_ne.1 hc;simp [e])
  have n3:(form==3)=false:=by simp [f3]
  have n6:(form==6)=false:=by simp [f6]
  have Hf:=Lib.hid (show ¬ (form=0∨form=1)∧¬ form=7∧¬ (form=3∨form=6) by omega)
  clear f0 f1 f7 f3 f6
  go_enter Try.func87,Try.ntmps87
  go_wp2
  have z1:w.heap.size<(w.alloc (.cells #[.int .i64 form, .int .u32 low, .int .u32 mid, .int .u32 up] 154)).heap.size:=by simp
  refine wp_region_below (by kernel_rfl) (by kernel_rfl) ?_
  repeat'(first
   |refine wpMix_plain rfl ?_
   |(refine' wpMixW_quiet _ (fun wq hwq K hK=>?_) ?_ ?_;rotate_left 1;(· obtain⟨hcq,hfq⟩:=bcell hwq;go_wp2_with((go_at_call 95;(with_reducible refine(cut_0_6 x _ h0 h1).mono ?_);rintro e w1 ⟨rfl,hb1⟩;exact hK _ (hwq.trans (hb1.mono hwq.size))));all_goals exact hK _ hwq);rfl)
   |((first | refine wpMix_guardT rfl rfl rfl ?_ ?_ | refine wpMix_guardF rfl rfl rfl ?_ ?_)<;>intro hc<;>first | (cases hc;done) | ((try cases hc);simp only [Act.put,sA,sS,sZ]))
   |refine wpMix_guardU rfl rfl rfl ?_)
  refine wpMix_nil ?_
  intro w4 hw4
  have hB:=(Blk.new w 154 #[.int .i64 form, .int .u32 low, .int .u32 mid, .int .u32 up]).ext hw4
  have hBc:=hB.cell
  have hBf:=hB.frozen
  have hb4:Below w.heap.size w w4:=((Below.refl _ _).alloc (Nat.le_refl _) _).trans (hw4.mono (by simp))
  have z4:=hB.lt
  clear hw4 z1
  go_upto_region 12 with(fail)
  refine wp_region_below (by kernel_rfl) (by kernel_rfl) ?_
  repeat'(first
   |refine wpMix_plain rfl ?_
   |(refine' wpMixW_quiet _ (fun wq hwq K hK=>?_) ?_ ?_;rotate_left 1;(· obtain⟨hcq,hfq⟩:=bcell hwq;go_wp2_with((first | (go_at_call 95;(with_reducible refine(cut_12_14 x _ h0 h1).mono ?_);rintro e w1 ⟨rfl,hb1⟩;exact hK _ (hwq.trans (hb1.mono hwq.size))) | (go_at_call 95;(with_reducible refine(cut_25_31 x _ h0 h1).mono ?_);rintro e w1 ⟨rfl,hb1⟩;exact hK _ (hwq.trans (hb1.mono hwq.size)))));all_goals exact hK _ hwq);rfl)
   |((first | refine wpMix_guardT rfl rfl rfl ?_ ?_ | refine wpMix_guardF rfl rfl rfl ?_ ?_)<;>intro hc<;>first | (cases hc;done) | ((try cases hc);simp only [Act.put,sA,sS,sZ]))
   |refine wpMix_guardU rfl rfl rfl ?_)
  all_goals
   refine wpMix_nil ?_
   intro w5 hw5
   go_wp2
   go_ret
   refine⟨ret_bool ?_,hb4.trans (hw5.mono hb4.size)⟩
   rw [←HX.out]
   unfold tellsB
   dsimp only
  rw [if_pos Hl.out,if_neg Hf.out.1,if_neg Hf.out.2.1,if_neg Hf.out.2.2]
  rw [Bool.eq_iff_iff]
  simp
 ·have el:(cutI x 0 6 != low)=true:=by simp [hl]
  have Hl:=Lib.hid hl
  clear hl
  go_enter Try.func87,Try.ntmps87
  go_wp2
  have z1:w.heap.size<(w.alloc (.cells #[.int .i64 form, .int .u32 low, .int .u32 mid, .int .u32 up] 154)).heap.size:=by simp
  refine wp_region_below (by kernel_rfl) (by kernel_rfl) ?_
  repeat'(first
   |refine wpMix_plain rfl ?_
   |(refine' wpMixW_quiet _ (fun wq hwq K hK=>?_) ?_ ?_;rotate_left 1;(· obtain⟨hcq,hfq⟩:=bcell hwq;go_wp2_with((go_at_call 95;(with_reducible refine(cut_0_6 x _ h0 h1).mono ?_);rintro e w1 ⟨rfl,hb1⟩;exact hK _ (hwq.trans (hb1.mono hwq.size))));all_goals exact hK _ hwq);rfl)
   |((first | refine wpMix_guardT rfl rfl rfl ?_ ?_ | refine wpMix_guardF rfl rfl rfl ?_ ?_)<;>intro hc<;>first | (cases hc;done) | ((try cases hc);simp only [Act.put,sA,sS,sZ]))
   |refine wpMix_guardU rfl rfl rfl ?_)
  refine wpMix_nil ?_
  intro w4 hw4
  have hB:=(Blk.new w 154 #[.int .i64 form, .int .u32 low, .int .u32 mid, .int .u32 up]).ext hw4
  have hBc:=hB.cell
  have hBf:=hB.frozen
  have hb4:Below w.heap.size w w4:=((Below.refl _ _).alloc (Nat.le_refl _) _).trans (hw4.mono (by simp))
  have z4:=hB.lt
  clear hw4 z1
  go_wp2
  go_ret
  refine⟨ret_bool ?_,hb4⟩
  rw [←HX.out]
  unfold tellsB
  dsimp only
  rw [if_neg Hl.out]
end Go.Proofs.Ytapgojgcmlnbgac
