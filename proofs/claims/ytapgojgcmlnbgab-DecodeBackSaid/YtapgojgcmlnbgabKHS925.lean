/- What is compared with itself: harts and commits. -/
import Derived.Test.YtapgojgcmlnbgabKHS924
import Derived.Test.YtapgojgcmlnbgabKHS900
import Derived.Test.YtapgojgcmlnbgabProg
import Derived.WalkLawsBesides
import Derived.WalkSpells
import Derived.Lib.Hide
import Derived.Test.YtapgojgcmlnbgabKHS903
set_option linter.unusedSimpArgs false
set_option linter.unusedVariables false

namespace Go.Proofs.Ytapgojgcmlnbgab
open Go.RowKit

/-- A guarded operation that is wanted. -/
theorem wpList_wanted {P : Program} {ops : Array Oper} {Q : Exit → Act → World → Prop} {a : Act} {w : World} {rest : List Oper} {o : Oper} (hw : Region.wanted o (yielded ops a.tmps) = true)
    (h : ∀ K : Act → World → Prop, (∀ a w, wpList P ops Q rest a w → K a w) → o.wp P a w K Q) : wpList P ops Q (o :: rest) a w := by
  unfold wpList
  rw [if_pos hw]
  exact Or.inl (h _ fun _ _ h => h)
theorem wp_build_to {P : Program} {o : Oper} {a : Act} {w : World} {K : Act → World → Prop} {Q : Exit → Act → World → Prop} (t : TypeId) (parts : Array (Nat × Operand)) (ho : o.op = .build t parts) (vals : List (Nat × Value))
    (hv : (parts.map fun (i, x) => (i, a.eval x)).toList = vals) (cs : Array Value) (hf : P.built t vals = some cs) (h : K (a.put o.dst (.agg cs)) w) : o.wp P a w K Q :=
  wp_build t parts ho (by rw [hv, hf]; rfl) (by rw [hv, hf]; exact h)
theorem wfU {n : Int} (h0 : 0 ≤ n) (h1 : n ≤ 4294967295) : (Lit.int .u32 n).wf = true := by simp only [Lit.wf, Bool.and_eq_true, decide_eq_true_eq]; exact ⟨h0, h1⟩
theorem wfI {n : Int} (h0 : -9223372036854775808 ≤ n) (h1 : n ≤ 9223372036854775807) : (Lit.int .i64 n).wf = true := by simp only [Lit.wf, Bool.and_eq_true, decide_eq_true_eq]; exact ⟨h0, h1⟩
def hartKinds : List (Option IntKind) := List.replicate 32 (some .u32) ++ [some .u32, some .i64, some .i64]
def comKinds : List (Option IntKind) := [some .u32, some .u32, some .i64, some .i64, some .i64, some .u32, some .u32, some .i64, some .u32, none, some .u32]
theorem hart_key : Try.prog.keyTypeAt 20 51 = true := by kernel_rfl
theorem hart_fitsB : fitsB Try.prog 20 51 hartKinds = true := by kernel_rfl
theorem hart_guard : Try.prog.eqGuardType Try.prog.depth 51 = false := by kernel_rfl
theorem hart_cellsOf : Try.prog.cellsOf 51 = 35 := by kernel_rfl
theorem com_key : Try.prog.keyTypeAt 20 54 = true := by kernel_rfl
theorem com_fitsB : fitsB Try.prog 20 54 comKinds = true := by kernel_rfl
theorem com_guard : Try.prog.eqGuardType Try.prog.depth 54 = false := by kernel_rfl
theorem com_cellsOf : Try.prog.cellsOf 54 = 11 := by kernel_rfl
theorem fits_words : ∀ {l : List Int} {n : Nat}, l.length = n → (∀ x ∈ l, 0 ≤ x ∧ x ≤ 4294967295) → Fits (List.replicate n (some .u32)) (l.map (Value.int .u32))
  | [], 0, _, _ => trivial
  | x :: l, n + 1, hl, h => ⟨⟨x, rfl, wfU (h x (by simp)).1 (h x (by simp)).2⟩, fits_words (by simpa using hl) fun y hy => h y (by simp [hy])⟩
  | [], n + 1, hl, _ => by cases hl
  | x :: l, 0, hl, _ => by cases hl
theorem words_fits : ∀ {vs : List Value} {n : Nat}, Fits (List.replicate n (some .u32)) vs → ∃ l : List Int, vs = l.map (Value.int .u32) ∧ l.length = n ∧ ∀ x ∈ l, 0 ≤ x ∧ x ≤ 4294967295
  | [], 0, _ => ⟨[], rfl, rfl, by simp⟩
  | v :: vs, n + 1, ⟨⟨x, hx, hw⟩, h⟩ => by
    obtain ⟨l, h1, h2, h3⟩ := words_fits h
    refine ⟨x :: l, by simp [hx, h1], by simp [h2], fun y hy => ?_⟩
    rcases List.mem_cons.1 hy with rfl | hy
    · exact bounds_u32 hw
    · exact h3 y hy
  | [], n + 1, h => by cases h
  | v :: vs, 0, h => by cases h
/-- State and cause are numbers of their type. -/
def Hart.Num (h : Hart) : Prop := (-9223372036854775808 ≤ h.state ∧ h.state ≤ 9223372036854775807) ∧ (-9223372036854775808 ≤ h.cause ∧ h.cause ≤ 9223372036854775807)
theorem may_num {h : Hart} (hm : mayH h = true) : h.Num := by
  unfold mayH at hm
  simp at hm
  unfold Hart.Num
  omega
theorem hart_cells_list (h : Hart) : h.cells.toList = h.regs.map (Value.int .u32) ++ [.int .u32 h.pc, .int .i64 h.state, .int .i64 h.cause] := by
  unfold Hart.cells
  simp
theorem hart_fits {h : Hart} (hw : h.Wf) (hn : h.Num) : Fits hartKinds h.cells.toList := by
  rw [hart_cells_list]
  exact (fits_words hw.len hw.word).append ⟨⟨_, rfl, wfU hw.pc0 hw.pc1⟩, ⟨_, rfl, wfI hn.1.1 hn.1.2⟩, ⟨_, rfl, wfI hn.2.1 hn.2.2⟩, trivial⟩
theorem hart_eql {h : Hart} (hw : h.Wf) (hn : h.Num) (w : World) : (binOp .eql 51 (.agg h.cells) (.agg h.cells)).run Try.prog w = .ok (.bool true) w :=
  eql_self w hart_key (by omega) (formed_struct Try.underlying51 hart_cellsOf (by rw [← Array.length_toList, (hart_fits hw hn).length]; rfl)) hart_fitsB (hart_fits hw hn)
theorem com_fits {c : Com} (hc : c.Wf) : Fits comKinds c.cells.toList := by
  obtain ⟨c0, c1, c2, c3, c4, c5, c6, c7, c8, c9, c10⟩ := c
  obtain ⟨h0, h1, h4, h5, h6, h7, h8, h10, h2⟩ := hc
  dsimp only at *
  exact ⟨⟨_, rfl, wfU h0.1 h0.2⟩, ⟨_, rfl, wfU h1.1 h1.2⟩, ⟨_, rfl, wfI (by omega) (by omega)⟩, ⟨_, rfl, wfI (by omega) (by omega)⟩, ⟨_, rfl, wfI (by omega) (by omega)⟩, ⟨_, rfl, wfU h5.1 h5.2⟩, ⟨_, rfl, wfU h6.1 h6.2⟩, ⟨_, rfl, wfI (by omega) (by omega)⟩, ⟨_, rfl, wfU h8.1 h8.2⟩, ⟨_, rfl⟩, ⟨_, rfl, wfU h10.1 h10.2⟩, trivial⟩
theorem com_eql {c : Com} (hc : c.Wf) (w : World) : (binOp .eql 54 (.agg c.cells) (.agg c.cells)).run Try.prog w = .ok (.bool true) w :=
  eql_self w com_key (by omega) (formed_struct Try.underlying54 com_cellsOf rfl) com_fitsB (com_fits hc)
theorem hart0_wf : hart0.Wf := ⟨rfl, fun x hx => by unfold hart0 at hx; simp at hx; omega, by decide, by decide⟩
theorem hart0_num : hart0.Num := by unfold hart0 Hart.Num; simp
theorem com0_wf : com0.Wf := by
  constructor <;> (unfold com0; simp)
end Go.Proofs.Ytapgojgcmlnbgab

/- How a hart reads, handed over by value. -/
namespace Go.Proofs.Ytapgojgcmlnbgab
open Go.ChangeShapes Go.WideShapes Go.RowKit
theorem okWide_struct {P : Program} {w : World} {base : Nat} {t : TypeId} {fs : Array Field} {r : Reach} {v : Value} (he : P.underlying t = some (.struct fs)) (h : Value.okWide P w r base t v) : ∃ cs, v = .agg cs := by
  unfold Value.okWide at h
  rw [he] at h
  obtain ⟨cs, hv, _⟩ := h
  exact ⟨cs, hv⟩
section
variable {H : Type} {enc : TypeId × Value → H} {w : World} {base : Nat} {spare : Nat → Bool} {held : Bool}

theorem fits_hart {cs : Array Value} (h : Fits hartKinds cs.toList) : ∃ hh : Hart, hh.Wf ∧ hh.Num ∧ cs = hh.cells := by
  obtain ⟨regs, h1, h2, h3⟩ := words_fits (n := 32) (h.take 32)
  have hd := h.drop 32
  have hl := h.length
  have hl' : hartKinds.length = 35 := rfl
  generalize hrest : cs.toList.drop 32 = rest at hd
  have hr3 : rest.length = 3 := by rw [← hrest, List.length_drop, hl, hl']
  obtain ⟨a, b, c, rfl⟩ : ∃ a b c, rest = [a, b, c] := by
    match rest, hr3 with
    | [a, b, c], _ => exact ⟨a, b, c, rfl⟩
  obtain ⟨⟨x, rfl, hx⟩, ⟨y, rfl, hy⟩, ⟨z, rfl, hz⟩, _⟩ := hd
  have bx := bounds_u32 hx
  have by_ := bounds_i64 hy
  have bz := bounds_i64 hz
  refine ⟨⟨regs, x, y, z⟩, ⟨h2, h3, bx.1, bx.2⟩, ⟨by_, bz⟩, ?_⟩
  apply Array.toList_inj.1
  rw [hart_cells_list, ← List.take_append_drop 32 cs.toList, h1, hrest]
theorem open_hart {fuel : Nat} {cs : Array Value} {x : DataW H × List MemPlace} (h : DataW.trod enc Try.prog w base spare held fuel 51 (Value.agg cs).cells.toList = some x) : ∃ hh : Hart, hh.Wf ∧ hh.Num ∧ cs = hh.cells :=
  fits_hart (trod_fits 20 51 hartKinds fuel _ _ (by kernel_rfl) h)
end
end Go.Proofs.Ytapgojgcmlnbgab

/- The walks of the reference of reckoning: Of, Power, Signed. -/
namespace Go.Proofs.Ytapgojgcmlnbgab
open Go.RowKit

theorem of_any (n : Int) (w : World) (h0 : -9223372036854775808 ≤ n) (h1 : n ≤ 9223372036854775807) :
    Calls Try.prog 59 #[.int .i64 n] w fun e w' => e = .returned (.int .u32 (n % 4294967296)) ∧ w = w' := by
  generalize hx : n % 4294967296 = x
  have Hx := Lib.hid hx
  clear hx
  by_cases hn : 0 ≤ n
  · go_enter Try.func59, Try.ntmps59
    go_wp2
    all_goals
      go_ret
      refine ⟨ret_int ?_, rfl⟩
      first | exact Hx.out | (rw [← Hx.out]; omega)
  · have hm : n.tmod 4294967296 = -((-n) % 4294967296) := by
      obtain ⟨k, rfl⟩ : ∃ k : Nat, n = -(k : Int) := ⟨(-n).toNat, by omega⟩
      rw [Int.neg_tmod, Int.neg_neg]
      rfl
    have hz : -4294967296 < n.tmod 4294967296 ∧ n.tmod 4294967296 ≤ 0 := by rw [hm]; omega
    have Hm := Lib.hid hm
    obtain ⟨z1, z2⟩ := hz
    clear hm
    go_enter Try.func59, Try.ntmps59
    go_wp2
    all_goals
      go_ret
      refine ⟨ret_int ?_, rfl⟩
      rw [← Hx.out]
      have hm := Hm.out
      have hr : n % 4294967296 = 4294967296 - ((-n) % 4294967296) ∨ (n % 4294967296 = 0 ∧ (-n) % 4294967296 = 0) := by omega
      generalize n.tmod 4294967296 = t at *
      omega

theorem power_any (k : Nat) (w : World) (hk : k ≤ 61) :
    Calls Try.prog 61 #[.int .i64 k] w fun e w' => e = .returned (.int .i64 (2 ^ k : Nat)) ∧ w = w' := by
  have key : ∀ j, j ≤ k → (2 ^ j : Nat) ≤ 2305843009213693952 := fun j hj => by
    have : (2 ^ j : Nat) ≤ 2 ^ 61 := Nat.pow_le_pow_right (by omega) (by omega)
    omega
  have Key := Lib.hid key
  clear key
  go_enter Try.func61, Try.ntmps61
  go_wp2_with fail
  go_loop [3, 4] (fun v3 v4 => ∃ (j p : Nat), v3 = .int .i64 p ∧ v4 = .int .i64 j ∧ j ≤ k ∧ Hid (p = 2 ^ j) ∧ p ≤ 2305843009213693952) (fun _ v4 => k - (intOf v4).toNat)
  case atStart => exact ⟨0, 1, rfl, rfl, by omega, rfl, by omega⟩
  case round =>
    obtain ⟨j, p, rfl, rfl, hj, Hp, hp⟩ := hrel
    by_cases hlt : j < k
    · go_wp2
      go_round
      case rel => exact ⟨j + 1, p + p, by go_num, by go_num, by omega, Lib.hid (by rw [Hp.out, Nat.pow_succ]; omega), by have := Key.out (j + 1) (by omega); rw [Nat.pow_succ, ← Hp.out] at this; omega⟩
      case measure => simp [intOf]; omega
    · obtain rfl : j = k := by omega
      go_wp2
      go_ret
      exact ⟨ret_int (by rw [Hp.out]; simp), rfl⟩
end Go.Proofs.Ytapgojgcmlnbgab

/- The walks of the reference of reckoning: Signed, floor, truth, bits, upper. -/
namespace Go.Proofs.Ytapgojgcmlnbgab
open Go.RowKit

theorem signed_any (a : Int) (w : World) (h0 : 0 ≤ a) (h1 : a ≤ 4294967295) :
    Calls Try.prog 57 #[.int .u32 a] w fun e w' => e = .returned (.int .i64 (sg a)) ∧ w = w' := by
  generalize hx : sg a = x
  have Hx := Lib.hid hx
  clear hx
  go_enter Try.func57, Try.ntmps57
  go_wp2
  all_goals
    go_ret
    refine ⟨ret_int ?_, rfl⟩
    rw [← Hx.out]
    unfold sg
    split <;> omega

theorem rtruth_any (b : Bool) (w : World) : Calls Try.prog 63 #[.bool b] w fun e w' => e = .returned (.int .u32 (if b = true then 1 else 0)) ∧ w = w' := by
  cases b
  all_goals
    go_enter Try.func63, Try.ntmps63
    go_wp2
    go_ret
    exact ⟨rfl, rfl⟩

theorem tmod_cases (a b : Int) (hb : 1 ≤ b) : (a.tmod b = a % b ∧ (0 ≤ a.tmod b)) ∨ (a.tmod b = a % b - b ∧ a.tmod b < 0) := by
  have h1 := Int.emod_nonneg a (show b ≠ 0 by omega)
  have h2 := Int.emod_lt_of_pos a (show 0 < b by omega)
  rw [Int.tmod_eq_emod]
  split
  · left; omega
  · right
    rw [Int.natAbs_of_nonneg (by omega)]
    omega

set_option maxRecDepth 100000 in
theorem floor_any (a b : Int) (w : World) (h0 : -4611686018427387904 ≤ a) (h1 : a ≤ 4611686018427387904) (h2 : 1 ≤ b) (h3 : b ≤ 4294967296) :
    Calls Try.prog 62 #[.int .i64 a, .int .i64 b] w fun e w' => e = .returned (.int .i64 (a / b)) ∧ w = w' := by
  have e1 := Int.emod_nonneg a (show b ≠ 0 by omega)
  have e2 := Int.emod_lt_of_pos a (show 0 < b by omega)
  have e3 : (a - a % b).tdiv b = a / b := by
    rw [show a - a % b = a / b * b by have := Int.mul_ediv_add_emod a b; rw [Int.mul_comm]; omega]
    exact Int.mul_tdiv_cancel _ (by omega)
  have hq : -4611686018427387904 ≤ a / b ∧ a / b ≤ 4611686018427387904 := by
    rcases Int.lt_or_le a 0 with ha | ha
    · have k1 : a ≤ a / b := Int.le_ediv_of_mul_le (by omega) (by
        have := Int.mul_le_mul_of_nonpos_left (show a ≤ 0 by omega) h2
        rw [Int.mul_one] at this
        exact this)
      have k2 := Int.ediv_neg_of_neg_of_pos ha (show 0 < b by omega)
      omega
    · have k1 := Int.ediv_nonneg ha (show 0 ≤ b by omega)
      have k2 := Int.ediv_le_self b ha
      omega
  obtain ⟨q1, q2⟩ := hq
  rcases tmod_cases a b h2 with ⟨t1, t2⟩ | ⟨t1, t2⟩
  · generalize a / b = q at e3 q1 q2 ⊢
    generalize a % b = r at e1 e2 e3 t1
    go_enter Try.func62, Try.ntmps62
    go_wp2
    all_goals
      go_ret
      exact ⟨rfl, rfl⟩
  · generalize a / b = q at e3 q1 q2 ⊢
    generalize a % b = r at e1 e2 e3 t1
    have e4 : r - b + b = r := by omega
    go_enter Try.func62, Try.ntmps62
    go_wp2
    all_goals
      go_ret
      exact ⟨rfl, rfl⟩

theorem upper_law (a b : Int) : (a * (b / 65536) + a * (b % 65536) / 65536) / 65536 = a * b / 4294967296 := by
  have h : a * b = a * (b % 65536) + a * (b / 65536) * 65536 := by
    rw [Int.mul_assoc, ← Int.mul_add]
    congr 1
    omega
  rw [h, show (4294967296 : Int) = 65536 * 65536 from rfl, ← Int.ediv_ediv_of_nonneg (by omega), Int.add_mul_ediv_right _ _ (by omega), Int.add_comm]
set_option maxRecDepth 100000 in
theorem upper_any (a b : Int) (w : World) (h0 : -2147483648 ≤ a) (h1 : a ≤ 4294967295) (h2 : 0 ≤ b) (h3 : b ≤ 4294967295) :
    Calls Try.prog 64 #[.int .i64 a, .int .i64 b] w fun e w' => e = .returned (.int .u32 (a * b / 4294967296 % 4294967296)) ∧ w = w' := by
  have hl := upper_law a b
  obtain ⟨m1, m2⟩ := mul_abs (a := a) (b := b / 65536) (A := 4294967296) (B := 65536) (by omega) (by omega)
  obtain ⟨m3, m4⟩ := mul_abs (a := a) (b := b % 65536) (A := 4294967296) (B := 65536) (by omega) (by omega)
  rw [← hl]
  clear hl
  generalize hb1 : b / 65536 = b1 at m1 m2 ⊢
  generalize hb2 : b % 65536 = b2 at m3 m4 ⊢
  generalize hp : a * b1 = p at m1 m2 ⊢
  generalize hq : a * b2 = q at m3 m4 ⊢
  go_enter Try.func64, Try.ntmps64
  go_wp2_with (first
    | (go_at_call 62; (with_reducible refine (floor_any _ _ _ (by omega) (by omega) (by omega) (by omega)).mono ?_); rintro e w1 ⟨rfl, rfl⟩)
    | (go_at_call 59; (with_reducible refine (of_any _ _ (by omega) (by omega)).mono ?_); rintro e w1 ⟨rfl, rfl⟩))
  go_ret
  exact ⟨rfl, rfl⟩

theorem bit_step (x i : Nat) : x % 2 ^ (i + 1) = x % 2 ^ i + (if x.testBit i = true then 2 ^ i else 0) := by
  rw [Nat.pow_succ, Nat.mod_mul, Nat.testBit_eq_decide_div_mod_eq]
  rcases Nat.mod_two_eq_zero_or_one (x / 2 ^ i) with h | h <;> simp [h]

set_option maxRecDepth 100000 in
set_option maxHeartbeats 1000000 in
theorem bitsAnd_any (a b : Nat) (w : World) (ha : a < 4294967296) (hb : b < 4294967296) :
    Calls Try.prog 60 #[.int .i64 37, .int .u32 a, .int .u32 b] w fun e w' => e = .returned (.int .u32 ((a &&& b : Nat) : Int)) ∧ w = w' := by
  have hF : a &&& b < 2 ^ 32 := Nat.and_lt_two_pow _ (by omega)
  have hbit : ∀ i, (a &&& b).testBit i = (a.testBit i && b.testBit i) := fun i => by rw [Nat.testBit_and]
  generalize a &&& b = F at hF hbit ⊢
  have Hbit := Lib.hid hbit
  clear hbit
  go_enter Try.func60, Try.ntmps60
  go_wp2
  go_loopw [7, 8, 9, 10] (fun v7 v8 v9 v10 wr => ∃ i : Nat, v7 = .int .i64 ((a / 2 ^ i : Nat) : Int) ∧ v8 = .int .i64 ((b / 2 ^ i : Nat) : Int) ∧ v9 = .int .i64 ((F % 2 ^ i : Nat) : Int) ∧ v10 = .int .i64 i ∧ i ≤ 32 ∧ wr = w) (fun _ _ _ v _ => 32 - (intOf v).toNat)
  case atStart => exact ⟨0, by simp, by simp, by simp [Nat.mod_one], rfl, by omega, rfl⟩
  case round =>
    obtain ⟨i, rfl, rfl, rfl, rfl, hi, rfl⟩ := hrel
    by_cases hlt : i < 32
    · have s1 := bit_step F i
      rw [Hbit.out i, Nat.testBit_eq_decide_div_mod_eq, Nat.testBit_eq_decide_div_mod_eq] at s1
      have d1 : a / 2 ^ (i + 1) = a / 2 ^ i / 2 := by rw [Nat.pow_succ, Nat.div_div_eq_div_mul]
      have d2 : b / 2 ^ (i + 1) = b / 2 ^ i / 2 := by rw [Nat.pow_succ, Nat.div_div_eq_div_mul]
      have x1 : a / 2 ^ i ≤ a := Nat.div_le_self _ _
      have x2 : b / 2 ^ i ≤ b := Nat.div_le_self _ _
      have x3 : F % 2 ^ i < 2 ^ i := Nat.mod_lt _ (Nat.two_pow_pos i)
      have x4 : 2 ^ i ≤ 2 ^ 31 := Nat.pow_le_pow_right (by omega) (by omega)
      have D1 := Lib.hid d1
      have D2 := Lib.hid d2
      clear d1 d2
      generalize hx : a / 2 ^ i = x at x1 s1 ⊢
      generalize hy : b / 2 ^ i = y at x2 s1 ⊢
      generalize hz : F % 2 ^ i = z at x3 s1 ⊢
      generalize hP : 2 ^ i = P at x3 x4 s1
      have S1 := Lib.hid s1
      have HX := Lib.hid hx
      have HY := Lib.hid hy
      have HP := Lib.hid hP
      clear s1 hx hy hz hP
      have hx2 : (x % 2 = 0 ∧ (x : Int) % 2 = 0) ∨ (x % 2 = 1 ∧ (x : Int) % 2 = 1) := by omega
      have hy2 : (y % 2 = 0 ∧ (y : Int) % 2 = 0) ∨ (y % 2 = 1 ∧ (y : Int) % 2 = 1) := by omega
      rcases hx2 with ⟨hx, hx'⟩ | ⟨hx, hx'⟩ <;> rcases hy2 with ⟨hy, hy'⟩ | ⟨hy, hy'⟩
      all_goals
        have S2 := S1.out
        rw [hx, hy] at S2
        have S3 := Lib.hid S2
        clear S2 hx hy
        go_wp2_with (go_at_call 61; (with_reducible refine (power_any i _ (by omega)).mono ?_); rintro e w1 ⟨rfl, rfl⟩; rw [HP.out])
        go_roundw
        case rel => exact ⟨i + 1, by rw [D1.out, HX.out]; rfl, by rw [D2.out, HY.out]; rfl, by rw [S3.out]; simp, by go_num, by omega, trivial⟩
        case measure => simp [intOf]; omega
    · obtain rfl : i = 32 := by omega
      rw [Nat.mod_eq_of_lt hF]
      go_wp2_with (go_at_call 59; (with_reducible refine (of_any _ _ (by omega) (by omega)).mono ?_); rintro e w1 ⟨rfl, rfl⟩)
      go_ret
      exact ⟨ret_int (by omega), rfl⟩
set_option maxRecDepth 100000 in
set_option maxHeartbeats 1000000 in
theorem bitsOr_any (a b : Nat) (w : World) (ha : a < 4294967296) (hb : b < 4294967296) :
    Calls Try.prog 60 #[.int .i64 36, .int .u32 a, .int .u32 b] w fun e w' => e = .returned (.int .u32 ((a ||| b : Nat) : Int)) ∧ w = w' := by
  have hF : a ||| b < 2 ^ 32 := Nat.or_lt_two_pow (by omega) (by omega)
  have hbit : ∀ i, (a ||| b).testBit i = (a.testBit i || b.testBit i) := fun i => by rw [Nat.testBit_or]
  generalize a ||| b = F at hF hbit ⊢
  have Hbit := Lib.hid hbit
  clear hbit
  go_enter Try.func60, Try.ntmps60
  go_wp2
  go_loopw [7, 8, 9, 10] (fun v7 v8 v9 v10 wr => ∃ i : Nat, v7 = .int .i64 ((a / 2 ^ i : Nat) : Int) ∧ v8 = .int .i64 ((b / 2 ^ i : Nat) : Int) ∧ v9 = .int .i64 ((F % 2 ^ i : Nat) : Int) ∧ v10 = .int .i64 i ∧ i ≤ 32 ∧ wr = w) (fun _ _ _ v _ => 32 - (intOf v).toNat)
  case atStart => exact ⟨0, by simp, by simp, by simp [Nat.mod_one], rfl, by omega, rfl⟩
  case round =>
    obtain ⟨i, rfl, rfl, rfl, rfl, hi, rfl⟩ := hrel
    by_cases hlt : i < 32
    · have s1 := bit_step F i
      rw [Hbit.out i, Nat.testBit_eq_decide_div_mod_eq, Nat.testBit_eq_decide_div_mod_eq] at s1
      have d1 : a / 2 ^ (i + 1) = a / 2 ^ i / 2 := by rw [Nat.pow_succ, Nat.div_div_eq_div_mul]
      have d2 : b / 2 ^ (i + 1) = b / 2 ^ i / 2 := by rw [Nat.pow_succ, Nat.div_div_eq_div_mul]
      have x1 : a / 2 ^ i ≤ a := Nat.div_le_self _ _
      have x2 : b / 2 ^ i ≤ b := Nat.div_le_self _ _
      have x3 : F % 2 ^ i < 2 ^ i := Nat.mod_lt _ (Nat.two_pow_pos i)
      have x4 : 2 ^ i ≤ 2 ^ 31 := Nat.pow_le_pow_right (by omega) (by omega)
      have D1 := Lib.hid d1
      have D2 := Lib.hid d2
      clear d1 d2
      generalize hx : a / 2 ^ i = x at x1 s1 ⊢
      generalize hy : b / 2 ^ i = y at x2 s1 ⊢
      generalize hz : F % 2 ^ i = z at x3 s1 ⊢
      generalize hP : 2 ^ i = P at x3 x4 s1
      have S1 := Lib.hid s1
      have HX := Lib.hid hx
      have HY := Lib.hid hy
      have HP := Lib.hid hP
      clear s1 hx hy hz hP
      have hx2 : (x % 2 = 0 ∧ (x : Int) % 2 = 0) ∨ (x % 2 = 1 ∧ (x : Int) % 2 = 1) := by omega
      have hy2 : (y % 2 = 0 ∧ (y : Int) % 2 = 0) ∨ (y % 2 = 1 ∧ (y : Int) % 2 = 1) := by omega
      rcases hx2 with ⟨hx, hx'⟩ | ⟨hx, hx'⟩ <;> rcases hy2 with ⟨hy, hy'⟩ | ⟨hy, hy'⟩
      all_goals
        have S2 := S1.out
        rw [hx, hy] at S2
        have S3 := Lib.hid S2
        clear S2 hx hy
        go_wp2_with (go_at_call 61; (with_reducible refine (power_any i _ (by omega)).mono ?_); rintro e w1 ⟨rfl, rfl⟩; rw [HP.out])
        go_roundw
        case rel => exact ⟨i + 1, by rw [D1.out, HX.out]; rfl, by rw [D2.out, HY.out]; rfl, by rw [S3.out]; simp, by go_num, by omega, trivial⟩
        case measure => simp [intOf]; omega
    · obtain rfl : i = 32 := by omega
      rw [Nat.mod_eq_of_lt hF]
      go_wp2_with (go_at_call 59; (with_reducible refine (of_any _ _ (by omega) (by omega)).mono ?_); rintro e w1 ⟨rfl, rfl⟩)
      go_ret
      exact ⟨ret_int (by omega), rfl⟩
set_option maxRecDepth 100000 in
set_option maxHeartbeats 1000000 in
theorem bitsXor_any (a b : Nat) (w : World) (ha : a < 4294967296) (hb : b < 4294967296) :
    Calls Try.prog 60 #[.int .i64 33, .int .u32 a, .int .u32 b] w fun e w' => e = .returned (.int .u32 ((a ^^^ b : Nat) : Int)) ∧ w = w' := by
  have hF : a ^^^ b < 2 ^ 32 := Nat.xor_lt_two_pow (by omega) (by omega)
  have hbit : ∀ i, (a ^^^ b).testBit i = (a.testBit i ^^ b.testBit i) := fun i => by rw [Nat.testBit_xor]
  generalize a ^^^ b = F at hF hbit ⊢
  have Hbit := Lib.hid hbit
  clear hbit
  go_enter Try.func60, Try.ntmps60
  go_wp2
  go_loopw [7, 8, 9, 10] (fun v7 v8 v9 v10 wr => ∃ i : Nat, v7 = .int .i64 ((a / 2 ^ i : Nat) : Int) ∧ v8 = .int .i64 ((b / 2 ^ i : Nat) : Int) ∧ v9 = .int .i64 ((F % 2 ^ i : Nat) : Int) ∧ v10 = .int .i64 i ∧ i ≤ 32 ∧ wr = w) (fun _ _ _ v _ => 32 - (intOf v).toNat)
  case atStart => exact ⟨0, by simp, by simp, by simp [Nat.mod_one], rfl, by omega, rfl⟩
  case round =>
    obtain ⟨i, rfl, rfl, rfl, rfl, hi, rfl⟩ := hrel
    by_cases hlt : i < 32
    · have s1 := bit_step F i
      rw [Hbit.out i, Nat.testBit_eq_decide_div_mod_eq, Nat.testBit_eq_decide_div_mod_eq] at s1
      have d1 : a / 2 ^ (i + 1) = a / 2 ^ i / 2 := by rw [Nat.pow_succ, Nat.div_div_eq_div_mul]
      have d2 : b / 2 ^ (i + 1) = b / 2 ^ i / 2 := by rw [Nat.pow_succ, Nat.div_div_eq_div_mul]
      have x1 : a / 2 ^ i ≤ a := Nat.div_le_self _ _
      have x2 : b / 2 ^ i ≤ b := Nat.div_le_self _ _
      have x3 : F % 2 ^ i < 2 ^ i := Nat.mod_lt _ (Nat.two_pow_pos i)
      have x4 : 2 ^ i ≤ 2 ^ 31 := Nat.pow_le_pow_right (by omega) (by omega)
      have D1 := Lib.hid d1
      have D2 := Lib.hid d2
      clear d1 d2
      generalize hx : a / 2 ^ i = x at x1 s1 ⊢
      generalize hy : b / 2 ^ i = y at x2 s1 ⊢
      generalize hz : F % 2 ^ i = z at x3 s1 ⊢
      generalize hP : 2 ^ i = P at x3 x4 s1
      have S1 := Lib.hid s1
      have HX := Lib.hid hx
      have HY := Lib.hid hy
      have HP := Lib.hid hP
      clear s1 hx hy hz hP
      have hx2 : (x % 2 = 0 ∧ (x : Int) % 2 = 0) ∨ (x % 2 = 1 ∧ (x : Int) % 2 = 1) := by omega
      have hy2 : (y % 2 = 0 ∧ (y : Int) % 2 = 0) ∨ (y % 2 = 1 ∧ (y : Int) % 2 = 1) := by omega
      rcases hx2 with ⟨hx, hx'⟩ | ⟨hx, hx'⟩ <;> rcases hy2 with ⟨hy, hy'⟩ | ⟨hy, hy'⟩
      all_goals
        have S2 := S1.out
        rw [hx, hy] at S2
        have S3 := Lib.hid S2
        clear S2 hx hy
        go_wp2_with (go_at_call 61; (with_reducible refine (power_any i _ (by omega)).mono ?_); rintro e w1 ⟨rfl, rfl⟩; rw [HP.out])
        go_roundw
        case rel => exact ⟨i + 1, by rw [D1.out, HX.out]; rfl, by rw [D2.out, HY.out]; rfl, by rw [S3.out]; simp, by go_num, by omega, trivial⟩
        case measure => simp [intOf]; omega
    · obtain rfl : i = 32 := by omega
      rw [Nat.mod_eq_of_lt hF]
      go_wp2_with (go_at_call 59; (with_reducible refine (of_any _ _ (by omega) (by omega)).mono ?_); rintro e w1 ⟨rfl, rfl⟩)
      go_ret
      exact ⟨ret_int (by omega), rfl⟩
end Go.Proofs.Ytapgojgcmlnbgab
