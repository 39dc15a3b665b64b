/- What decode.Encode comes to, in plain Lean: which instructions have a word, and that it is read as the same one. -/
import Derived.Test.YtapgojgcmlnbgabKHS901
set_option linter.unusedSimpArgs false
set_option linter.unusedVariables false

namespace Go.Proofs.Ytapgojgcmlnbgab
open Go

/-- Is an instruction one that Decode ever answers? By its fields. -/
def IsP (i : Ins) : Bool :=
  if 1 ≤ i.op ∧ i.op ≤ 48 ∧ 0 ≤ i.rd ∧ i.rd ≤ 31 ∧ 0 ≤ i.rs1 ∧ i.rs1 ≤ 31 ∧ 0 ≤ i.rs2 ∧ i.rs2 ≤ 31 then
    if i.op ≤ 2 then decide (i.rs1 = 0 ∧ i.rs2 = 0 ∧ i.imm % 4096 = 0)
    else if i.op = 3 then decide (i.rs1 = 0 ∧ i.rs2 = 0 ∧ (-1048576 ≤ i.imm ∧ i.imm ≤ 1048574) ∧ i.imm % 2 = 0)
    else if i.op = 4 ∨ (11 ≤ i.op ∧ i.op ≤ 15) ∨ (19 ≤ i.op ∧ i.op ≤ 24) ∨ i.op = 46 then decide (i.rs2 = 0 ∧ (-2048 ≤ i.imm ∧ i.imm ≤ 2047))
    else if 5 ≤ i.op ∧ i.op ≤ 10 then decide (i.rd = 0 ∧ (-4096 ≤ i.imm ∧ i.imm ≤ 4094) ∧ i.imm % 2 = 0)
    else if 16 ≤ i.op ∧ i.op ≤ 18 then decide (i.rd = 0 ∧ (-2048 ≤ i.imm ∧ i.imm ≤ 2047))
    else if 25 ≤ i.op ∧ i.op ≤ 27 then decide (i.rs2 = 0 ∧ (0 ≤ i.imm ∧ i.imm ≤ 31))
    else if 28 ≤ i.op ∧ i.op ≤ 45 then decide (i.imm = 0)
    else decide (i.rd = 0 ∧ i.rs1 = 0 ∧ i.rs2 = 0 ∧ i.imm = 0)
  else false

/-- Which form an operation has. -/
def formOf (op : Int) : Int :=
  if op ≤ 2 then 0 else if op = 3 then 1
  else if op = 4 ∨ (11 ≤ op ∧ op ≤ 15) ∨ (19 ≤ op ∧ op ≤ 24) ∨ op = 46 then 2
  else if 5 ≤ op ∧ op ≤ 10 then 4 else if 16 ≤ op ∧ op ≤ 18 then 5 else if 25 ≤ op ∧ op ≤ 27 then 3 else if 28 ≤ op ∧ op ≤ 45 then 6 else 7

def okOp (p : Int × Int) : Bool := decide (p.1 < 0) || (decide (1 ≤ p.1 ∧ p.1 ≤ 48) && decide (p.2 = formOf p.1))
theorem find_ok (low mid up w : Int) : ∀ l : List (Int × Kind), (∀ q ∈ l, okOp (q.1, q.2.form) = true) → okOp (findK low mid up w l) = true
  | [], _ => rfl
  | (op, k) :: l, h => by
    unfold findK
    split
    · exact h (op, k) (by simp)
    · exact find_ok low mid up w l fun q hq => h q (by simp [hq])
theorem kindsL_ok : ∀ q ∈ kindsL, okOp (q.1, q.2.form) = true := by decide +kernel

theorem readP0 (op w : Int) : readP op 0 w = ⟨op, cutI w 7 11, 0, 0, sgnI (w - cutI w 0 11) 32⟩ := rfl
theorem readP1 (op w : Int) : readP op 1 w = ⟨op, cutI w 7 11, 0, 0, sgnI (cutI w 31 31 * 1048576 + cutI w 12 19 * 4096 + cutI w 20 20 * 2048 + cutI w 21 30 * 2) 21⟩ := rfl
theorem readP2 (op w : Int) : readP op 2 w = ⟨op, cutI w 7 11, cutI w 15 19, 0, sgnI (cutI w 20 31) 12⟩ := rfl
theorem readP3 (op w : Int) : readP op 3 w = ⟨op, cutI w 7 11, cutI w 15 19, 0, cutI w 20 24⟩ := rfl
theorem readP4 (op w : Int) : readP op 4 w = ⟨op, 0, cutI w 15 19, cutI w 20 24, sgnI (cutI w 31 31 * 4096 + cutI w 7 7 * 2048 + cutI w 25 30 * 32 + cutI w 8 11 * 2) 13⟩ := rfl
theorem readP5 (op w : Int) : readP op 5 w = ⟨op, 0, cutI w 15 19, cutI w 20 24, sgnI (cutI w 25 31 * 32 + cutI w 7 11) 12⟩ := rfl
theorem readP6 (op w : Int) : readP op 6 w = ⟨op, cutI w 7 11, cutI w 15 19, cutI w 20 24, 0⟩ := rfl
theorem readP7 (op w : Int) : readP op 7 w = ⟨op, 0, 0, 0, 0⟩ := rfl
theorem cut_hi (w : Int) (f t : Nat) (n : Int) (h : (2 : Int) ^ (t + 1 - f) = n) : 0 ≤ cutI w f t ∧ cutI w f t < n := by
  rw [← h]
  exact cut_lt w f t
theorem dec_is {w : Int} {i : Ins} (h : decP w = some i) : IsP i = true := by
  unfold decP at h
  rw [findP_eq w 48 1 (by omega), kinds_eq] at h
  have hk := find_ok (cutI w 0 6) (cutI w 12 14) (cutI w 25 31) w kindsL kindsL_ok
  generalize findK (cutI w 0 6) (cutI w 12 14) (cutI w 25 31) w kindsL = p at h hk
  obtain ⟨op, form⟩ := p
  simp only at h
  by_cases hop : op < 0
  · rw [if_pos hop] at h
    cases h
  rw [if_neg hop] at h
  have hfo : (1 ≤ op ∧ op ≤ 48) ∧ form = formOf op := by
    unfold okOp at hk
    simp only [Bool.or_eq_true, Bool.and_eq_true, decide_eq_true_eq] at hk
    omega
  clear hk
  obtain ⟨⟨o1, o2⟩, rfl⟩ := hfo
  obtain rfl : readP op (formOf op) w = i := by injection h
  clear h
  have hrd := cut_hi w 7 11 32 (by decide)
  have hr1 := cut_hi w 15 19 32 (by decide)
  have hr2 := cut_hi w 20 24 32 (by decide)
  have h31 := cut_hi w 31 31 2 (by decide)
  have h1219 := cut_hi w 12 19 256 (by decide)
  have h20 := cut_hi w 20 20 2 (by decide)
  have h2130 := cut_hi w 21 30 1024 (by decide)
  have h2031 := cut_hi w 20 31 4096 (by decide)
  have h7 := cut_hi w 7 7 2 (by decide)
  have h2530 := cut_hi w 25 30 64 (by decide)
  have h811 := cut_hi w 8 11 16 (by decide)
  have h2531 := cut_hi w 25 31 128 (by decide)
  have h011 : cutI w 0 11 = w % 4096 := by unfold cutI; simp
  have e31 : (2 : Int) ^ 31 = 2147483648 := by decide
  have e32 : (2 : Int) ^ 32 = 4294967296 := by decide
  have e20 : (2 : Int) ^ 20 = 1048576 := by decide
  have e21 : (2 : Int) ^ 21 = 2097152 := by decide
  have e11 : (2 : Int) ^ 11 = 2048 := by decide
  have e12 : (2 : Int) ^ 12 = 4096 := by decide
  have e13 : (2 : Int) ^ 13 = 8192 := by decide
  unfold formOf
  by_cases c : op ≤ 2
  · rw [if_pos c, readP0]
    unfold IsP
    dsimp only
    rw [if_pos (by omega), if_pos c, decide_eq_true_eq]
    unfold sgnI
    simp only [e31, e32]
    refine ⟨trivial, trivial, ?_⟩
    split <;> omega
  rw [if_neg c]
  by_cases c1 : op = 3
  · rw [if_pos c1, readP1]
    unfold IsP
    dsimp only
    rw [if_pos (by omega), if_neg c, if_pos c1, decide_eq_true_eq]
    unfold sgnI
    simp only [e20, e21]
    refine ⟨trivial, trivial, ?_⟩
    split <;> omega
  rw [if_neg c1]
  by_cases c2 : op = 4 ∨ (11 ≤ op ∧ op ≤ 15) ∨ (19 ≤ op ∧ op ≤ 24) ∨ op = 46
  · rw [if_pos c2, readP2]
    unfold IsP
    dsimp only
    rw [if_pos (by omega), if_neg c, if_neg c1, if_pos c2, decide_eq_true_eq]
    unfold sgnI
    simp only [e11, e12]
    refine ⟨trivial, ?_⟩
    split <;> omega
  rw [if_neg c2]
  by_cases c3 : 5 ≤ op ∧ op ≤ 10
  · rw [if_pos c3, readP4]
    unfold IsP
    dsimp only
    rw [if_pos (by omega), if_neg c, if_neg c1, if_neg c2, if_pos c3, decide_eq_true_eq]
    unfold sgnI
    simp only [e12, e13]
    refine ⟨trivial, ?_⟩
    split <;> omega
  rw [if_neg c3]
  by_cases c4 : 16 ≤ op ∧ op ≤ 18
  · rw [if_pos c4, readP5]
    unfold IsP
    dsimp only
    rw [if_pos (by omega), if_neg c, if_neg c1, if_neg c2, if_neg c3, if_pos c4, decide_eq_true_eq]
    unfold sgnI
    simp only [e11, e12]
    refine ⟨trivial, ?_⟩
    split <;> omega
  rw [if_neg c4]
  by_cases c5 : 25 ≤ op ∧ op ≤ 27
  · rw [if_pos c5, readP3]
    unfold IsP
    dsimp only
    rw [if_pos (by omega), if_neg c, if_neg c1, if_neg c2, if_neg c3, if_neg c4, if_pos c5, decide_eq_true_eq]
    exact ⟨rfl, by omega⟩
  rw [if_neg c5]
  by_cases c6 : 28 ≤ op ∧ op ≤ 45
  · rw [if_pos c6, readP6]
    unfold IsP
    dsimp only
    rw [if_pos (by omega), if_neg c, if_neg c1, if_neg c2, if_neg c3, if_neg c4, if_neg c5, if_pos c6]
    rfl
  rw [if_neg c6, readP7]
  unfold IsP
  dsimp only
  rw [if_pos (by omega), if_neg c, if_neg c1, if_neg c2, if_neg c3, if_neg c4, if_neg c5, if_neg c6]
  rfl

/-- The word of an instruction that is one. -/
def encW (i : Ins) : Int :=
  let n := i.imm % 4294967296
  match kindP i.op with
  | none => 0
  | some k =>
    if k.form = 0 then k.low + i.rd * 128 + (n - n % 4096)
    else if k.form = 1 then k.low + i.rd * 128 + cutI n 12 19 * 4096 + cutI n 11 11 * 1048576 + cutI n 1 10 * 2097152 + cutI n 20 20 * 2147483648
    else if k.form = 2 then k.low + i.rd * 128 + k.middle * 4096 + i.rs1 * 32768 + cutI n 0 11 * 1048576
    else if k.form = 3 then k.low + i.rd * 128 + k.middle * 4096 + i.rs1 * 32768 + cutI n 0 4 * 1048576 + k.upper * 33554432
    else if k.form = 4 then k.low + cutI n 11 11 * 128 + cutI n 1 4 * 256 + k.middle * 4096 + i.rs1 * 32768 + i.rs2 * 1048576 + cutI n 5 10 * 33554432 + cutI n 12 12 * 2147483648
    else if k.form = 5 then k.low + cutI n 0 4 * 128 + k.middle * 4096 + i.rs1 * 32768 + i.rs2 * 1048576 + cutI n 5 11 * 33554432
    else if k.form = 6 then k.low + i.rd * 128 + k.middle * 4096 + i.rs1 * 32768 + i.rs2 * 1048576 + k.upper * 33554432
    else k.low + k.upper * 1048576

theorem cut_eq (w : Int) (f t : Nat) (a b : Int) (ha : (2 : Int) ^ f = a) (hb : (2 : Int) ^ (t + 1 - f) = b) : cutI w f t = w / a % b := by unfold cutI; rw [ha, hb]
theorem formR_eq (w low mid up : Int) (hl : cutI w 0 6 = low) (hm : cutI w 12 14 = mid) (hu : cutI w 25 31 = up) : decR w = let p := formR low mid up w; if p.1 < 0 then none else some (readP p.1 p.2 w) := by
  unfold decR; rw [hl, hm, hu]

theorem form_back (op : Int) (k : Kind) (hk : kindP op = some k) (mid up w : Int) (h : tellsK k k.low mid up w = true) : findK k.low mid up w kindsL = (op, k.form) := by
  have hop : 1 ≤ op ∧ op ≤ 48 := by
    rcases Int.lt_or_le op 1 with h1 | h1
    · exfalso
      unfold kindP at hk
      repeat rw [if_neg (by omega)] at hk
      cases hk
    · rcases Int.lt_or_le 48 op with h2 | h2
      · exfalso
        unfold kindP at hk
        repeat rw [if_neg (by omega)] at hk
        cases hk
      · exact ⟨h1, h2⟩
  obtain ⟨n, rfl⟩ : ∃ n : Nat, op = n := ⟨op.toNat, by omega⟩
  have hn : n < 49 := by omega
  match n, hn with
  | 0, _ => omega
  | 1, _ => (have e : kindP (1 : Int) = _ := rfl; simp only [Int.cast_ofNat_Int] at hk; rw [e] at hk; cases hk; simp [findK, kindsL, tellsK])
  | 2, _ => (have e : kindP (2 : Int) = _ := rfl; simp only [Int.cast_ofNat_Int] at hk; rw [e] at hk; cases hk; simp [findK, kindsL, tellsK])
  | 3, _ => (have e : kindP (3 : Int) = _ := rfl; simp only [Int.cast_ofNat_Int] at hk; rw [e] at hk; cases hk; simp [findK, kindsL, tellsK])
  | 4, _ => (have e : kindP (4 : Int) = _ := rfl; simp only [Int.cast_ofNat_Int] at hk; rw [e] at hk; cases hk; simp [tellsK] at h; simp [findK, kindsL, tellsK, h])
  | 5, _ => (have e : kindP (5 : Int) = _ := rfl; simp only [Int.cast_ofNat_Int] at hk; rw [e] at hk; cases hk; simp [tellsK] at h; simp [findK, kindsL, tellsK, h])
  | 6, _ => (have e : kindP (6 : Int) = _ := rfl; simp only [Int.cast_ofNat_Int] at hk; rw [e] at hk; cases hk; simp [tellsK] at h; simp [findK, kindsL, tellsK, h])
  | 7, _ => (have e : kindP (7 : Int) = _ := rfl; simp only [Int.cast_ofNat_Int] at hk; rw [e] at hk; cases hk; simp [tellsK] at h; simp [findK, kindsL, tellsK, h])
  | 8, _ => (have e : kindP (8 : Int) = _ := rfl; simp only [Int.cast_ofNat_Int] at hk; rw [e] at hk; cases hk; simp [tellsK] at h; simp [findK, kindsL, tellsK, h])
  | 9, _ => (have e : kindP (9 : Int) = _ := rfl; simp only [Int.cast_ofNat_Int] at hk; rw [e] at hk; cases hk; simp [tellsK] at h; simp [findK, kindsL, tellsK, h])
  | 10, _ => (have e : kindP (10 : Int) = _ := rfl; simp only [Int.cast_ofNat_Int] at hk; rw [e] at hk; cases hk; simp [tellsK] at h; simp [findK, kindsL, tellsK, h])
  | 11, _ => (have e : kindP (11 : Int) = _ := rfl; simp only [Int.cast_ofNat_Int] at hk; rw [e] at hk; cases hk; simp [tellsK] at h; simp [findK, kindsL, tellsK, h])
  | 12, _ => (have e : kindP (12 : Int) = _ := rfl; simp only [Int.cast_ofNat_Int] at hk; rw [e] at hk; cases hk; simp [tellsK] at h; simp [findK, kindsL, tellsK, h])
  | 13, _ => (have e : kindP (13 : Int) = _ := rfl; simp only [Int.cast_ofNat_Int] at hk; rw [e] at hk; cases hk; simp [tellsK] at h; simp [findK, kindsL, tellsK, h])
  | 14, _ => (have e : kindP (14 : Int) = _ := rfl; simp only [Int.cast_ofNat_Int] at hk; rw [e] at hk; cases hk; simp [tellsK] at h; simp [findK, kindsL, tellsK, h])
  | 15, _ => (have e : kindP (15 : Int) = _ := rfl; simp only [Int.cast_ofNat_Int] at hk; rw [e] at hk; cases hk; simp [tellsK] at h; simp [findK, kindsL, tellsK, h])
  | 16, _ => (have e : kindP (16 : Int) = _ := rfl; simp only [Int.cast_ofNat_Int] at hk; rw [e] at hk; cases hk; simp [tellsK] at h; simp [findK, kindsL, tellsK, h])
  | 17, _ => (have e : kindP (17 : Int) = _ := rfl; simp only [Int.cast_ofNat_Int] at hk; rw [e] at hk; cases hk; simp [tellsK] at h; simp [findK, kindsL, tellsK, h])
  | 18, _ => (have e : kindP (18 : Int) = _ := rfl; simp only [Int.cast_ofNat_Int] at hk; rw [e] at hk; cases hk; simp [tellsK] at h; simp [findK, kindsL, tellsK, h])
  | 19, _ => (have e : kindP (19 : Int) = _ := rfl; simp only [Int.cast_ofNat_Int] at hk; rw [e] at hk; cases hk; simp [tellsK] at h; simp [findK, kindsL, tellsK, h])
  | 20, _ => (have e : kindP (20 : Int) = _ := rfl; simp only [Int.cast_ofNat_Int] at hk; rw [e] at hk; cases hk; simp [tellsK] at h; simp [findK, kindsL, tellsK, h])
  | 21, _ => (have e : kindP (21 : Int) = _ := rfl; simp only [Int.cast_ofNat_Int] at hk; rw [e] at hk; cases hk; simp [tellsK] at h; simp [findK, kindsL, tellsK, h])
  | 22, _ => (have e : kindP (22 : Int) = _ := rfl; simp only [Int.cast_ofNat_Int] at hk; rw [e] at hk; cases hk; simp [tellsK] at h; simp [findK, kindsL, tellsK, h])
  | 23, _ => (have e : kindP (23 : Int) = _ := rfl; simp only [Int.cast_ofNat_Int] at hk; rw [e] at hk; cases hk; simp [tellsK] at h; simp [findK, kindsL, tellsK, h])
  | 24, _ => (have e : kindP (24 : Int) = _ := rfl; simp only [Int.cast_ofNat_Int] at hk; rw [e] at hk; cases hk; simp [tellsK] at h; simp [findK, kindsL, tellsK, h])
  | 25, _ => (have e : kindP (25 : Int) = _ := rfl; simp only [Int.cast_ofNat_Int] at hk; rw [e] at hk; cases hk; simp [tellsK] at h; simp [findK, kindsL, tellsK, h])
  | 26, _ => (have e : kindP (26 : Int) = _ := rfl; simp only [Int.cast_ofNat_Int] at hk; rw [e] at hk; cases hk; simp [tellsK] at h; simp [findK, kindsL, tellsK, h])
  | 27, _ => (have e : kindP (27 : Int) = _ := rfl; simp only [Int.cast_ofNat_Int] at hk; rw [e] at hk; cases hk; simp [tellsK] at h; simp [findK, kindsL, tellsK, h])
  | 28, _ => (have e : kindP (28 : Int) = _ := rfl; simp only [Int.cast_ofNat_Int] at hk; rw [e] at hk; cases hk; simp [tellsK] at h; simp [findK, kindsL, tellsK, h])
  | 29, _ => (have e : kindP (29 : Int) = _ := rfl; simp only [Int.cast_ofNat_Int] at hk; rw [e] at hk; cases hk; simp [tellsK] at h; simp [findK, kindsL, tellsK, h])
  | 30, _ => (have e : kindP (30 : Int) = _ := rfl; simp only [Int.cast_ofNat_Int] at hk; rw [e] at hk; cases hk; simp [tellsK] at h; simp [findK, kindsL, tellsK, h])
  | 31, _ => (have e : kindP (31 : Int) = _ := rfl; simp only [Int.cast_ofNat_Int] at hk; rw [e] at hk; cases hk; simp [tellsK] at h; simp [findK, kindsL, tellsK, h])
  | 32, _ => (have e : kindP (32 : Int) = _ := rfl; simp only [Int.cast_ofNat_Int] at hk; rw [e] at hk; cases hk; simp [tellsK] at h; simp [findK, kindsL, tellsK, h])
  | 33, _ => (have e : kindP (33 : Int) = _ := rfl; simp only [Int.cast_ofNat_Int] at hk; rw [e] at hk; cases hk; simp [tellsK] at h; simp [findK, kindsL, tellsK, h])
  | 34, _ => (have e : kindP (34 : Int) = _ := rfl; simp only [Int.cast_ofNat_Int] at hk; rw [e] at hk; cases hk; simp [tellsK] at h; simp [findK, kindsL, tellsK, h])
  | 35, _ => (have e : kindP (35 : Int) = _ := rfl; simp only [Int.cast_ofNat_Int] at hk; rw [e] at hk; cases hk; simp [tellsK] at h; simp [findK, kindsL, tellsK, h])
  | 36, _ => (have e : kindP (36 : Int) = _ := rfl; simp only [Int.cast_ofNat_Int] at hk; rw [e] at hk; cases hk; simp [tellsK] at h; simp [findK, kindsL, tellsK, h])
  | 37, _ => (have e : kindP (37 : Int) = _ := rfl; simp only [Int.cast_ofNat_Int] at hk; rw [e] at hk; cases hk; simp [tellsK] at h; simp [findK, kindsL, tellsK, h])
  | 38, _ => (have e : kindP (38 : Int) = _ := rfl; simp only [Int.cast_ofNat_Int] at hk; rw [e] at hk; cases hk; simp [tellsK] at h; simp [findK, kindsL, tellsK, h])
  | 39, _ => (have e : kindP (39 : Int) = _ := rfl; simp only [Int.cast_ofNat_Int] at hk; rw [e] at hk; cases hk; simp [tellsK] at h; simp [findK, kindsL, tellsK, h])
  | 40, _ => (have e : kindP (40 : Int) = _ := rfl; simp only [Int.cast_ofNat_Int] at hk; rw [e] at hk; cases hk; simp [tellsK] at h; simp [findK, kindsL, tellsK, h])
  | 41, _ => (have e : kindP (41 : Int) = _ := rfl; simp only [Int.cast_ofNat_Int] at hk; rw [e] at hk; cases hk; simp [tellsK] at h; simp [findK, kindsL, tellsK, h])
  | 42, _ => (have e : kindP (42 : Int) = _ := rfl; simp only [Int.cast_ofNat_Int] at hk; rw [e] at hk; cases hk; simp [tellsK] at h; simp [findK, kindsL, tellsK, h])
  | 43, _ => (have e : kindP (43 : Int) = _ := rfl; simp only [Int.cast_ofNat_Int] at hk; rw [e] at hk; cases hk; simp [tellsK] at h; simp [findK, kindsL, tellsK, h])
  | 44, _ => (have e : kindP (44 : Int) = _ := rfl; simp only [Int.cast_ofNat_Int] at hk; rw [e] at hk; cases hk; simp [tellsK] at h; simp [findK, kindsL, tellsK, h])
  | 45, _ => (have e : kindP (45 : Int) = _ := rfl; simp only [Int.cast_ofNat_Int] at hk; rw [e] at hk; cases hk; simp [tellsK] at h; simp [findK, kindsL, tellsK, h])
  | 46, _ => (have e : kindP (46 : Int) = _ := rfl; simp only [Int.cast_ofNat_Int] at hk; rw [e] at hk; cases hk; simp [tellsK] at h; simp [findK, kindsL, tellsK, h])
  | 47, _ => (have e : kindP (47 : Int) = _ := rfl; simp only [Int.cast_ofNat_Int] at hk; rw [e] at hk; cases hk; simp [tellsK] at h; simp [findK, kindsL, tellsK, h])
  | 48, _ => (have e : kindP (48 : Int) = _ := rfl; simp only [Int.cast_ofNat_Int] at hk; rw [e] at hk; cases hk; simp [tellsK] at h; simp [findK, kindsL, tellsK, h])
theorem dec_back (op : Int) (k : Kind) (hk : kindP op = some k) (w : Int) (h : tellsB k w = true) : decP w = some (readP op k.form w) := by
  have hop : 1 ≤ op := by
    rcases Int.lt_or_le op 1 with h1 | h1
    · exfalso
      unfold kindP at hk
      repeat rw [if_neg (by omega)] at hk
      cases hk
    · exact h1
  have hl : cutI w 0 6 = k.low := by
    unfold tellsB at h
    split at h
    · assumption
    · cases h
  rw [tellsB_eq] at h
  unfold decP
  rw [findP_eq w 48 1 (by omega), kinds_eq]
  rw [hl] at h
  rw [hl, form_back op k hk _ _ _ h]
  simp only
  rw [if_neg (by omega)]

theorem fld {w : Int} (x K b m h : Int) (hx0 : 0 ≤ x) (hx1 : x < K) (hb0 : 0 ≤ b) (hb1 : b < m) (hw : w = x + K * (b + m * h)) : w / K % m = b := by
  have hK : K ≠ 0 := by omega
  rw [hw, Int.add_mul_ediv_left _ _ hK, Int.ediv_eq_zero_of_lt hx0 hx1, Int.zero_add, Int.add_mul_emod_self_left, Int.emod_eq_of_lt hb0 hb1]
theorem cutf {w : Int} (f t : Nat) (x K b m h : Int) (hK : (2 : Int) ^ f = K) (hm : (2 : Int) ^ (t + 1 - f) = m) (hx0 : 0 ≤ x) (hx1 : x < K) (hb0 : 0 ≤ b) (hb1 : b < m) (hw : w = x + K * (b + m * h)) : cutI w f t = b := by
  rw [cut_eq w f t K m hK hm, fld x K b m h hx0 hx1 hb0 hb1 hw]

theorem enc0 (low rd imm : Int) (l0 : 0 ≤ low) (l1 : low < 128) (r0 : 0 ≤ rd) (r1 : rd ≤ 31) (i0 : -2147483648 ≤ imm) (i1 : imm ≤ 2147483647) (h : imm % 4096 = 0) (n w : Int) (hn : n = imm % 4294967296)
    (hw : w = low + rd * 128 + (n - n % 4096)) : 0 ≤ w ∧ w ≤ 4294967295 ∧ cutI w 0 6 = low ∧ ∀ op, readP op 0 w = ⟨op, rd, 0, 0, imm⟩ := by
  have e : n % 4096 = 0 := by omega
  obtain ⟨q, hq⟩ : ∃ q, n = 4096 * q := ⟨n / 4096, by omega⟩
  have c11 : cutI w 0 11 = low + rd * 128 := cutf 0 11 0 1 (low + rd * 128) 4096 q (by decide) (by decide) (by omega) (by omega) (by omega) (by omega) (by omega)
  refine ⟨by omega, by omega, cutf 0 6 0 1 low 128 (rd + 32 * q) (by decide) (by decide) (by omega) (by omega) (by omega) (by omega) (by omega), fun op => ?_⟩
  rw [readP0, cutf 7 11 low 128 rd 32 q (by decide) (by decide) l0 l1 r0 (by omega) (by omega), c11]
  unfold sgnI
  rw [show (2 : Int) ^ (32 - 1) = 2147483648 by decide, show (2 : Int) ^ 32 = 4294967296 by decide]
  congr 1
  split <;> omega
theorem enc1 (low rd imm : Int) (l0 : 0 ≤ low) (l1 : low < 128) (r0 : 0 ≤ rd) (r1 : rd ≤ 31) (i0 : -1048576 ≤ imm) (i1 : imm ≤ 1048574) (h : imm % 2 = 0) (n w : Int) (hn : n = imm % 4294967296)
    (hw : w = low + rd * 128 + cutI n 12 19 * 4096 + cutI n 11 11 * 1048576 + cutI n 1 10 * 2097152 + cutI n 20 20 * 2147483648) : 0 ≤ w ∧ w ≤ 4294967295 ∧ cutI w 0 6 = low ∧ ∀ op, readP op 1 w = ⟨op, rd, 0, 0, imm⟩ := by
  obtain ⟨q1, hq1⟩ : ∃ q, n = 0 + 2 * q := ⟨n / 2, by omega⟩
  obtain ⟨c, q2, b0, b1, hq2⟩ : ∃ c q : Int, 0 ≤ c ∧ c < 1024 ∧ q1 = c + 1024 * q := ⟨q1 % 1024, q1 / 1024, by omega, by omega, by omega⟩
  obtain ⟨b, q3, b2, b3, hq3⟩ : ∃ c q : Int, 0 ≤ c ∧ c < 2 ∧ q2 = c + 2 * q := ⟨q2 % 2, q2 / 2, by omega, by omega, by omega⟩
  obtain ⟨a, q4, b4, b5, hq4⟩ : ∃ c q : Int, 0 ≤ c ∧ c < 256 ∧ q3 = c + 256 * q := ⟨q3 % 256, q3 / 256, by omega, by omega, by omega⟩
  obtain ⟨d, q5, b6, b7, hq5⟩ : ∃ c q : Int, 0 ≤ c ∧ c < 2 ∧ q4 = c + 2 * q := ⟨q4 % 2, q4 / 2, by omega, by omega, by omega⟩
  subst hq5 hq4 hq3 hq2 hq1
  rw [cutf 12 19 (0 + 2 * (c + 1024 * b)) 4096 a 256 (d + 2 * q5) (by decide) (by decide) (by omega) (by omega) b4 b5 (by omega), cutf 11 11 (0 + 2 * c) 2048 b 2 (a + 256 * (d + 2 * q5)) (by decide) (by decide) (by omega) (by omega) b2 b3 (by omega),
    cutf 1 10 0 2 c 1024 (b + 2 * (a + 256 * (d + 2 * q5))) (by decide) (by decide) (by omega) (by omega) b0 b1 rfl, cutf 20 20 (0 + 2 * (c + 1024 * (b + 2 * a))) 1048576 d 2 q5 (by decide) (by decide) (by omega) (by omega) b6 b7 (by omega)] at hw
  have hi : imm = (if d * 1048576 + a * 4096 + b * 2048 + c * 2 < 1048576 then d * 1048576 + a * 4096 + b * 2048 + c * 2 else d * 1048576 + a * 4096 + b * 2048 + c * 2 - 2097152) := by split <;> omega
  clear hn h i0 i1 q5
  refine ⟨by omega, by omega, cutf 0 6 0 1 low 128 (rd + 32 * (a + 256 * (b + 2 * (c + 1024 * d)))) (by decide) (by decide) (by omega) (by omega) l0 l1 (by omega), fun op => ?_⟩
  rw [readP1, cutf 7 11 low 128 rd 32 (a + 256 * (b + 2 * (c + 1024 * d))) (by decide) (by decide) l0 l1 r0 (by omega) (by omega),
    cutf 31 31 (low + 128 * (rd + 32 * (a + 256 * (b + 2 * c)))) 2147483648 d 2 0 (by decide) (by decide) (by omega) (by omega) b6 b7 (by omega),
    cutf 12 19 (low + 128 * rd) 4096 a 256 (b + 2 * (c + 1024 * d)) (by decide) (by decide) (by omega) (by omega) b4 b5 (by omega),
    cutf 20 20 (low + 128 * (rd + 32 * a)) 1048576 b 2 (c + 1024 * d) (by decide) (by decide) (by omega) (by omega) b2 b3 (by omega),
    cutf 21 30 (low + 128 * (rd + 32 * (a + 256 * b))) 2097152 c 1024 d (by decide) (by decide) (by omega) (by omega) b0 b1 (by omega), hi]
  unfold sgnI
  rw [show (2 : Int) ^ (21 - 1) = 1048576 by decide, show (2 : Int) ^ 21 = 2097152 by decide]
theorem enc2 (low mid rd rs1 imm : Int) (l0 : 0 ≤ low) (l1 : low < 128) (m0 : 0 ≤ mid) (m1 : mid < 8) (r0 : 0 ≤ rd) (r1 : rd ≤ 31) (s0 : 0 ≤ rs1) (s1 : rs1 ≤ 31) (i0 : -2048 ≤ imm) (i1 : imm ≤ 2047) (n w : Int) (hn : n = imm % 4294967296)
    (hw : w = low + rd * 128 + mid * 4096 + rs1 * 32768 + cutI n 0 11 * 1048576) : 0 ≤ w ∧ w ≤ 4294967295 ∧ cutI w 0 6 = low ∧ cutI w 12 14 = mid ∧ ∀ op, readP op 2 w = ⟨op, rd, rs1, 0, imm⟩ := by
  obtain ⟨a, q, b0, b1, hq⟩ : ∃ c q : Int, 0 ≤ c ∧ c < 4096 ∧ n = c + 4096 * q := ⟨n % 4096, n / 4096, by omega, by omega, by omega⟩
  subst hq
  rw [cutf 0 11 0 1 a 4096 q (by decide) (by decide) (by omega) (by omega) b0 b1 (by omega)] at hw
  have hi : imm = (if a < 2048 then a else a - 4096) := by split <;> omega
  clear hn i0 i1 q
  refine ⟨by omega, by omega, cutf 0 6 0 1 low 128 (rd + 32 * (mid + 8 * (rs1 + 32 * a))) (by decide) (by decide) (by omega) (by omega) l0 l1 (by omega), cutf 12 14 (low + 128 * rd) 4096 mid 8 (rs1 + 32 * a) (by decide) (by decide) (by omega) (by omega) m0 m1 (by omega), fun op => ?_⟩
  rw [readP2, cutf 7 11 low 128 rd 32 (mid + 8 * (rs1 + 32 * a)) (by decide) (by decide) l0 l1 r0 (by omega) (by omega),
    cutf 15 19 (low + 128 * (rd + 32 * mid)) 32768 rs1 32 a (by decide) (by decide) (by omega) (by omega) s0 (by omega) (by omega),
    cutf 20 31 (low + 128 * (rd + 32 * (mid + 8 * rs1))) 1048576 a 4096 0 (by decide) (by decide) (by omega) (by omega) b0 b1 (by omega), hi]
  unfold sgnI
  rw [show (2 : Int) ^ (12 - 1) = 2048 by decide, show (2 : Int) ^ 12 = 4096 by decide]
theorem enc3 (low mid up rd rs1 imm : Int) (l0 : 0 ≤ low) (l1 : low < 128) (m0 : 0 ≤ mid) (m1 : mid < 8) (u0 : 0 ≤ up) (u1 : up < 128) (r0 : 0 ≤ rd) (r1 : rd ≤ 31) (s0 : 0 ≤ rs1) (s1 : rs1 ≤ 31) (i0 : 0 ≤ imm) (i1 : imm ≤ 31) (n w : Int) (hn : n = imm % 4294967296)
    (hw : w = low + rd * 128 + mid * 4096 + rs1 * 32768 + cutI n 0 4 * 1048576 + up * 33554432) : 0 ≤ w ∧ w ≤ 4294967295 ∧ cutI w 0 6 = low ∧ cutI w 12 14 = mid ∧ cutI w 25 31 = up ∧ ∀ op, readP op 3 w = ⟨op, rd, rs1, 0, imm⟩ := by
  have hn' : n = imm := by omega
  subst hn'
  rw [cutf 0 4 0 1 n 32 0 (by decide) (by decide) (by omega) (by omega) i0 (by omega) (by omega)] at hw
  clear hn
  refine ⟨by omega, by omega, cutf 0 6 0 1 low 128 (rd + 32 * (mid + 8 * (rs1 + 32 * (n + 32 * up)))) (by decide) (by decide) (by omega) (by omega) l0 l1 (by omega), cutf 12 14 (low + 128 * rd) 4096 mid 8 (rs1 + 32 * (n + 32 * up)) (by decide) (by decide) (by omega) (by omega) m0 m1 (by omega),
    cutf 25 31 (low + 128 * (rd + 32 * (mid + 8 * (rs1 + 32 * n)))) 33554432 up 128 0 (by decide) (by decide) (by omega) (by omega) u0 u1 (by omega), fun op => ?_⟩
  rw [readP3, cutf 7 11 low 128 rd 32 (mid + 8 * (rs1 + 32 * (n + 32 * up))) (by decide) (by decide) l0 l1 r0 (by omega) (by omega),
    cutf 15 19 (low + 128 * (rd + 32 * mid)) 32768 rs1 32 (n + 32 * up) (by decide) (by decide) (by omega) (by omega) s0 (by omega) (by omega),
    cutf 20 24 (low + 128 * (rd + 32 * (mid + 8 * rs1))) 1048576 n 32 up (by decide) (by decide) (by omega) (by omega) i0 (by omega) (by omega)]
theorem enc4 (low mid rs1 rs2 imm : Int) (l0 : 0 ≤ low) (l1 : low < 128) (m0 : 0 ≤ mid) (m1 : mid < 8) (s0 : 0 ≤ rs1) (s1 : rs1 ≤ 31) (t0 : 0 ≤ rs2) (t1 : rs2 ≤ 31) (i0 : -4096 ≤ imm) (i1 : imm ≤ 4094) (h : imm % 2 = 0) (n w : Int) (hn : n = imm % 4294967296)
    (hw : w = low + cutI n 11 11 * 128 + cutI n 1 4 * 256 + mid * 4096 + rs1 * 32768 + rs2 * 1048576 + cutI n 5 10 * 33554432 + cutI n 12 12 * 2147483648) : 0 ≤ w ∧ w ≤ 4294967295 ∧ cutI w 0 6 = low ∧ cutI w 12 14 = mid ∧ ∀ op, readP op 4 w = ⟨op, 0, rs1, rs2, imm⟩ := by
  obtain ⟨q1, hq1⟩ : ∃ q, n = 0 + 2 * q := ⟨n / 2, by omega⟩
  obtain ⟨b, q2, b0, b1, hq2⟩ : ∃ c q : Int, 0 ≤ c ∧ c < 16 ∧ q1 = c + 16 * q := ⟨q1 % 16, q1 / 16, by omega, by omega, by omega⟩
  obtain ⟨c, q3, b2, b3, hq3⟩ : ∃ c q : Int, 0 ≤ c ∧ c < 64 ∧ q2 = c + 64 * q := ⟨q2 % 64, q2 / 64, by omega, by omega, by omega⟩
  obtain ⟨a, q4, b4, b5, hq4⟩ : ∃ c q : Int, 0 ≤ c ∧ c < 2 ∧ q3 = c + 2 * q := ⟨q3 % 2, q3 / 2, by omega, by omega, by omega⟩
  obtain ⟨d, q5, b6, b7, hq5⟩ : ∃ c q : Int, 0 ≤ c ∧ c < 2 ∧ q4 = c + 2 * q := ⟨q4 % 2, q4 / 2, by omega, by omega, by omega⟩
  subst hq5 hq4 hq3 hq2 hq1
  rw [cutf 11 11 (0 + 2 * (b + 16 * c)) 2048 a 2 (d + 2 * q5) (by decide) (by decide) (by omega) (by omega) b4 b5 (by omega), cutf 1 4 0 2 b 16 (c + 64 * (a + 2 * (d + 2 * q5))) (by decide) (by decide) (by omega) (by omega) b0 b1 rfl,
    cutf 5 10 (0 + 2 * b) 32 c 64 (a + 2 * (d + 2 * q5)) (by decide) (by decide) (by omega) (by omega) b2 b3 (by omega), cutf 12 12 (0 + 2 * (b + 16 * (c + 64 * a))) 4096 d 2 q5 (by decide) (by decide) (by omega) (by omega) b6 b7 (by omega)] at hw
  have hi : imm = (if d * 4096 + a * 2048 + c * 32 + b * 2 < 4096 then d * 4096 + a * 2048 + c * 32 + b * 2 else d * 4096 + a * 2048 + c * 32 + b * 2 - 8192) := by split <;> omega
  clear hn h i0 i1 q5
  refine ⟨by omega, by omega, cutf 0 6 0 1 low 128 (a + 2 * (b + 16 * (mid + 8 * (rs1 + 32 * (rs2 + 32 * (c + 64 * d)))))) (by decide) (by decide) (by omega) (by omega) l0 l1 (by omega),
    cutf 12 14 (low + 128 * (a + 2 * b)) 4096 mid 8 (rs1 + 32 * (rs2 + 32 * (c + 64 * d))) (by decide) (by decide) (by omega) (by omega) m0 m1 (by omega), fun op => ?_⟩
  rw [readP4, cutf 15 19 (low + 128 * (a + 2 * (b + 16 * mid))) 32768 rs1 32 (rs2 + 32 * (c + 64 * d)) (by decide) (by decide) (by omega) (by omega) s0 (by omega) (by omega),
    cutf 20 24 (low + 128 * (a + 2 * (b + 16 * (mid + 8 * rs1)))) 1048576 rs2 32 (c + 64 * d) (by decide) (by decide) (by omega) (by omega) t0 (by omega) (by omega),
    cutf 31 31 (low + 128 * (a + 2 * (b + 16 * (mid + 8 * (rs1 + 32 * (rs2 + 32 * c)))))) 2147483648 d 2 0 (by decide) (by decide) (by omega) (by omega) b6 b7 (by omega),
    cutf 7 7 low 128 a 2 (b + 16 * (mid + 8 * (rs1 + 32 * (rs2 + 32 * (c + 64 * d))))) (by decide) (by decide) l0 l1 b4 b5 (by omega),
    cutf 25 30 (low + 128 * (a + 2 * (b + 16 * (mid + 8 * (rs1 + 32 * rs2))))) 33554432 c 64 d (by decide) (by decide) (by omega) (by omega) b2 b3 (by omega),
    cutf 8 11 (low + 128 * a) 256 b 16 (mid + 8 * (rs1 + 32 * (rs2 + 32 * (c + 64 * d)))) (by decide) (by decide) (by omega) (by omega) b0 b1 (by omega), hi]
  unfold sgnI
  rw [show (2 : Int) ^ (13 - 1) = 4096 by decide, show (2 : Int) ^ 13 = 8192 by decide]
theorem enc5 (low mid rs1 rs2 imm : Int) (l0 : 0 ≤ low) (l1 : low < 128) (m0 : 0 ≤ mid) (m1 : mid < 8) (s0 : 0 ≤ rs1) (s1 : rs1 ≤ 31) (t0 : 0 ≤ rs2) (t1 : rs2 ≤ 31) (i0 : -2048 ≤ imm) (i1 : imm ≤ 2047) (n w : Int) (hn : n = imm % 4294967296)
    (hw : w = low + cutI n 0 4 * 128 + mid * 4096 + rs1 * 32768 + rs2 * 1048576 + cutI n 5 11 * 33554432) : 0 ≤ w ∧ w ≤ 4294967295 ∧ cutI w 0 6 = low ∧ cutI w 12 14 = mid ∧ ∀ op, readP op 5 w = ⟨op, 0, rs1, rs2, imm⟩ := by
  obtain ⟨a, q1, b0, b1, hq1⟩ : ∃ c q : Int, 0 ≤ c ∧ c < 32 ∧ n = c + 32 * q := ⟨n % 32, n / 32, by omega, by omega, by omega⟩
  obtain ⟨b, q2, b2, b3, hq2⟩ : ∃ c q : Int, 0 ≤ c ∧ c < 128 ∧ q1 = c + 128 * q := ⟨q1 % 128, q1 / 128, by omega, by omega, by omega⟩
  subst hq2 hq1
  rw [cutf 0 4 0 1 a 32 (b + 128 * q2) (by decide) (by decide) (by omega) (by omega) b0 b1 (by omega), cutf 5 11 a 32 b 128 q2 (by decide) (by decide) b0 b1 b2 b3 rfl] at hw
  have hi : imm = (if b * 32 + a < 2048 then b * 32 + a else b * 32 + a - 4096) := by split <;> omega
  clear hn i0 i1 q2
  refine ⟨by omega, by omega, cutf 0 6 0 1 low 128 (a + 32 * (mid + 8 * (rs1 + 32 * (rs2 + 32 * b)))) (by decide) (by decide) (by omega) (by omega) l0 l1 (by omega),
    cutf 12 14 (low + 128 * a) 4096 mid 8 (rs1 + 32 * (rs2 + 32 * b)) (by decide) (by decide) (by omega) (by omega) m0 m1 (by omega), fun op => ?_⟩
  rw [readP5, cutf 7 11 low 128 a 32 (mid + 8 * (rs1 + 32 * (rs2 + 32 * b))) (by decide) (by decide) l0 l1 b0 b1 (by omega),
    cutf 15 19 (low + 128 * (a + 32 * mid)) 32768 rs1 32 (rs2 + 32 * b) (by decide) (by decide) (by omega) (by omega) s0 (by omega) (by omega),
    cutf 20 24 (low + 128 * (a + 32 * (mid + 8 * rs1))) 1048576 rs2 32 b (by decide) (by decide) (by omega) (by omega) t0 (by omega) (by omega),
    cutf 25 31 (low + 128 * (a + 32 * (mid + 8 * (rs1 + 32 * rs2)))) 33554432 b 128 0 (by decide) (by decide) (by omega) (by omega) b2 b3 (by omega), hi]
  unfold sgnI
  rw [show (2 : Int) ^ (12 - 1) = 2048 by decide, show (2 : Int) ^ 12 = 4096 by decide]
theorem enc6 (low mid up rd rs1 rs2 : Int) (l0 : 0 ≤ low) (l1 : low < 128) (m0 : 0 ≤ mid) (m1 : mid < 8) (u0 : 0 ≤ up) (u1 : up < 128) (r0 : 0 ≤ rd) (r1 : rd ≤ 31) (s0 : 0 ≤ rs1) (s1 : rs1 ≤ 31) (t0 : 0 ≤ rs2) (t1 : rs2 ≤ 31) (w : Int)
    (hw : w = low + rd * 128 + mid * 4096 + rs1 * 32768 + rs2 * 1048576 + up * 33554432) : 0 ≤ w ∧ w ≤ 4294967295 ∧ cutI w 0 6 = low ∧ cutI w 12 14 = mid ∧ cutI w 25 31 = up ∧ ∀ op, readP op 6 w = ⟨op, rd, rs1, rs2, 0⟩ := by
  refine ⟨by omega, by omega, cutf 0 6 0 1 low 128 (rd + 32 * (mid + 8 * (rs1 + 32 * (rs2 + 32 * up)))) (by decide) (by decide) (by omega) (by omega) l0 l1 (by omega), cutf 12 14 (low + 128 * rd) 4096 mid 8 (rs1 + 32 * (rs2 + 32 * up)) (by decide) (by decide) (by omega) (by omega) m0 m1 (by omega),
    cutf 25 31 (low + 128 * (rd + 32 * (mid + 8 * (rs1 + 32 * rs2)))) 33554432 up 128 0 (by decide) (by decide) (by omega) (by omega) u0 u1 (by omega), fun op => ?_⟩
  rw [readP6, cutf 7 11 low 128 rd 32 (mid + 8 * (rs1 + 32 * (rs2 + 32 * up))) (by decide) (by decide) l0 l1 r0 (by omega) (by omega),
    cutf 15 19 (low + 128 * (rd + 32 * mid)) 32768 rs1 32 (rs2 + 32 * up) (by decide) (by decide) (by omega) (by omega) s0 (by omega) (by omega),
    cutf 20 24 (low + 128 * (rd + 32 * (mid + 8 * rs1))) 1048576 rs2 32 up (by decide) (by decide) (by omega) (by omega) t0 (by omega) (by omega)]

def kindOkB (op : Int) : Bool :=
  match kindP op with
  | some k => decide (0 ≤ k.low ∧ k.low < 128 ∧ 0 ≤ k.middle ∧ k.middle < 8 ∧ 0 ≤ k.upper ∧ k.upper < 128 ∧ k.form = formOf op ∧ (k.form = 7 → k.low = 115 ∧ k.upper ≤ 1))
  | none => false
theorem kindOk_all : ∀ n : Nat, n < 48 → kindOkB ((n : Int) + 1) = true := by decide +kernel
theorem kind_ok (op : Int) (h0 : 1 ≤ op) (h1 : op ≤ 48) : ∃ k, kindP op = some k ∧ 0 ≤ k.low ∧ k.low < 128 ∧ 0 ≤ k.middle ∧ k.middle < 8 ∧ 0 ≤ k.upper ∧ k.upper < 128 ∧ k.form = formOf op ∧ (k.form = 7 → k.low = 115 ∧ k.upper ≤ 1) := by
  have h := kindOk_all (op - 1).toNat (by omega)
  rw [show (((op - 1).toNat : Int) + 1) = op by omega] at h
  unfold kindOkB at h
  cases hk : kindP op with
  | none => rw [hk] at h; cases h
  | some k => rw [hk] at h; exact ⟨k, rfl, of_decide_eq_true h⟩
theorem is_op {i : Ins} (h : IsP i = true) : (1 ≤ i.op ∧ i.op ≤ 48) ∧ (0 ≤ i.rd ∧ i.rd ≤ 31) ∧ (0 ≤ i.rs1 ∧ i.rs1 ≤ 31) ∧ 0 ≤ i.rs2 ∧ i.rs2 ≤ 31 := by
  unfold IsP at h
  split at h
  · omega
  · cases h
theorem enc_back (i : Ins) (h : IsP i = true) (i0 : -2147483648 ≤ i.imm) (i1 : i.imm ≤ 2147483647) : 0 ≤ encW i ∧ encW i ≤ 4294967295 ∧ decP (encW i) = some i := by
  obtain ⟨⟨o1, o2⟩, ⟨r0, r1⟩, ⟨s0, s1⟩, t0, t1⟩ := is_op h
  obtain ⟨op, rd, rs1, rs2, imm⟩ := i
  dsimp only at o1 o2 r0 r1 s0 s1 t0 t1 i0 i1
  obtain ⟨k, hk, l0, l1, m0, m1, u0, u1, hf, h7⟩ := kind_ok op o1 o2
  have hw : encW ⟨op, rd, rs1, rs2, imm⟩ = encW ⟨op, rd, rs1, rs2, imm⟩ := rfl
  generalize hW : encW ⟨op, rd, rs1, rs2, imm⟩ = w at hw ⊢
  clear hw
  obtain ⟨n, hn⟩ : ∃ n, n = imm % 4294967296 := ⟨_, rfl⟩
  unfold encW at hW
  dsimp only at hW
  rw [hk] at hW
  dsimp only at hW
  rw [← hn] at hW
  have key : ∀ (P : Prop), (0 ≤ w ∧ w ≤ 4294967295 ∧ tellsB k w = true ∧ readP op k.form w = ⟨op, rd, rs1, rs2, imm⟩) → 0 ≤ w ∧ w ≤ 4294967295 ∧ decP w = some ⟨op, rd, rs1, rs2, imm⟩ := fun _ ⟨a, b, c, d⟩ => ⟨a, b, by rw [dec_back op k hk w c, d]⟩
  refine key True ?_
  clear key
  unfold tellsB
  unfold IsP at h
  dsimp only at h
  rw [if_pos (by omega)] at h
  unfold formOf at hf
  by_cases c : op ≤ 2
  · rw [if_pos c] at h hf
    rw [if_pos hf] at hW
    obtain ⟨rfl, rfl, hi⟩ := of_decide_eq_true h
    obtain ⟨a, b, c, d⟩ := enc0 k.low rd imm l0 l1 r0 r1 i0 i1 hi n w hn hW.symm
    rw [if_pos c, hf, if_pos (by omega)]
    exact ⟨a, b, rfl, d op⟩
  rw [if_neg c] at h hf
  by_cases c1 : op = 3
  · rw [if_pos c1] at h hf
    rw [if_neg (by omega), if_pos hf] at hW
    obtain ⟨rfl, rfl, ⟨hi0, hi1⟩, hi⟩ := of_decide_eq_true h
    obtain ⟨a, b, c, d⟩ := enc1 k.low rd imm l0 l1 r0 r1 hi0 hi1 hi n w hn hW.symm
    rw [if_pos c, hf, if_pos (by omega)]
    exact ⟨a, b, rfl, d op⟩
  rw [if_neg c1] at h hf
  by_cases c2 : op = 4 ∨ (11 ≤ op ∧ op ≤ 15) ∨ (19 ≤ op ∧ op ≤ 24) ∨ op = 46
  · rw [if_pos c2] at h hf
    rw [if_neg (by omega), if_neg (by omega), if_pos hf] at hW
    obtain ⟨rfl, hi0, hi1⟩ := of_decide_eq_true h
    obtain ⟨a, b, c, e, d⟩ := enc2 k.low k.middle rd rs1 imm l0 l1 m0 m1 r0 r1 s0 s1 hi0 hi1 n w hn hW.symm
    rw [if_pos c, hf, if_neg (by omega), if_neg (by omega), if_neg (by omega)]
    exact ⟨a, b, decide_eq_true e, d op⟩
  rw [if_neg c2] at h hf
  by_cases c3 : 5 ≤ op ∧ op ≤ 10
  · rw [if_pos c3] at h hf
    rw [if_neg (by omega), if_neg (by omega), if_neg (by omega), if_neg (by omega), if_pos hf] at hW
    obtain ⟨rfl, ⟨hi0, hi1⟩, hi⟩ := of_decide_eq_true h
    obtain ⟨a, b, c, e, d⟩ := enc4 k.low k.middle rs1 rs2 imm l0 l1 m0 m1 s0 s1 t0 t1 hi0 hi1 hi n w hn hW.symm
    rw [if_pos c, hf, if_neg (by omega), if_neg (by omega), if_neg (by omega)]
    exact ⟨a, b, decide_eq_true e, d op⟩
  rw [if_neg c3] at h hf
  by_cases c4 : 16 ≤ op ∧ op ≤ 18
  · rw [if_pos c4] at h hf
    rw [if_neg (by omega), if_neg (by omega), if_neg (by omega), if_neg (by omega), if_neg (by omega), if_pos hf] at hW
    obtain ⟨rfl, hi0, hi1⟩ := of_decide_eq_true h
    obtain ⟨a, b, c, e, d⟩ := enc5 k.low k.middle rs1 rs2 imm l0 l1 m0 m1 s0 s1 t0 t1 hi0 hi1 n w hn hW.symm
    rw [if_pos c, hf, if_neg (by omega), if_neg (by omega), if_neg (by omega)]
    exact ⟨a, b, decide_eq_true e, d op⟩
  rw [if_neg c4] at h hf
  by_cases c5 : 25 ≤ op ∧ op ≤ 27
  · rw [if_pos c5] at h hf
    rw [if_neg (by omega), if_neg (by omega), if_neg (by omega), if_pos hf] at hW
    obtain ⟨rfl, hi0, hi1⟩ := of_decide_eq_true h
    obtain ⟨a, b, c, e, g, d⟩ := enc3 k.low k.middle k.upper rd rs1 imm l0 l1 m0 m1 u0 u1 r0 r1 s0 s1 hi0 hi1 n w hn hW.symm
    rw [if_pos c, hf, if_neg (by omega), if_neg (by omega), if_pos (by omega)]
    exact ⟨a, b, decide_eq_true ⟨e, g⟩, d op⟩
  rw [if_neg c5] at h hf
  by_cases c6 : 28 ≤ op ∧ op ≤ 45
  · rw [if_pos c6] at h hf
    rw [if_neg (by omega), if_neg (by omega), if_neg (by omega), if_neg (by omega), if_neg (by omega), if_neg (by omega), if_pos hf] at hW
    obtain rfl := of_decide_eq_true h
    obtain ⟨a, b, c, e, g, d⟩ := enc6 k.low k.middle k.upper rd rs1 rs2 l0 l1 m0 m1 u0 u1 r0 r1 s0 s1 t0 t1 w hW.symm
    rw [if_pos c, hf, if_neg (by omega), if_neg (by omega), if_pos (by omega)]
    exact ⟨a, b, decide_eq_true ⟨e, g⟩, d op⟩
  rw [if_neg c6] at h hf
  rw [if_neg (by omega), if_neg (by omega), if_neg (by omega), if_neg (by omega), if_neg (by omega), if_neg (by omega), if_neg (by omega)] at hW
  obtain ⟨rfl, rfl, rfl, rfl⟩ := of_decide_eq_true h
  obtain ⟨e1, e2⟩ := h7 hf
  have hl : cutI w 0 6 = k.low := cutf 0 6 0 1 k.low 128 (8192 * k.upper) (by decide) (by decide) (by omega) (by omega) l0 l1 (by omega)
  rw [if_pos hl, hf, if_neg (by omega), if_pos rfl]
  exact ⟨by omega, by omega, decide_eq_true (by omega), rfl⟩
end Go.Proofs.Ytapgojgcmlnbgab
