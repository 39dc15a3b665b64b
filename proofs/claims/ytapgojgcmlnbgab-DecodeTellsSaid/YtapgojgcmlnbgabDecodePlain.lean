/- What package decode comes to, in plain Lean; and that it is what the document's answer comes to. -/
import Derived.WalkKit
namespace Go.Proofs.Ytapgojgcmlnbgab
open Go

/-- api.Ins. -/
structure Ins where
  op : Int
  rd : Int
  rs1 : Int
  rs2 : Int
  imm : Int
  deriving DecidableEq
instance : Inhabited Ins := ⟨⟨0, 0, 0, 0, 0⟩⟩

/-- A word's bits from f to t. -/
def cutI (w : Int) (f t : Nat) : Int := w / 2 ^ f % 2 ^ (t + 1 - f)
/-- A number of b bits, signed. -/
def sgnI (n : Int) (b : Nat) : Int := if n < 2 ^ (b - 1) then n else n - 2 ^ b

/-- How an instruction is told: form, low, middle, upper. -/
structure Kind where
  form : Int
  low : Int
  middle : Int
  upper : Int
  deriving DecidableEq

def kindP (op : Int) : Option Kind :=
  if op = 1 then some ⟨0, 55, 0, 0⟩
  else if op = 2 then some ⟨0, 23, 0, 0⟩
  else if op = 3 then some ⟨1, 111, 0, 0⟩
  else if op = 4 then some ⟨2, 103, 0, 0⟩
  else if op = 5 then some ⟨4, 99, 0, 0⟩
  else if op = 6 then some ⟨4, 99, 1, 0⟩
  else if op = 7 then some ⟨4, 99, 4, 0⟩
  else if op = 8 then some ⟨4, 99, 5, 0⟩
  else if op = 9 then some ⟨4, 99, 6, 0⟩
  else if op = 10 then some ⟨4, 99, 7, 0⟩
  else if op = 11 then some ⟨2, 3, 0, 0⟩
  else if op = 12 then some ⟨2, 3, 1, 0⟩
  else if op = 13 then some ⟨2, 3, 2, 0⟩
  else if op = 14 then some ⟨2, 3, 4, 0⟩
  else if op = 15 then some ⟨2, 3, 5, 0⟩
  else if op = 16 then some ⟨5, 35, 0, 0⟩
  else if op = 17 then some ⟨5, 35, 1, 0⟩
  else if op = 18 then some ⟨5, 35, 2, 0⟩
  else if op = 19 then some ⟨2, 19, 0, 0⟩
  else if op = 20 then some ⟨2, 19, 2, 0⟩
  else if op = 21 then some ⟨2, 19, 3, 0⟩
  else if op = 22 then some ⟨2, 19, 4, 0⟩
  else if op = 23 then some ⟨2, 19, 6, 0⟩
  else if op = 24 then some ⟨2, 19, 7, 0⟩
  else if op = 25 then some ⟨3, 19, 1, 0⟩
  else if op = 26 then some ⟨3, 19, 5, 0⟩
  else if op = 27 then some ⟨3, 19, 5, 32⟩
  else if op = 28 then some ⟨6, 51, 0, 0⟩
  else if op = 29 then some ⟨6, 51, 0, 32⟩
  else if op = 30 then some ⟨6, 51, 1, 0⟩
  else if op = 31 then some ⟨6, 51, 2, 0⟩
  else if op = 32 then some ⟨6, 51, 3, 0⟩
  else if op = 33 then some ⟨6, 51, 4, 0⟩
  else if op = 34 then some ⟨6, 51, 5, 0⟩
  else if op = 35 then some ⟨6, 51, 5, 32⟩
  else if op = 36 then some ⟨6, 51, 6, 0⟩
  else if op = 37 then some ⟨6, 51, 7, 0⟩
  else if op = 38 then some ⟨6, 51, 0, 1⟩
  else if op = 39 then some ⟨6, 51, 1, 1⟩
  else if op = 40 then some ⟨6, 51, 2, 1⟩
  else if op = 41 then some ⟨6, 51, 3, 1⟩
  else if op = 42 then some ⟨6, 51, 4, 1⟩
  else if op = 43 then some ⟨6, 51, 5, 1⟩
  else if op = 44 then some ⟨6, 51, 6, 1⟩
  else if op = 45 then some ⟨6, 51, 7, 1⟩
  else if op = 46 then some ⟨2, 15, 0, 0⟩
  else if op = 47 then some ⟨7, 115, 0, 0⟩
  else if op = 48 then some ⟨7, 115, 0, 1⟩
  else none

def tellsB (k : Kind) (w : Int) : Bool :=
  if cutI w 0 6 = k.low then
    if k.form = 0 ∨ k.form = 1 then true
    else if k.form = 7 then decide (w = k.low + k.upper * 1048576)
    else if k.form = 3 ∨ k.form = 6 then decide (cutI w 12 14 = k.middle ∧ cutI w 25 31 = k.upper)
    else decide (cutI w 12 14 = k.middle)
  else false

def readP (op form w : Int) : Ins :=
  let rd := cutI w 7 11
  let rs1 := cutI w 15 19
  let rs2 := cutI w 20 24
  if form = 0 then ⟨op, rd, 0, 0, sgnI (w - cutI w 0 11) 32⟩
  else if form = 1 then ⟨op, rd, 0, 0, sgnI (cutI w 31 31 * 1048576 + cutI w 12 19 * 4096 + cutI w 20 20 * 2048 + cutI w 21 30 * 2) 21⟩
  else if form = 2 then ⟨op, rd, rs1, 0, sgnI (cutI w 20 31) 12⟩
  else if form = 3 then ⟨op, rd, rs1, 0, cutI w 20 24⟩
  else if form = 4 then ⟨op, 0, rs1, rs2, sgnI (cutI w 31 31 * 4096 + cutI w 7 7 * 2048 + cutI w 25 30 * 32 + cutI w 8 11 * 2) 13⟩
  else if form = 5 then ⟨op, 0, rs1, rs2, sgnI (cutI w 25 31 * 32 + cutI w 7 11) 12⟩
  else if form = 7 then ⟨op, 0, 0, 0, 0⟩
  else ⟨op, rd, rs1, rs2, 0⟩

/-- From operation op on, n of them: the first that tells the word. -/
def findP (w : Int) : Nat → Int → Option Ins
  | 0, _ => none
  | n + 1, op =>
    match kindP op with
    | some k => if tellsB k w = true then some (readP op k.form w) else findP w n (op + 1)
    | none => findP w n (op + 1)
def decP (w : Int) : Option Ins := findP w 48 1

/-! ### the document's answer -/
def pickP (n : Int) : List (Int × Int) → Int
  | [] => -1
  | (a, o) :: l => if a = n then o else pickP n l
/-- Op and form (as a number of kindP's; 7: E), by low, middle, upper and the word. -/
def formR (low mid up w : Int) : Int × Int :=
  if low = 55 then (1, 0)
  else if low = 23 then (2, 0)
  else if low = 111 then (3, 1)
  else if low = 103 then (pickP mid [(0, 4)], 2)
  else if low = 99 then (pickP mid [(0, 5), (1, 6), (4, 7), (5, 8), (6, 9), (7, 10)], 4)
  else if low = 3 then (pickP mid [(0, 11), (1, 12), (2, 13), (4, 14), (5, 15)], 2)
  else if low = 35 then (pickP mid [(0, 16), (1, 17), (2, 18)], 5)
  else if low = 19 then
    if mid = 1 ∨ mid = 5 then (pickP (8 * up + mid) [(1, 25), (5, 26), (261, 27)], 3)
    else (pickP mid [(0, 19), (2, 20), (3, 21), (4, 22), (6, 23), (7, 24)], 2)
  else if low = 51 then
    if up = 0 then (pickP mid [(0, 28), (1, 30), (2, 31), (3, 32), (4, 33), (5, 34), (6, 36), (7, 37)], 6)
    else if up = 32 then (pickP mid [(0, 29), (5, 35)], 6)
    else if up = 1 then (pickP mid [(0, 38), (1, 39), (2, 40), (3, 41), (4, 42), (5, 43), (6, 44), (7, 45)], 6)
    else (-1, 7)
  else if low = 15 then (pickP mid [(0, 46)], 2)
  else if low = 115 then (pickP w [(115, 47), (1048691, 48)], 7)
  else (-1, 7)
def decR (w : Int) : Option Ins :=
  let p := formR (cutI w 0 6) (cutI w 12 14) (cutI w 25 31) w
  if p.1 < 0 then none else some (readP p.1 p.2 w)

def tellsK (k : Kind) (low mid up w : Int) : Bool :=
  if low = k.low then
    if k.form = 0 ∨ k.form = 1 then true
    else if k.form = 7 then decide (w = k.low + k.upper * 1048576)
    else if k.form = 3 ∨ k.form = 6 then decide (mid = k.middle ∧ up = k.upper)
    else decide (mid = k.middle)
  else false
theorem tellsB_eq (k : Kind) (w : Int) : tellsB k w = tellsK k (cutI w 0 6) (cutI w 12 14) (cutI w 25 31) w := rfl
/-- The program's choice: op and form. -/
def findK (low mid up w : Int) : List (Int × Kind) → Int × Int
  | [] => (-1, 7)
  | (op, k) :: l => if tellsK k low mid up w = true then (op, k.form) else findK low mid up w l
/-- The table, written out. -/
def kinds : Nat → Int → List (Int × Kind)
  | 0, _ => []
  | n + 1, op => match kindP op with
    | some k => (op, k) :: kinds n (op + 1)
    | none => kinds n (op + 1)
theorem findP_eq (w : Int) : ∀ (n : Nat) (op : Int), 1 ≤ op → findP w n op = let p := findK (cutI w 0 6) (cutI w 12 14) (cutI w 25 31) w (kinds n op); if p.1 < 0 then none else some (readP p.1 p.2 w)
  | 0, _, _ => rfl
  | n + 1, op, h => by
    unfold findP kinds
    cases hk : kindP op with
    | none => simpa using findP_eq w n (op + 1) (by omega)
    | some k =>
      simp only [hk]
      unfold findK
      rw [tellsB_eq]
      by_cases ht : tellsK k (cutI w 0 6) (cutI w 12 14) (cutI w 25 31) w = true
      · rw [if_pos ht, if_pos ht]
        simp only
        rw [if_neg (by omega)]
      · rw [if_neg ht, if_neg ht]
        exact findP_eq w n (op + 1) (by omega)
def kindsL : List (Int × Kind) := [(1, ⟨0, 55, 0, 0⟩), (2, ⟨0, 23, 0, 0⟩), (3, ⟨1, 111, 0, 0⟩), (4, ⟨2, 103, 0, 0⟩),
  (5, ⟨4, 99, 0, 0⟩), (6, ⟨4, 99, 1, 0⟩), (7, ⟨4, 99, 4, 0⟩), (8, ⟨4, 99, 5, 0⟩), (9, ⟨4, 99, 6, 0⟩), (10, ⟨4, 99, 7, 0⟩),
  (11, ⟨2, 3, 0, 0⟩), (12, ⟨2, 3, 1, 0⟩), (13, ⟨2, 3, 2, 0⟩), (14, ⟨2, 3, 4, 0⟩), (15, ⟨2, 3, 5, 0⟩), (16, ⟨5, 35, 0, 0⟩), (17, ⟨5, 35, 1, 0⟩), (18, ⟨5, 35, 2, 0⟩),
  (19, ⟨2, 19, 0, 0⟩), (20, ⟨2, 19, 2, 0⟩), (21, ⟨2, 19, 3, 0⟩), (22, ⟨2, 19, 4, 0⟩), (23, ⟨2, 19, 6, 0⟩), (24, ⟨2, 19, 7, 0⟩), (25, ⟨3, 19, 1, 0⟩), (26, ⟨3, 19, 5, 0⟩), (27, ⟨3, 19, 5, 32⟩),
  (28, ⟨6, 51, 0, 0⟩), (29, ⟨6, 51, 0, 32⟩), (30, ⟨6, 51, 1, 0⟩), (31, ⟨6, 51, 2, 0⟩), (32, ⟨6, 51, 3, 0⟩), (33, ⟨6, 51, 4, 0⟩), (34, ⟨6, 51, 5, 0⟩), (35, ⟨6, 51, 5, 32⟩), (36, ⟨6, 51, 6, 0⟩), (37, ⟨6, 51, 7, 0⟩),
  (38, ⟨6, 51, 0, 1⟩), (39, ⟨6, 51, 1, 1⟩), (40, ⟨6, 51, 2, 1⟩), (41, ⟨6, 51, 3, 1⟩), (42, ⟨6, 51, 4, 1⟩), (43, ⟨6, 51, 5, 1⟩), (44, ⟨6, 51, 6, 1⟩), (45, ⟨6, 51, 7, 1⟩),
  (46, ⟨2, 15, 0, 0⟩), (47, ⟨7, 115, 0, 0⟩), (48, ⟨7, 115, 0, 1⟩)]
theorem kinds_eq : kinds 48 1 = kindsL := by decide +kernel

theorem mid_cases {m : Int} (h0 : 0 ≤ m) (h1 : m < 8) : m = 0 ∨ m = 1 ∨ m = 2 ∨ m = 3 ∨ m = 4 ∨ m = 5 ∨ m = 6 ∨ m = 7 := by omega
theorem find_form (low mid up w : Int) (m0 : 0 ≤ mid) (m1 : mid < 8) (u0 : 0 ≤ up) (hl : low = w % 128) :
    (let p := findK low mid up w kindsL; let q := formR low mid up w; p.1 = q.1 ∧ (0 ≤ q.1 → p.2 = q.2)) := by
  by_cases h : low = 55
  · subst h; simp [findK, kindsL, tellsK, formR]
  by_cases h : low = 23
  · subst h; simp [findK, kindsL, tellsK, formR]
  by_cases h : low = 111
  · subst h; simp [findK, kindsL, tellsK, formR]
  by_cases h : low = 103
  · subst h
    obtain rfl | rfl | rfl | rfl | rfl | rfl | rfl | rfl := mid_cases m0 m1 <;> simp [findK, kindsL, tellsK, formR, pickP]
  by_cases h : low = 99
  · subst h
    obtain rfl | rfl | rfl | rfl | rfl | rfl | rfl | rfl := mid_cases m0 m1 <;> simp [findK, kindsL, tellsK, formR, pickP]
  by_cases h : low = 3
  · subst h
    obtain rfl | rfl | rfl | rfl | rfl | rfl | rfl | rfl := mid_cases m0 m1 <;> simp [findK, kindsL, tellsK, formR, pickP]
  by_cases h : low = 35
  · subst h
    obtain rfl | rfl | rfl | rfl | rfl | rfl | rfl | rfl := mid_cases m0 m1 <;> simp [findK, kindsL, tellsK, formR, pickP]
  by_cases h : low = 15
  · subst h
    obtain rfl | rfl | rfl | rfl | rfl | rfl | rfl | rfl := mid_cases m0 m1 <;> simp [findK, kindsL, tellsK, formR, pickP]
  by_cases h : low = 19
  · subst h
    have e1 : (1 : Int) = 8 * up + 1 ↔ up = 0 := by omega
    have e2 : ((5 : Int) = 8 * up + 1) = False := by rw [eq_iff_iff, iff_false]; omega
    have e3 : ((261 : Int) = 8 * up + 1) = False := by rw [eq_iff_iff, iff_false]; omega
    have e4 : ((1 : Int) = 8 * up + 5) = False := by rw [eq_iff_iff, iff_false]; omega
    have e5 : (5 : Int) = 8 * up + 5 ↔ up = 0 := by omega
    have e6 : (261 : Int) = 8 * up + 5 ↔ up = 32 := by omega
    obtain rfl | rfl | rfl | rfl | rfl | rfl | rfl | rfl := mid_cases m0 m1 <;> simp only [findK, kindsL, tellsK, formR, pickP, e1, e2, e3, e4, e5, e6] <;> simp
    all_goals
      by_cases a : up = 0
      · subst a; simp
      by_cases b : up = 32
      · subst b; simp
      simp [a, b]
  by_cases h : low = 51
  · subst h
    by_cases a : up = 0
    · subst a
      obtain rfl | rfl | rfl | rfl | rfl | rfl | rfl | rfl := mid_cases m0 m1 <;> simp [findK, kindsL, tellsK, formR, pickP]
    by_cases b : up = 32
    · subst b
      obtain rfl | rfl | rfl | rfl | rfl | rfl | rfl | rfl := mid_cases m0 m1 <;> simp [findK, kindsL, tellsK, formR, pickP]
    by_cases c : up = 1
    · subst c
      obtain rfl | rfl | rfl | rfl | rfl | rfl | rfl | rfl := mid_cases m0 m1 <;> simp [findK, kindsL, tellsK, formR, pickP]
    simp [findK, kindsL, tellsK, formR, a, b, c]
  by_cases h : low = 115
  · subst h
    have e1 : w = 115 ↔ (115 : Int) = w := eq_comm
    have e2 : w = 1048691 ↔ (1048691 : Int) = w := eq_comm
    simp [findK, kindsL, tellsK, formR, pickP, e1, e2]
    by_cases a : (115 : Int) = w
    · simp [a]
    · by_cases b : (1048691 : Int) = w
      · simp [a, b]
      · simp [a, b]
  · clear hl
    simp [findK, kindsL, tellsK, formR, *]
theorem cut_lt (w : Int) (f t : Nat) : 0 ≤ cutI w f t ∧ cutI w f t < 2 ^ (t + 1 - f) := by
  unfold cutI
  have h : (0 : Int) < 2 ^ (t + 1 - f) := Int.pow_pos (by omega)
  exact ⟨Int.emod_nonneg _ (by omega), Int.emod_lt_of_pos _ h⟩
theorem decP_eq (w : Int) : decP w = decR w := by
  unfold decP decR
  rw [findP_eq w 48 1 (by omega), kinds_eq]
  have h := find_form (cutI w 0 6) (cutI w 12 14) (cutI w 25 31) w (cut_lt _ _ _).1 (by simpa using (cut_lt w 12 14).2) (cut_lt _ _ _).1 (by unfold cutI; simp)
  generalize findK (cutI w 0 6) (cutI w 12 14) (cutI w 25 31) w kindsL = p at h
  generalize formR (cutI w 0 6) (cutI w 12 14) (cutI w 25 31) w = q at h
  obtain ⟨h1, h2⟩ := h
  simp only
  rw [h1]
  by_cases hq : q.1 < 0
  · rw [if_pos hq, if_pos hq]
  · rw [if_neg hq, if_neg hq, h2 (by omega)]
end Go.Proofs.Ytapgojgcmlnbgab
