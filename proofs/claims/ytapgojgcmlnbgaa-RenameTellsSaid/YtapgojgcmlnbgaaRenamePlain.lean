/- Maps of registers, in plain Lean: which may be, and what a taking and a giving keeps. -/
import Derived.WalkKit
namespace Go.Proofs.Ytapgojgcmlnbgaa
open Go

/-- The numbers of l are each from 0 to phys, and none is twice or in had. -/
def okL (phys : Int) : List Int → List Int → Bool
  | _, [] => true
  | had, p :: l => if p < 0 ∨ phys ≤ p ∨ p ∈ had then false else okL phys (p :: had) l
def physOk (phys : Int) : Bool := decide (33 ≤ phys ∧ phys ≤ 96)
def mayP (phys : Int) (l : List Int) : Bool := okL phys [] l && physOk phys

theorem okL_iff (phys : Int) : ∀ (l had : List Int), okL phys had l = true ↔ (∀ p ∈ l, 0 ≤ p ∧ p < phys ∧ p ∉ had) ∧ l.Nodup
  | [], had => by simp [okL]
  | p :: l, had => by
    unfold okL
    by_cases h : p < 0 ∨ phys ≤ p ∨ p ∈ had
    · rw [if_pos h]
      simp only [Bool.false_eq_true, false_iff]
      intro ⟨h1, _⟩
      have := h1 p (by simp)
      rcases h with h | h | h
      · omega
      · omega
      · exact this.2.2 h
    · rw [if_neg h, okL_iff phys l (p :: had), List.nodup_cons]
      have h' : 0 ≤ p ∧ p < phys ∧ p ∉ had := ⟨by omega, by omega, fun x => h (Or.inr (Or.inr x))⟩
      constructor
      · rintro ⟨h1, h2⟩
        refine ⟨fun q hq => ?_, ?_, h2⟩
        · rcases List.mem_cons.1 hq with rfl | hq
          · exact h'
          · have := h1 q hq
            exact ⟨this.1, this.2.1, fun x => this.2.2 (by simp [x])⟩
        · intro hp
          exact (h1 p hp).2.2 (by simp)
      · rintro ⟨h1, h2, h3⟩
        refine ⟨fun q hq => ?_, h3⟩
        have := h1 q (by simp [hq])
        refine ⟨this.1, this.2.1, fun x => ?_⟩
        rcases List.mem_cons.1 x with rfl | x
        · exact h2 hq
        · exact this.2.2 x
theorem mayP_iff (phys : Int) (l : List Int) : mayP phys l = true ↔ ((∀ p ∈ l, 0 ≤ p ∧ p < phys) ∧ l.Nodup) ∧ 33 ≤ phys ∧ phys ≤ 96 := by
  unfold mayP physOk
  rw [Bool.and_eq_true, okL_iff, decide_eq_true_eq]
  simp

/-- The document's walk over the numbers from p on, n of them: all that are among l. -/
def sumR (l : List Int) : Nat → Int → Int → Option Int
  | 0, _, s => some s
  | n + 1, p, s => if 1 < l.count p then none else sumR l n (p + 1) (s + l.count p)
def mayR (phys : Int) (l : List Int) : Bool := if 33 ≤ phys ∧ phys ≤ 96 then (match sumR l phys.toNat 0 0 with | some s => decide (s = l.length) | none => false) else false
theorem countP_split (l : List Int) (p : Int) (n : Nat) : (l.countP fun x => decide (p ≤ x ∧ x < p + (n + 1 : Nat))) = l.count p + l.countP fun x => decide (p + 1 ≤ x ∧ x < p + 1 + n) := by
  induction l with
  | nil => rfl
  | cons x l ih =>
    rw [List.countP_cons, List.countP_cons, List.count_cons, ih]
    by_cases h : x = p
    · subst h
      rw [if_pos (by simp; omega), if_pos (by simp), if_neg (by simp; omega)]
      omega
    · by_cases h2 : p + 1 ≤ x ∧ x < p + 1 + n
      · simp [h, h2, show p ≤ x ∧ x < p + ((n : Int) + 1) by omega]
        omega
      · simp [h, h2, show ¬ (p ≤ x ∧ x < p + ((n : Int) + 1)) by omega]
open Classical in
theorem sumR_eq (l : List Int) : ∀ (n : Nat) (p s : Int), sumR l n p s = if ∀ q : Int, p ≤ q → q < p + n → l.count q ≤ 1 then some (s + l.countP fun x => decide (p ≤ x ∧ x < p + n)) else none
  | 0, p, s => by
    rw [if_pos (fun q h1 h2 => by omega)]
    have : (l.countP fun x => decide (p ≤ x ∧ x < p + (0 : Nat))) = 0 := by
      rw [List.countP_eq_zero]
      intro x _
      simp
    rw [this]
    simp [sumR]
  | n + 1, p, s => by
    unfold sumR
    rw [sumR_eq l n (p + 1)]
    by_cases h : 1 < l.count p
    · rw [if_pos h, if_neg]
      intro hh
      have := hh p (by omega) (by omega)
      omega
    · rw [if_neg h, countP_split]
      by_cases hc : ∀ q : Int, p + 1 ≤ q → q < p + 1 + n → l.count q ≤ 1
      · rw [if_pos hc, if_pos]
        · congr 1
          push_cast
          omega
        · intro q h1 h2
          by_cases hq : q = p
          · subst hq; omega
          · exact hc q (by omega) (by omega)
      · rw [if_neg hc, if_neg]
        intro hh
        exact hc fun q h1 h2 => hh q (by omega) (by omega)
theorem may_eq (phys : Int) (l : List Int) : mayP phys l = mayR phys l := by
  rw [Bool.eq_iff_iff, mayP_iff]
  unfold mayR
  by_cases hp : 33 ≤ phys ∧ phys ≤ 96
  · rw [if_pos hp, sumR_eq]
    have hc : ((phys.toNat : Nat) : Int) = phys := by omega
    rw [hc]
    constructor
    · rintro ⟨⟨h1, h2⟩, _⟩
      rw [if_pos (fun q _ _ => List.nodup_iff_count.1 h2 q)]
      have : (l.countP fun x => decide (0 ≤ x ∧ x < 0 + phys)) = l.length := by
        rw [List.countP_eq_length]
        intro x hx
        have := h1 x hx
        simp; omega
      rw [this]
      simp
    · intro h
      split at h
      next s hs =>
        split at hs
        next hall =>
          injection hs with hs
          subst hs
          have h' := of_decide_eq_true h
          have h2 : (l.countP fun x => decide (0 ≤ x ∧ x < 0 + phys)) = l.length := by omega
          rw [List.countP_eq_length] at h2
          have h3 : ∀ p ∈ l, 0 ≤ p ∧ p < phys := fun p hp => by
            have := h2 p hp
            simp at this
            exact this
          refine ⟨⟨h3, ?_⟩, hp⟩
          rw [List.nodup_iff_count]
          intro q
          by_cases hq : q ∈ l
          · exact hall q (h3 q hq).1 (by have := (h3 q hq).2; omega)
          · rw [List.count_eq_zero_of_not_mem hq]; omega
        next => cases hs
      next => cases h
  · rw [if_neg hp]
    simp [hp]
theorem set_perm (regs rest : List Int) (p : Int) (rd : Nat) (h : rd < regs.length) : (regs ++ p :: rest).Perm (regs.getD rd 0 :: (regs.set rd p ++ rest)) := by
  have e : regs.getD rd 0 = regs[rd] := by simp [List.getD, List.getElem?_eq_getElem h]
  rw [e, List.set_eq_take_append_cons_drop, if_pos h]
  have h1 : regs = regs.take rd ++ regs[rd] :: regs.drop (rd + 1) := by
    rw [← List.drop_eq_getElem_cons h, List.take_append_drop]
  generalize regs[rd] = x at h1 ⊢
  generalize regs.take rd = A at h1 ⊢
  generalize regs.drop (rd + 1) = B at h1 ⊢
  subst h1
  rw [List.append_assoc, List.append_assoc]
  refine List.perm_middle.trans (List.Perm.cons _ ?_)
  refine List.Perm.append_left _ ?_
  exact List.perm_middle
theorem may_perm {phys : Int} {l l' : List Int} (hp : l.Perm l') : mayP phys l = mayP phys l' := by
  rw [Bool.eq_iff_iff, mayP_iff, mayP_iff, hp.nodup_iff]
  constructor
  · rintro ⟨⟨h1, h2⟩, h3⟩
    exact ⟨⟨fun p h => h1 p (hp.mem_iff.2 h), h2⟩, h3⟩
  · rintro ⟨⟨h1, h2⟩, h3⟩
    exact ⟨⟨fun p h => h1 p (hp.mem_iff.1 h), h2⟩, h3⟩
theorem may_cons {phys p : Int} {l : List Int} : mayP phys (p :: l) = true ↔ mayP phys l = true ∧ (0 ≤ p ∧ p < phys) ∧ p ∉ l := by
  rw [mayP_iff, mayP_iff, List.nodup_cons]
  constructor
  · rintro ⟨⟨h1, h2, h3⟩, h4⟩
    exact ⟨⟨⟨fun q hq => h1 q (by simp [hq]), h3⟩, h4⟩, h1 p (by simp), h2⟩
  · rintro ⟨⟨⟨h1, h2⟩, h3⟩, h4, h5⟩
    refine ⟨⟨fun q hq => ?_, h5, h2⟩, h3⟩
    rcases List.mem_cons.1 hq with rfl | hq
    · exact h4
    · exact h1 q hq
theorem may_take {phys p : Int} {regs rest : List Int} {rd : Nat} (hrd : rd < regs.length) (h : mayP phys (regs ++ p :: rest) = true) :
    mayP phys (regs.set rd p ++ rest) = true ∧ (0 ≤ regs.getD rd 0 ∧ regs.getD rd 0 < phys) ∧ regs.getD rd 0 ∉ regs.set rd p ++ rest := by
  rw [may_perm (set_perm regs rest p rd hrd), may_cons] at h
  exact h
theorem may_give {phys p : Int} {regs free : List Int} (h : mayP phys (regs ++ free) = true) (hp : 0 ≤ p ∧ p < phys) (hn : p ∉ regs ++ free) : mayP phys (regs ++ (free ++ [p])) = true := by
  rw [← List.append_assoc, may_perm (l' := p :: (regs ++ free)) (by simpa using List.perm_append_comm (l₁ := regs ++ free) (l₂ := [p])), may_cons]
  exact ⟨h, hp, hn⟩
def regs0 : List Int := (List.range 32).map Int.ofNat
def free0 (n : Nat) : List Int := (List.range n).map fun k => ((32 + k : Nat) : Int)
theorem new_eq (n : Nat) : regs0 ++ free0 n = (List.range (32 + n)).map Int.ofNat := by
  unfold regs0 free0
  rw [List.range_add, List.map_append, List.map_map]
  rfl
theorem may_new (n : Nat) (h1 : 1 ≤ n) (h2 : n ≤ 64) : mayP ((32 + n : Nat) : Int) (regs0 ++ free0 n) = true := by
  rw [new_eq, mayP_iff]
  refine ⟨⟨fun p hp => ?_, ?_⟩, by omega⟩
  · obtain ⟨k, hk, rfl⟩ := List.mem_map.1 hp
    have := List.mem_range.1 hk
    show 0 ≤ (k : Int) ∧ (k : Int) < _
    omega
  · refine List.Pairwise.map _ (fun a b hab => ?_) (List.nodup_range (n := 32 + n))
    intro h
    exact hab (Int.ofNat.inj h)
/-- A map of registers: api.Map. -/
structure RMap where
  phys : Int
  regs : List Int
  free : List Int
  deriving DecidableEq
def RMap.zero : RMap := ⟨0, List.replicate 32 0, []⟩
def RMap.all (m : RMap) : List Int := m.regs ++ m.free
def RMap.may (m : RMap) : Bool := mayP m.phys m.all
def otherP (m : RMap) (p : Int) : Bool := m.may && (decide (0 ≤ p) && decide (p < m.phys) && !decide (p ∈ m.all))
def newP (phys : Int) : Option RMap := if 33 ≤ phys ∧ phys ≤ 96 then some ⟨phys, regs0, free0 (phys - 32).toNat⟩ else none
/-- A register gets a free one: the map, the new one, the one before. -/
def takeP (m : RMap) (rd : Int) : Option (RMap × Int × Int) :=
  match m.free with
  | [] => none
  | p :: f => if m.may = true ∧ 1 ≤ rd ∧ rd ≤ 31 then some (⟨m.phys, m.regs.set rd.toNat p, f⟩, p, m.regs.getD rd.toNat 0) else none
def giveP (m : RMap) (p : Int) : Option RMap := if otherP m p = true then some ⟨m.phys, m.regs, m.free ++ [p]⟩ else none
def undoP (m : RMap) (rd old : Int) : Option RMap := if otherP m old = true ∧ 1 ≤ rd ∧ rd ≤ 31 then some ⟨m.phys, m.regs.set rd.toNat old, m.regs.getD rd.toNat 0 :: m.free⟩ else none

end Go.Proofs.Ytapgojgcmlnbgaa
