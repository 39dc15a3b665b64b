/- What package window comes to, in plain Lean; and that it is what the document's answer comes to. -/
import Derived.WalkKit
namespace Go.Proofs.Ytapgojgcmlnbgab
open Go

/-- api.Slot. -/
structure Slt where
  seq : Int
  done : Bool
  deriving DecidableEq
instance : Inhabited Slt := ⟨⟨0, false⟩⟩

/-- The place of the first that p tells, from k on; -1: there is none. -/
def idxP {α : Type} (p : α → Bool) : List α → Int → Int
  | [], _ => -1
  | x :: l, k => if p x = true then k else idxP p l (k + 1)
theorem idxP_cases {α : Type} (p : α → Bool) : ∀ (l : List α) (k : Nat), (idxP p l k = -1 ∧ ∀ x ∈ l, p x = false) ∨ (∃ j x, idxP p l k = ((k + j : Nat) : Int) ∧ l[j]? = some x ∧ p x = true ∧ ∀ i y, i < j → l[i]? = some y → p y = false)
  | [], k => Or.inl ⟨rfl, fun x hx => by cases hx⟩
  | x :: l, k => by
    unfold idxP
    rcases hp : p x with _ | _
    · rw [if_neg (by simp)]
      rcases idxP_cases p l (k + 1) with ⟨h1, h2⟩ | ⟨j, y, h1, h2, h3, h4⟩
      · left
        refine ⟨by simpa using h1, fun y hy => ?_⟩
        rcases List.mem_cons.1 hy with rfl | hy
        · exact hp
        · exact h2 y hy
      · right
        refine ⟨j + 1, y, ?_, h2, h3, fun i z hi hz => ?_⟩
        · rw [show ((k : Int) + 1) = ((k + 1 : Nat) : Int) by omega, h1]; congr 1; omega
        · cases i with
          | zero => simp at hz; subst hz; exact hp
          | succ i => exact h4 i z (by omega) (by simpa using hz)
    · rw [if_pos rfl]
      exact Or.inr ⟨0, x, by simp, rfl, hp, fun i y hi => by omega⟩

def pushP (l : List Slt) (room seq : Int) : Option (List Slt) := if room ≤ l.length ∨ (l.any fun s => decide (seq ≤ s.seq)) = true then none else some (l ++ [⟨seq, false⟩])
/-- The first that is of that number and not done, done. -/
def doneP : List Slt → Int → Option (List Slt)
  | [], _ => none
  | s :: l, seq => if s = ⟨seq, false⟩ then some (⟨seq, true⟩ :: l) else (doneP l seq).map (s :: ·)
def popK : List Slt → Int → Nat
  | [], _ => 0
  | s :: l, most => if 0 < most ∧ s.done = true then 1 + popK l (most - 1) else 0
def cutL (l : List Slt) (seq : Int) : List Slt := l.filter fun s => decide (s.seq < seq)
def cutO (l : List Slt) (seq : Int) : List Int := ((l.filter fun s => decide (seq ≤ s.seq)).map (·.seq)).reverse

theorem doneP_idx (l : List Slt) (seq : Int) : doneP l seq = (if idxP (fun s => decide (s = ⟨seq, false⟩)) l 0 < 0 then none else some (l.set (idxP (fun s => decide (s = ⟨seq, false⟩)) l 0).toNat ⟨seq, true⟩)) := by
  have key : ∀ (l : List Slt), (∀ x ∈ l, decide (x = (⟨seq, false⟩ : Slt)) = false) → doneP l seq = none := by
    intro l
    induction l with
    | nil => intro _; rfl
    | cons x l ih =>
      intro h
      unfold doneP
      have hx := of_decide_eq_false (h x (by simp))
      rw [if_neg hx, ih fun y hy => h y (by simp [hy])]
      rfl
  have key2 : ∀ (l : List Slt) (j : Nat) (x : Slt), l[j]? = some x → x = ⟨seq, false⟩ → (∀ i y, i < j → l[i]? = some y → y ≠ ⟨seq, false⟩) → doneP l seq = some (l.set j ⟨seq, true⟩) := by
    intro l
    induction l with
    | nil => intro j x h; cases h
    | cons y l ih =>
      intro j x h1 h2 h3
      unfold doneP
      cases j with
      | zero =>
        simp at h1
        subst h1
        rw [if_pos h2]
        rfl
      | succ j =>
        rw [if_neg (h3 0 y (by omega) rfl), ih j x (by simpa using h1) h2 fun i z hi hz => h3 (i + 1) z (by omega) (by simpa using hz)]
        rfl
  rcases idxP_cases (fun s => decide (s = (⟨seq, false⟩ : Slt))) l 0 with ⟨h1, h2⟩ | ⟨j, x, h1, h2, h3, h4⟩
  · have h1' : idxP (fun s => decide (s = (⟨seq, false⟩ : Slt))) l 0 = -1 := h1
    rw [h1', if_pos (by omega), key l h2]
  · have h1' : idxP (fun s => decide (s = (⟨seq, false⟩ : Slt))) l 0 = j := by simpa using h1
    rw [h1', if_neg (by omega)]
    exact key2 l j x h2 (of_decide_eq_true h3) fun i y hi hy => of_decide_eq_false (h4 i y hi hy)
theorem popK_le : ∀ (l : List Slt) (most : Int), popK l most ≤ l.length
  | [], _ => Nat.le_refl _
  | s :: l, most => by
    unfold popK
    split
    · have := popK_le l (most - 1)
      simp; omega
    · exact Nat.zero_le _
theorem popK_most : ∀ (l : List Slt) (most : Int), 0 ≤ most → (popK l most : Int) ≤ most
  | [], _, h => h
  | s :: l, most, h => by
    unfold popK
    split
    · have := popK_most l (most - 1) (by omega)
      omega
    · exact h
theorem popK_neg (l : List Slt) {most : Int} (h : most ≤ 0) : popK l most = 0 := by
  cases l with
  | nil => rfl
  | cons s l => unfold popK; rw [if_neg (by omega)]
theorem doneP_length : ∀ (l : List Slt) {seq : Int} {l' : List Slt}, doneP l seq = some l' → l'.length = l.length ∧ l'.map (·.seq) = l.map (·.seq)
  | [], _, _, h => by cases h
  | s :: l, seq, l', h => by
    unfold doneP at h
    split at h
    · rename_i hs
      cases h
      subst hs
      exact ⟨rfl, rfl⟩
    · cases hd : doneP l seq with
      | none => rw [hd] at h; cases h
      | some k =>
        rw [hd] at h
        cases h
        obtain ⟨h1, h2⟩ := doneP_length l hd
        simp [h1, h2]
/-- The document's Cut, of the numbers: from the last one to the first. -/
theorem cutO_eq (l : List Slt) (seq : Int) : cutO l seq = (l.reverse.filter fun s => decide (seq ≤ s.seq)).map (·.seq) := by
  unfold cutO
  rw [← List.map_reverse, List.filter_reverse]
theorem cut_length (l : List Slt) (seq : Int) : (cutL l seq).length + (cutO l seq).length = l.length := by
  unfold cutL cutO
  induction l with
  | nil => rfl
  | cons s l ih =>
    simp only [List.length_reverse, List.length_map] at ih ⊢
    by_cases h : s.seq < seq
    · rw [List.filter_cons_of_pos (by simpa using h), List.filter_cons_of_neg (by simp; omega)]
      simp; omega
    · rw [List.filter_cons_of_neg (by simpa using h), List.filter_cons_of_pos (by simp; omega)]
      simp; omega
/-- The numbers rise, all above last and below next. -/
structure Rises (l : List Slt) (last next : Int) : Prop where
  rise : (l.map (·.seq)).Pairwise (· < ·)
  lo : ∀ s ∈ l, last < s.seq
  hi : ∀ s ∈ l, s.seq < next
theorem Rises.push {l : List Slt} {last next : Int} (h : Rises l last next) (hn : last < next) : Rises (l ++ [⟨next, false⟩]) last (next + 1) := by
  refine ⟨?_, fun s hs => ?_, fun s hs => ?_⟩
  · rw [List.map_append, List.pairwise_append]
    refine ⟨h.rise, by simp, fun a ha b hb => ?_⟩
    obtain ⟨s, hs, rfl⟩ := List.mem_map.1 ha
    simp at hb
    subst hb
    exact h.hi s hs
  · rcases List.mem_append.1 hs with hs | hs
    · exact h.lo s hs
    · simp at hs; subst hs; exact hn
  · rcases List.mem_append.1 hs with hs | hs
    · have := h.hi s hs; omega
    · simp at hs; subst hs; show next < next + 1; omega
theorem Rises.pushOk {l : List Slt} {last next : Int} (h : Rises l last next) (room : Int) : pushP l room next = if room ≤ l.length then none else some (l ++ [⟨next, false⟩]) := by
  have ha : (l.any fun s => decide (next ≤ s.seq)) = false := by
    rw [List.any_eq_false]
    intro s hs
    have := h.hi s hs
    simp; omega
  unfold pushP
  rw [ha]
  simp
theorem Rises.seqs {l l' : List Slt} {last next : Int} (h : Rises l last next) (hm : l'.map (·.seq) = l.map (·.seq)) : Rises l' last next := by
  have key : ∀ s ∈ l', ∃ t ∈ l, t.seq = s.seq := fun s hs => by
    have : s.seq ∈ l.map (·.seq) := by rw [← hm]; exact List.mem_map_of_mem hs
    exact List.mem_map.1 this
  refine ⟨by rw [hm]; exact h.rise, fun s hs => ?_, fun s hs => ?_⟩
  · obtain ⟨t, ht, he⟩ := key s hs
    rw [← he]; exact h.lo t ht
  · obtain ⟨t, ht, he⟩ := key s hs
    rw [← he]; exact h.hi t ht
theorem Rises.sub {l l' : List Slt} {last next : Int} (h : Rises l last next) (hs : l'.Sublist l) : Rises l' last next :=
  ⟨h.rise.sublist (hs.map _), fun s m => h.lo s (hs.subset m), fun s m => h.hi s (hs.subset m)⟩
end Go.Proofs.Ytapgojgcmlnbgab
