/- What a load sees, in plain Lean. -/
import Derived.Test.YtapgojgcmlnbgaaOrderPlain
import Derived.Test.YtapgojgcmlnbgaaMemPlain
namespace Go.Proofs.Ytapgojgcmlnbgaa

def notNewer (a : Acc) : Option Acc → Bool
  | none => true
  | some c => decide (c.seq ≤ a.seq)
def bestStep (seq p : Int) (b : Option Acc) (a : Acc) : Option Acc :=
  if a.store && a.known && decide (a.seq < seq) && hasB a p && notNewer a b then some a else b
/-- A store's byte at p. -/
def dataAt (a : Acc) (p : Int) : Int := a.data / ((2 ^ (8 * (p - a.at_).toNat) : Nat) : Int) % 256
def byteOf (m : List Int) (p : Int) : Option Acc → Int
  | some a => dataAt a p
  | none => m.getD p.toNat 0
def byteP (l : List Acc) (m : List Int) (seq p : Int) : Int := byteOf m p (l.foldl (bestStep seq p) none)
def sureStep (seq : Int) (s : Bool) (a : Acc) : Bool := s && (!a.store || decide (seq ≤ a.seq) || a.known)
def sureB (l : List Acc) (seq : Int) : Bool := l.foldl (sureStep seq) true
def seeW (l : List Acc) (m : List Int) (seq p many : Int) : Int :=
  if many = 1 then byteP l m seq p
  else if many = 2 then byteP l m seq p + 256 * byteP l m seq (p + 1)
  else byteP l m seq p + 256 * byteP l m seq (p + 1) + 65536 * byteP l m seq (p + 2) + 16777216 * byteP l m seq (p + 3)
def seeOk (m : List Int) (p many : Int) : Bool := (decide (many = 1) || decide (many = 2) || decide (many = 4)) && thereB m.length p many
def seeP (l : List Acc) (m : List Int) (seq p many : Int) : Int × Bool × Bool :=
  if seeOk m p many then (seeW l m seq p many, true, sureB l seq) else (0, false, false)

theorem dataAt_bounds (a : Acc) (p : Int) (h0 : 0 ≤ a.data) : 0 ≤ dataAt a p ∧ dataAt a p ≤ 255 := by
  unfold dataAt
  have : 0 ≤ a.data / ((2 ^ (8 * (p - a.at_).toNat) : Nat) : Int) := Int.ediv_nonneg h0 (Int.natCast_nonneg _)
  omega
theorem best_mem {l : List Acc} {seq p : Int} : ∀ {b : Option Acc} {c : Acc}, l.foldl (bestStep seq p) b = some c → c ∈ l ∨ b = some c := by
  induction l with
  | nil => intro b c h; exact .inr h
  | cons a l ih =>
    intro b c h
    rw [List.foldl_cons] at h
    rcases ih h with h1 | h1
    · exact .inl (List.mem_cons_of_mem _ h1)
    · unfold bestStep at h1
      split at h1
      · injection h1 with h1
        subst h1
        exact .inl List.mem_cons_self
      · exact .inr h1
theorem byteP_bounds {l : List Acc} {m : List Int} (hw : ∀ a ∈ l, a.Wf) (hb : Bytes m) (seq p : Int) : 0 ≤ byteP l m seq p ∧ byteP l m seq p ≤ 255 := by
  unfold byteP
  cases h : l.foldl (bestStep seq p) none with
  | none => exact hb.getD _
  | some a =>
    rcases best_mem h with h1 | h1
    · exact dataAt_bounds a p (hw a h1).data0
    · cases h1
end Go.Proofs.Ytapgojgcmlnbgaa
