/- Short names for facts of the kit that stand often. -/
import Derived.Lib.Hide
import Derived.Below
import Derived.Laws.AppendOwn
namespace Go.Proofs.YtapgojgcmlnbgaaGreatDoor
open Go Go.RowKit
theorem qA {p : Prop} (h : p) : Hid p := h
theorem qB (B : Nat) (w : World) : Below B w w := Below.refl B w
theorem qC (n : Nat) : n ≤ n := Nat.le_refl n
theorem qD {a b c : Nat} (h : a ≤ b) (k : b ≤ c) : a ≤ c := Nat.le_trans h k
theorem qE {a b c : Nat} (h : a < b) (k : b ≤ c) : a < c := Nat.lt_of_lt_of_le h k
theorem qF {p : Prop} [inst : Decidable p] (h : p) : decide p = true := decide_eq_true h
theorem qG {p : Prop} [inst : Decidable p] (h : ¬ p) : decide p = false := decide_eq_false h
theorem qH {a : Int} (h : 0 ≤ a) : ∃ n : Nat, a = n := Int.eq_ofNat_of_zero_le h
theorem qI {α : Type} {l : List α} {i : Nat} (h : i < l.length) : l[i]? = some l[i] := List.getElem?_eq_getElem h
theorem qJ {α : Type} {l : List α} {i : Nat} {a : α} : l[i]? = some a ↔ ∃ h : i < l.length, l[i] = a := List.getElem?_eq_some_iff
theorem qK {α : Type} {a b : α} (h : some a = some b) : a = b := Option.some.inj h
theorem qL {a b : Prop} (h : a) (k : b) : a ∧ b := ⟨h, k⟩
theorem qM {α : Type} {l : List α} {i : Nat} (h : i < l.length) : l.drop i = l[i] :: l.drop (i + 1) := List.drop_eq_getElem_cons h
theorem qN {α : Type} {l : List α} (h : l.length = 0) : l = [] := List.eq_nil_of_length_eq_zero h
theorem qO {α : Type} {as bs : List α} : (as ++ bs).length = as.length + bs.length := List.length_append
theorem qP {α : Type} (y : α) {a : α} {l : List α} (h : a ∈ l) : a ∈ y :: l := List.mem_cons_of_mem y h
theorem qQ {α : Type} {l m : List α} {n : Nat} (h : n < l.length) : (l ++ m)[n]? = l[n]? := List.getElem?_append_left h
theorem qR {α : Type} {l m : List α} {n : Nat} (h : l.length ≤ n) : (l ++ m)[n]? = m[n - l.length]? := List.getElem?_append_right h
theorem qS {n m : Nat} (h : n < m) : n ≤ m := Nat.le_of_lt h
theorem qT (w : World) (base : Nat) (e : TypeId) (size : Nat) : w.ownsRow base e size (.slice none 0 0) 0 [] := World.ownsRow_nil w base e size
end Go.Proofs.YtapgojgcmlnbgaaGreatDoor
