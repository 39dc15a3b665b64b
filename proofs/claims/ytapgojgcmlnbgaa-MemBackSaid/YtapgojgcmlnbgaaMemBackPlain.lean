/- What was stored is loaded, in plain Lean. -/
import Derived.Test.YtapgojgcmlnbgaaMemPlain
import Derived.Test.YtapgojgcmlnbgaaWordPlain
namespace Go.Proofs.Ytapgojgcmlnbgaa
open Go.RowKit
/-- The load of a store. -/
def loadsI (op : Int) : Int := if op = 16 then 14 else if op = 17 then 15 else 13
theorem getD_set (m : List Int) (i j : Nat) (v : Int) : (m.set i v).getD j 0 = if i = j ∧ i < m.length then v else m.getD j 0 := by
  rw [List.getD]
  by_cases h : i = j
  · subst h
    by_cases hi : i < m.length
    · rw [if_pos ⟨rfl, hi⟩, List.getElem?_set_self hi]; rfl
    · rw [if_neg (fun e => hi e.2), List.set_eq_of_length_le (by omega)]; rfl
  · rw [if_neg (fun e => h e.1), List.getElem?_set_ne h]; rfl
theorem back16 (m : List Int) (n : Nat) (x : Int) (h : n < m.length) : loadW (putW m 16 n x) 14 n = x % 256 := by
  show (m.set n (x % 256)).getD n 0 = _
  rw [getD_set, if_pos ⟨rfl, h⟩]
theorem back17 (m : List Int) (n : Nat) (x : Int) (h : n + 1 < m.length) : loadW (putW m 17 n x) 15 n = x % 65536 := by
  show ((m.set n (x % 256)).set (n + 1) (x / 256 % 256)).getD n 0 + 256 * ((m.set n (x % 256)).set (n + 1) (x / 256 % 256)).getD (n + 1) 0 = _
  rw [getD_set, getD_set, getD_set, List.length_set, if_neg (by omega), if_pos ⟨rfl, by omega⟩, if_pos ⟨rfl, h⟩]
  omega
theorem put4_getD (m : List Int) (n j : Nat) (x : Int) (h : n + 3 < m.length) : (put4 m n x).getD j 0 = if n + 3 = j then x / 16777216 % 256 else if n + 2 = j then x / 65536 % 256 else if n + 1 = j then x / 256 % 256 else if n = j then x % 256 else m.getD j 0 := by
  unfold put4 put2 put1
  simp only [getD_set, List.length_set]
  (repeat' split) <;> first | rfl | omega
theorem back18 (m : List Int) (n : Nat) (x : Int) (h : n + 3 < m.length) (h0 : 0 ≤ x) (h1 : x ≤ 4294967295) : loadW (putW m 18 n x) 13 n = x := by
  show (put4 m n x).getD n 0 + 256 * (put4 m n x).getD (n + 1) 0 + 65536 * (put4 m n x).getD (n + 2) 0 + 16777216 * (put4 m n x).getD (n + 3) 0 = _
  rw [put4_getD m n n x h, put4_getD m n (n + 1) x h, put4_getD m n (n + 2) x h, put4_getD m n (n + 3) x h]
  rw [if_neg (by omega), if_neg (by omega), if_neg (by omega), if_pos rfl, if_neg (by omega), if_neg (by omega), if_pos rfl, if_neg (by omega), if_pos rfl, if_pos rfl]
  omega
theorem back_other (m : List Int) (op : Int) (n j : Nat) (x : Int) (ho : op = 16 ∨ op = 17 ∨ op = 18) (h : n + sizeI op ≤ m.length) (hj : j < n ∨ (n : Int) + sizeI op ≤ j) : (putW m op n x).getD j 0 = m.getD j 0 := by
  obtain rfl | rfl | rfl := ho
  · have s : sizeI 16 = 1 := rfl
    show (m.set n (x % 256)).getD j 0 = _
    rw [getD_set, if_neg (by omega)]
  · have s : sizeI 17 = 2 := rfl
    show ((m.set n (x % 256)).set (n + 1) (x / 256 % 256)).getD j 0 = _
    rw [getD_set, getD_set, if_neg (by omega), if_neg (by omega)]
  · have s : sizeI 18 = 4 := rfl
    show (put4 m n x).getD j 0 = _
    rw [put4_getD m n j x (by omega), if_neg (by omega), if_neg (by omega), if_neg (by omega), if_neg (by omega)]
theorem sizeI_loads (op : Int) (ho : op = 16 ∨ op = 17 ∨ op = 18) : sizeI (loadsI op) = sizeI op := by obtain rfl | rfl | rfl := ho <;> rfl
theorem loadP_back (m : List Int) (op p x : Int) (ho : op = 16 ∨ op = 17 ∨ op = 18) (h0 : 0 ≤ p) (hx0 : 0 ≤ x) (hx1 : x ≤ 4294967295) (hlen : (putW m op p.toNat x).length = m.length) (hok : storeOk m.length op p = true) :
    loadP (putW m op p.toNat x) (loadsI op) p = (x % (if op = 16 then 256 else if op = 17 then 65536 else 4294967296), true) := by
  have hth : thereB m.length p (sizeI op) = true := by
    simp only [storeOk, Bool.and_eq_true] at hok
    exact hok.2
  have hth2 := hth
  unfold thereB at hth2
  simp only [Bool.and_eq_true, decide_eq_true_eq] at hth2
  obtain ⟨_, t2⟩ := hth2
  unfold loadP
  rw [hlen, sizeI_loads op ho, hth]
  obtain rfl | rfl | rfl := ho
  · have s : sizeI 16 = 1 := rfl
    rw [if_pos (by decide)]
    show (loadW (putW m 16 p.toNat x) 14 p.toNat, true) = _
    rw [back16 _ _ _ (by omega)]
    rfl
  · have s : sizeI 17 = 2 := rfl
    rw [if_pos (by decide)]
    show (loadW (putW m 17 p.toNat x) 15 p.toNat, true) = _
    rw [back17 _ _ _ (by omega)]
    rfl
  · have s : sizeI 18 = 4 := rfl
    rw [if_pos (by decide)]
    show (loadW (putW m 18 p.toNat x) 13 p.toNat, true) = _
    rw [back18 _ _ _ (by omega) hx0 hx1]
    show _ = (x % 4294967296, true)
    rw [Int.emod_eq_of_lt hx0 (by omega)]
theorem loadP_no (m : List Int) (op p : Int) (ho : op = 16 ∨ op = 17 ∨ op = 18) (hok : storeOk m.length op p = false) : loadP m (loadsI op) p = (0, false) := by
  have hth : thereB m.length p (sizeI op) = false := by
    obtain rfl | rfl | rfl := ho <;> simpa [storeOk] using hok
  unfold loadP
  rw [sizeI_loads op ho, hth]
  simp
end Go.Proofs.Ytapgojgcmlnbgaa
