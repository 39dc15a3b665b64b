/- The walks of the reference of mem. -/
import Derived.Test.YtapgojgcmlnbgabKHS925
import Derived.Test.YtapgojgcmlnbgabKHS900
import Derived.Test.YtapgojgcmlnbgabKHS923
import Derived.Deep.AppendLies
import Derived.Laws.AppendOwnNone
set_option linter.unusedSimpArgs false
set_option linter.unusedVariables false

namespace Go.Proofs.Ytapgojgcmlnbgab
open Go.RowKit

def refSizeI (op : Int) (st : Bool) : Int :=
  if st then (if op = 16 then 1 else if op = 17 then 2 else if op = 18 then 4 else 0)
  else (if op = 11 ∨ op = 14 then 1 else if op = 12 ∨ op = 15 then 2 else if op = 13 then 4 else 0)

theorem refSize_any (op : Int) (st : Bool) (w : World) :
    Calls Try.prog 73 #[.int .i64 op, .bool st] w fun e w' => e = .returned (.int .i64 (refSizeI op st)) ∧ w = w' := by
  generalize hx : refSizeI op st = x
  have Hx := Lib.hid hx
  clear hx
  cases st
  all_goals
    go_enter Try.func73, Try.ntmps73
    go_wp2
    all_goals
      go_ret
      refine ⟨ret_int ?_, rfl⟩
      rw [← Hx.out]
      unfold refSizeI
      simp only [beq_iff_eq, beq_eq_false_iff_ne, ne_eq, Bool.false_eq_true, if_true, if_false] at *
      (repeat' split) <;> first | rfl | omega

theorem refThere_any (A : Option Addr) (len cap : Nat) (p many : Int) (w : World) (h0 : 0 ≤ p) (h1 : p ≤ 4294967295) (h2 : 0 ≤ many) (h3 : many ≤ 4294967295) (_hl : len ≤ 9223372036854775807) :
    Calls Try.prog 84 #[.slice A len cap, .int .u32 p, .int .i64 many] w fun e w' => e = .returned (.bool (thereB len p many)) ∧ w = w' := by
  generalize hx : thereB len p many = x
  have Hx := Lib.hid hx
  clear hx
  go_enter Try.func84, Try.ntmps84
  go_wp2
  all_goals
    go_ret
    refine ⟨ret_bool ?_, rfl⟩
    rw [← Hx.out, Bool.eq_iff_iff]
    unfold thereB
    first | (simp; done) | (simp; omega) | (simp [*]; done) | (simp [*]; omega)

end Go.Proofs.Ytapgojgcmlnbgab

/- The walks of the reference of mem: Load. -/
namespace Go.Proofs.Ytapgojgcmlnbgab
open Go.RowKit
set_option maxRecDepth 100000 in
set_option maxHeartbeats 1000000 in
theorem refLoad_any (A : Option Addr) (cap : Nat) (m : List Int) (op p : Int) (w : World) (h0 : 0 ≤ p) (h1 : p ≤ 4294967295) (hl : m.length ≤ 9223372036854775807) (hb : Bytes m) (hA : IntsAt w w.heap.size .u8 A m) :
    Calls Try.prog 69 #[.slice A m.length cap, .int .i64 op, .int .u32 p] w fun e w' => e = .returned (.tuple #[.int .u32 (loadP m op p).1, .bool (loadP m op p).2]) ∧ w = w' := by
  obtain ⟨n, rfl⟩ := Int.eq_ofNat_of_zero_le h0
  by_cases hok : (decide (11 ≤ op) && decide (op ≤ 15) && thereB m.length n (sizeI op)) = true
  · have e : loadP m op n = (loadW m op n, true) := by unfold loadP; rw [if_pos hok]; rfl
    rw [e]
    have hth : thereB m.length n (sizeI op) = true := by simp at hok; exact hok.2
    have ho : 11 ≤ op ∧ op ≤ 15 := by simp at hok; exact hok.1
    clear hok e
    have hin : (n : Int) + sizeI op ≤ m.length := by unfold thereB at hth; simp at hth; exact hth.2
    obtain ⟨ho1, ho2⟩ := ho
    obtain rfl | rfl | rfl | rfl | rfl : op = 11 ∨ op = 12 ∨ op = 13 ∨ op = 14 ∨ op = 15 := by omega
    ·
      have s : refSizeI 11 false = 1 := rfl
      have s' : sizeI 11 = 1 := rfl
      rw [s'] at hin hth
      have hn : (n : Int) + (1 - 1) ≤ 4294967295 := by unfold thereB at hth; simp at hth; omega
      obtain ⟨b, o, rfl, hbB, hc⟩ := hA.at_ (n := n) (by omega)
      have c0 := hc n (by omega)
      have b0 := hb.getD n
      have b1 := hb.getD (n + 1)
      have b2 := hb.getD (n + 2)
      have b3 := hb.getD (n + 3)
      have c1 : 1 > 1 → w.cell? ⟨b, o + (n + 1), none⟩ = some (.int .u8 (m.getD (n + 1) 0)) := fun h => hc (n + 1) (by omega)
      have c2 : 1 > 2 → w.cell? ⟨b, o + (n + 2), none⟩ = some (.int .u8 (m.getD (n + 2) 0)) := fun h => hc (n + 2) (by omega)
      have c3 : 1 > 3 → w.cell? ⟨b, o + (n + 3), none⟩ = some (.int .u8 (m.getD (n + 3) 0)) := fun h => hc (n + 3) (by omega)
      have hL : loadW m 11 n = loadB 11 (m.getD n 0) (m.getD (n + 1) 0) (m.getD (n + 2) 0) (m.getD (n + 3) 0) := rfl
      rw [hL]
      clear hL
      generalize m.getD n 0 = x0 at c0 b0 ⊢
      generalize m.getD (n + 1) 0 = x1 at c1 b1 ⊢
      generalize m.getD (n + 2) 0 = x2 at c2 b2 ⊢
      generalize m.getD (n + 3) 0 = x3 at c3 b3 ⊢
      obtain ⟨p0, q0⟩ := b0
      obtain ⟨p1, q1⟩ := b1
      obtain ⟨p2, q2⟩ := b2
      obtain ⟨p3, q3⟩ := b3
      generalize hX : loadB 11 x0 x1 x2 x3 = X
      have HX := Lib.hid hX
      clear hX
      have hS := Lib.hid s
      clear hc s s'
      skip
      all_goals
        go_enter Try.func69, Try.ntmps69
        go_wp2_with (first
          | (go_at_call 73; refine (refSize_any _ _ _).mono ?_; rintro e w1 ⟨rfl, rfl⟩; rw [hS.out])
          | (go_at_call 84; refine (refThere_any _ _ _ _ 1 _ (by omega) (by omega) (by omega) (by omega) (by omega)).mono ?_; rintro e w1 ⟨rfl, rfl⟩; rw [hth]))
        refine wp_loop_rounds 2 ?_
        repeat any_goals (rw [rounds_succ]; go_wp2_with (go_at_call 59; refine (of_any _ _ (by omega) (by omega)).mono ?_; rintro e w1 ⟨rfl, rfl⟩))
        all_goals
          go_ret2
          refine ⟨?_, rfl⟩
          show Ending.returned (.tuple #[.int .u32 _, .bool true]) = _
          rw [← HX.out]
          apply ret_tup
          skip
          unfold loadB
          simp
          first | done | omega | (split <;> omega)
    ·
      have s : refSizeI 12 false = 2 := rfl
      have s' : sizeI 12 = 2 := rfl
      rw [s'] at hin hth
      have hn : (n : Int) + (2 - 1) ≤ 4294967295 := by unfold thereB at hth; simp at hth; omega
      obtain ⟨b, o, rfl, hbB, hc⟩ := hA.at_ (n := n) (by omega)
      have c0 := hc n (by omega)
      have b0 := hb.getD n
      have b1 := hb.getD (n + 1)
      have b2 := hb.getD (n + 2)
      have b3 := hb.getD (n + 3)
      have c1 : 2 > 1 → w.cell? ⟨b, o + (n + 1), none⟩ = some (.int .u8 (m.getD (n + 1) 0)) := fun h => hc (n + 1) (by omega)
      have c2 : 2 > 2 → w.cell? ⟨b, o + (n + 2), none⟩ = some (.int .u8 (m.getD (n + 2) 0)) := fun h => hc (n + 2) (by omega)
      have c3 : 2 > 3 → w.cell? ⟨b, o + (n + 3), none⟩ = some (.int .u8 (m.getD (n + 3) 0)) := fun h => hc (n + 3) (by omega)
      have hL : loadW m 12 n = loadB 12 (m.getD n 0) (m.getD (n + 1) 0) (m.getD (n + 2) 0) (m.getD (n + 3) 0) := rfl
      rw [hL]
      clear hL
      generalize m.getD n 0 = x0 at c0 b0 ⊢
      generalize m.getD (n + 1) 0 = x1 at c1 b1 ⊢
      generalize m.getD (n + 2) 0 = x2 at c2 b2 ⊢
      generalize m.getD (n + 3) 0 = x3 at c3 b3 ⊢
      obtain ⟨p0, q0⟩ := b0
      obtain ⟨p1, q1⟩ := b1
      obtain ⟨p2, q2⟩ := b2
      obtain ⟨p3, q3⟩ := b3
      generalize hX : loadB 12 x0 x1 x2 x3 = X
      have HX := Lib.hid hX
      clear hX
      have hS := Lib.hid s
      clear hc s s'
      rcases hq : decide (32768 ≤ x0 + x1 * 256) with _ | _
      all_goals
        go_enter Try.func69, Try.ntmps69
        go_wp2_with (first
          | (go_at_call 73; refine (refSize_any _ _ _).mono ?_; rintro e w1 ⟨rfl, rfl⟩; rw [hS.out])
          | (go_at_call 84; refine (refThere_any _ _ _ _ 2 _ (by omega) (by omega) (by omega) (by omega) (by omega)).mono ?_; rintro e w1 ⟨rfl, rfl⟩; rw [hth]))
        refine wp_loop_rounds 3 ?_
        repeat any_goals (rw [rounds_succ]; go_wp2_with (go_at_call 59; refine (of_any _ _ (by omega) (by omega)).mono ?_; rintro e w1 ⟨rfl, rfl⟩))
        all_goals
          go_ret2
          refine ⟨?_, rfl⟩
          show Ending.returned (.tuple #[.int .u32 _, .bool true]) = _
          rw [← HX.out]
          apply ret_tup
          simp only [decide_eq_false_iff_not, decide_eq_true_eq] at hq
          unfold loadB
          simp
          first | done | omega | (split <;> omega)
    ·
      have s : refSizeI 13 false = 4 := rfl
      have s' : sizeI 13 = 4 := rfl
      rw [s'] at hin hth
      have hn : (n : Int) + (4 - 1) ≤ 4294967295 := by unfold thereB at hth; simp at hth; omega
      obtain ⟨b, o, rfl, hbB, hc⟩ := hA.at_ (n := n) (by omega)
      have c0 := hc n (by omega)
      have b0 := hb.getD n
      have b1 := hb.getD (n + 1)
      have b2 := hb.getD (n + 2)
      have b3 := hb.getD (n + 3)
      have c1 : 4 > 1 → w.cell? ⟨b, o + (n + 1), none⟩ = some (.int .u8 (m.getD (n + 1) 0)) := fun h => hc (n + 1) (by omega)
      have c2 : 4 > 2 → w.cell? ⟨b, o + (n + 2), none⟩ = some (.int .u8 (m.getD (n + 2) 0)) := fun h => hc (n + 2) (by omega)
      have c3 : 4 > 3 → w.cell? ⟨b, o + (n + 3), none⟩ = some (.int .u8 (m.getD (n + 3) 0)) := fun h => hc (n + 3) (by omega)
      have hL : loadW m 13 n = loadB 13 (m.getD n 0) (m.getD (n + 1) 0) (m.getD (n + 2) 0) (m.getD (n + 3) 0) := rfl
      rw [hL]
      clear hL
      generalize m.getD n 0 = x0 at c0 b0 ⊢
      generalize m.getD (n + 1) 0 = x1 at c1 b1 ⊢
      generalize m.getD (n + 2) 0 = x2 at c2 b2 ⊢
      generalize m.getD (n + 3) 0 = x3 at c3 b3 ⊢
      obtain ⟨p0, q0⟩ := b0
      obtain ⟨p1, q1⟩ := b1
      obtain ⟨p2, q2⟩ := b2
      obtain ⟨p3, q3⟩ := b3
      generalize hX : loadB 13 x0 x1 x2 x3 = X
      have HX := Lib.hid hX
      clear hX
      have hS := Lib.hid s
      clear hc s s'
      skip
      all_goals
        go_enter Try.func69, Try.ntmps69
        go_wp2_with (first
          | (go_at_call 73; refine (refSize_any _ _ _).mono ?_; rintro e w1 ⟨rfl, rfl⟩; rw [hS.out])
          | (go_at_call 84; refine (refThere_any _ _ _ _ 4 _ (by omega) (by omega) (by omega) (by omega) (by omega)).mono ?_; rintro e w1 ⟨rfl, rfl⟩; rw [hth]))
        refine wp_loop_rounds 5 ?_
        repeat any_goals (rw [rounds_succ]; go_wp2_with (go_at_call 59; refine (of_any _ _ (by omega) (by omega)).mono ?_; rintro e w1 ⟨rfl, rfl⟩))
        all_goals
          go_ret2
          refine ⟨?_, rfl⟩
          show Ending.returned (.tuple #[.int .u32 _, .bool true]) = _
          rw [← HX.out]
          apply ret_tup
          skip
          unfold loadB
          simp
          first | done | omega | (split <;> omega)
    ·
      have s : refSizeI 14 false = 1 := rfl
      have s' : sizeI 14 = 1 := rfl
      rw [s'] at hin hth
      have hn : (n : Int) + (1 - 1) ≤ 4294967295 := by unfold thereB at hth; simp at hth; omega
      obtain ⟨b, o, rfl, hbB, hc⟩ := hA.at_ (n := n) (by omega)
      have c0 := hc n (by omega)
      have b0 := hb.getD n
      have b1 := hb.getD (n + 1)
      have b2 := hb.getD (n + 2)
      have b3 := hb.getD (n + 3)
      have c1 : 1 > 1 → w.cell? ⟨b, o + (n + 1), none⟩ = some (.int .u8 (m.getD (n + 1) 0)) := fun h => hc (n + 1) (by omega)
      have c2 : 1 > 2 → w.cell? ⟨b, o + (n + 2), none⟩ = some (.int .u8 (m.getD (n + 2) 0)) := fun h => hc (n + 2) (by omega)
      have c3 : 1 > 3 → w.cell? ⟨b, o + (n + 3), none⟩ = some (.int .u8 (m.getD (n + 3) 0)) := fun h => hc (n + 3) (by omega)
      have hL : loadW m 14 n = loadB 14 (m.getD n 0) (m.getD (n + 1) 0) (m.getD (n + 2) 0) (m.getD (n + 3) 0) := rfl
      rw [hL]
      clear hL
      generalize m.getD n 0 = x0 at c0 b0 ⊢
      generalize m.getD (n + 1) 0 = x1 at c1 b1 ⊢
      generalize m.getD (n + 2) 0 = x2 at c2 b2 ⊢
      generalize m.getD (n + 3) 0 = x3 at c3 b3 ⊢
      obtain ⟨p0, q0⟩ := b0
      obtain ⟨p1, q1⟩ := b1
      obtain ⟨p2, q2⟩ := b2
      obtain ⟨p3, q3⟩ := b3
      generalize hX : loadB 14 x0 x1 x2 x3 = X
      have HX := Lib.hid hX
      clear hX
      have hS := Lib.hid s
      clear hc s s'
      skip
      all_goals
        go_enter Try.func69, Try.ntmps69
        go_wp2_with (first
          | (go_at_call 73; refine (refSize_any _ _ _).mono ?_; rintro e w1 ⟨rfl, rfl⟩; rw [hS.out])
          | (go_at_call 84; refine (refThere_any _ _ _ _ 1 _ (by omega) (by omega) (by omega) (by omega) (by omega)).mono ?_; rintro e w1 ⟨rfl, rfl⟩; rw [hth]))
        refine wp_loop_rounds 2 ?_
        repeat any_goals (rw [rounds_succ]; go_wp2_with (go_at_call 59; refine (of_any _ _ (by omega) (by omega)).mono ?_; rintro e w1 ⟨rfl, rfl⟩))
        all_goals
          go_ret2
          refine ⟨?_, rfl⟩
          show Ending.returned (.tuple #[.int .u32 _, .bool true]) = _
          rw [← HX.out]
          apply ret_tup
          skip
          unfold loadB
          simp
          first | done | omega | (split <;> omega)
    ·
      have s : refSizeI 15 false = 2 := rfl
      have s' : sizeI 15 = 2 := rfl
      rw [s'] at hin hth
      have hn : (n : Int) + (2 - 1) ≤ 4294967295 := by unfold thereB at hth; simp at hth; omega
      obtain ⟨b, o, rfl, hbB, hc⟩ := hA.at_ (n := n) (by omega)
      have c0 := hc n (by omega)
      have b0 := hb.getD n
      have b1 := hb.getD (n + 1)
      have b2 := hb.getD (n + 2)
      have b3 := hb.getD (n + 3)
      have c1 : 2 > 1 → w.cell? ⟨b, o + (n + 1), none⟩ = some (.int .u8 (m.getD (n + 1) 0)) := fun h => hc (n + 1) (by omega)
      have c2 : 2 > 2 → w.cell? ⟨b, o + (n + 2), none⟩ = some (.int .u8 (m.getD (n + 2) 0)) := fun h => hc (n + 2) (by omega)
      have c3 : 2 > 3 → w.cell? ⟨b, o + (n + 3), none⟩ = some (.int .u8 (m.getD (n + 3) 0)) := fun h => hc (n + 3) (by omega)
      have hL : loadW m 15 n = loadB 15 (m.getD n 0) (m.getD (n + 1) 0) (m.getD (n + 2) 0) (m.getD (n + 3) 0) := rfl
      rw [hL]
      clear hL
      generalize m.getD n 0 = x0 at c0 b0 ⊢
      generalize m.getD (n + 1) 0 = x1 at c1 b1 ⊢
      generalize m.getD (n + 2) 0 = x2 at c2 b2 ⊢
      generalize m.getD (n + 3) 0 = x3 at c3 b3 ⊢
      obtain ⟨p0, q0⟩ := b0
      obtain ⟨p1, q1⟩ := b1
      obtain ⟨p2, q2⟩ := b2
      obtain ⟨p3, q3⟩ := b3
      generalize hX : loadB 15 x0 x1 x2 x3 = X
      have HX := Lib.hid hX
      clear hX
      have hS := Lib.hid s
      clear hc s s'
      skip
      all_goals
        go_enter Try.func69, Try.ntmps69
        go_wp2_with (first
          | (go_at_call 73; refine (refSize_any _ _ _).mono ?_; rintro e w1 ⟨rfl, rfl⟩; rw [hS.out])
          | (go_at_call 84; refine (refThere_any _ _ _ _ 2 _ (by omega) (by omega) (by omega) (by omega) (by omega)).mono ?_; rintro e w1 ⟨rfl, rfl⟩; rw [hth]))
        refine wp_loop_rounds 3 ?_
        repeat any_goals (rw [rounds_succ]; go_wp2_with (go_at_call 59; refine (of_any _ _ (by omega) (by omega)).mono ?_; rintro e w1 ⟨rfl, rfl⟩))
        all_goals
          go_ret2
          refine ⟨?_, rfl⟩
          show Ending.returned (.tuple #[.int .u32 _, .bool true]) = _
          rw [← HX.out]
          apply ret_tup
          skip
          unfold loadB
          simp
          first | done | omega | (split <;> omega)
  · have e : loadP m op n = (0, false) := by unfold loadP; rw [if_neg hok]
    rw [e]
    clear e
    have hth : thereB m.length n (refSizeI op false) = false := by
      by_cases h : 11 ≤ op ∧ op ≤ 15
      · have hs : refSizeI op false = sizeI op := by
          unfold refSizeI sizeI
          simp only [Bool.false_eq_true, if_false]
          (repeat' split) <;> first | rfl | omega
        rw [hs]
        simpa [h.1, h.2] using hok
      · have : refSizeI op false = 0 := by
          unfold refSizeI
          simp only [Bool.false_eq_true, if_false]
          (repeat' split) <;> omega
        rw [this]
        rfl
    have s0 : 0 ≤ refSizeI op false := by unfold refSizeI; (repeat' split) <;> omega
    have s1 : refSizeI op false ≤ 4 := by unfold refSizeI; (repeat' split) <;> omega
    obtain ⟨sz, hsz⟩ : ∃ z, refSizeI op false = z := ⟨_, rfl⟩
    rw [hsz] at hth s0 s1
    have Hsz := Lib.hid hsz
    clear hsz hok
    go_enter Try.func69, Try.ntmps69
    go_wp2_with (first
      | (go_at_call 73; refine (refSize_any _ _ _).mono ?_; rintro e w1 ⟨rfl, rfl⟩; rw [Hsz.out])
      | (go_at_call 84; refine (refThere_any _ _ _ _ sz _ (by omega) (by omega) (by omega) (by omega) (by omega)).mono ?_; rintro e w1 ⟨rfl, rfl⟩; rw [hth]))
    go_ret2
    exact ⟨rfl, rfl⟩
end Go.Proofs.Ytapgojgcmlnbgab

/- The walks of the reference of mem: Store. -/
namespace Go.Proofs.Ytapgojgcmlnbgab
open Go.RowKit

theorem refStore_info : (Try.prog.info? 5).map (fun i => (i.zero, i.size, i.bytes)) = some (some (.int .u8 0), 1, 1) := by kernel_rfl
set_option maxRecDepth 100000 in
set_option maxHeartbeats 1000000 in
theorem refStore_ok (A : Option Addr) (cap : Nat) (m : List Int) (op p x : Int) (w : World) (h0 : 0 ≤ p) (h1 : p ≤ 4294967295) (hl : m.length ≤ 140737488351232) (hx0 : 0 ≤ x) (hx1 : x ≤ 4294967295)
    (hA : IntsAt w w.heap.size .u8 A m) (hok : storeOk m.length op p = true) :
    Calls Try.prog 72 #[.slice A m.length cap, .int .i64 op, .int .u32 p, .int .u32 x] w fun e w' => ∃ v, e = .returned (.tuple #[v, .bool true]) ∧ Below w.heap.size w w' ∧
      w'.ownsRow w.heap.size 5 1 v m.length ((putW m op p.toNat x).map (.int .u8)) := by
  obtain ⟨n, rfl⟩ := Int.eq_ofNat_of_zero_le h0
  have hth : thereB m.length n (sizeI op) = true := by unfold storeOk at hok; simp at hok; exact hok.2
  have ho : 16 ≤ op ∧ op ≤ 18 := by unfold storeOk at hok; simp at hok; exact hok.1
  clear hok
  have hin : (n : Int) + sizeI op ≤ m.length := by unfold thereB at hth; simp at hth; exact hth.2
  obtain ⟨ho1, ho2⟩ := ho
  obtain rfl | rfl | rfl : op = 16 ∨ op = 17 ∨ op = 18 := by omega
  ·
    have s : refSizeI 16 true = 1 := rfl
    have s' : sizeI 16 = 1 := rfl
    rw [s'] at hin hth
    have hn : (n : Int) + (1 - 1) ≤ 4294967295 := by unfold thereB at hth; simp at hth; omega
    have hne : m ≠ [] := by intro e; subst e; simp at hin; omega
    obtain ⟨b0, o0, rfl, hbB, _⟩ := hA hne
    obtain ⟨i0, hi, hz0, hz1, hz2⟩ := info_parts refStore_info
    have Hc := Lib.hid (hA.cells _ rfl)
    have hown0 := World.ownsRow_lit (base := w.heap.size) (e := 5) (size := 1) w #[] 0 (Nat.le_refl _) (by unfold maxLen; omega) rfl
    have hS := Lib.hid s
    clear s s' hA
    go_enter Try.func72, Try.ntmps72
    go_wp2_with (first
      | (go_at_call 73; refine (refSize_any _ _ _).mono ?_; rintro e w1 ⟨rfl, rfl⟩; rw [hS.out])
      | (go_at_call 84; refine (refThere_any _ _ _ _ 1 _ (by omega) (by omega) (by omega) (by omega) (by omega)).mono ?_; rintro e w1 ⟨rfl, rfl⟩; rw [hth])
      | (at_builtin; refine wpList_append_own _ rfl (.tmp 21) (.tmp 22) 32 rfl w.heap.size 5 i0 _ 1 1 Try.underlying32 hi hz0 hz1 hz2 rfl (by decide) _ 0 [] rfl hown0 ⟨b0, o0, none⟩ m.length cap (m.map (.int .u8)) rfl (by simp) (fun j u hu => (World.cell?_alloc_lt _ _ _ (World.block_lt_of_cell? _ _ (Hc.out j u hu))).trans (Hc.out j u hu)) (ints_oneCell _ _) (by unfold maxLen; omega) (by omega) (by simp) ?_; intro v1 w1 hown1 hg1 hat1))
    have hown2 : w1.ownsRow w.heap.size 5 1 v1 m.length (m.map (.int .u8)) := by simpa using hown1
    have hb1 : Below w.heap.size w w1 := ((Below.refl _ _).alloc (Nat.le_refl _) _).grown hg1 (by simp) (fun k hk => by cases hk; exact Nat.le_refl _)
    clear hown1 hg1 hat1
    obtain ⟨g, c1, hv, hgb, hgl⟩ := hown2.form (by omega)
    rw [hv] at hown2 ⊢
    clear hv
    have hc := fun j (hj : j < m.length) => (hown2.cellAt j (by omega)).trans (show (m.map (Value.int .u8))[j]? = some (.int .u8 (m.getD j 0)) by simp [List.getD, hj])
    have hfz := hown2.frozenAt
    have c0 := hc n (by omega)
    have d1 : 1 > 1 → w1.cell? ⟨g, n + 1, none⟩ = some (.int .u8 (m.getD (n + 1) 0)) := fun h => hc (n + 1) (by omega)
    have d2 : 1 > 2 → w1.cell? ⟨g, n + 2, none⟩ = some (.int .u8 (m.getD (n + 2) 0)) := fun h => hc (n + 2) (by omega)
    have d3 : 1 > 3 → w1.cell? ⟨g, n + 3, none⟩ = some (.int .u8 (m.getD (n + 3) 0)) := fun h => hc (n + 3) (by omega)
    have Hown := Lib.hid hown2
    clear hc hown2
    generalize m.getD n 0 = x0 at c0
    generalize m.getD (n + 1) 0 = x1 at d1
    generalize m.getD (n + 2) 0 = x2 at d2
    generalize m.getD (n + 3) 0 = x3 at d3
    refine wp_loop_rounds 2 ?_
    repeat any_goals (rw [rounds_succ]; go_wp2)
    all_goals
      go_ret2
      have e1 := Hown.out.stored n (.int .u8 (x % 256)); exact ⟨_, rfl, hb1.setCell hgb _, by simpa [putW, put1, List.map_set] using e1.1⟩
  ·
    have s : refSizeI 17 true = 2 := rfl
    have s' : sizeI 17 = 2 := rfl
    rw [s'] at hin hth
    have hn : (n : Int) + (2 - 1) ≤ 4294967295 := by unfold thereB at hth; simp at hth; omega
    have hne : m ≠ [] := by intro e; subst e; simp at hin; omega
    obtain ⟨b0, o0, rfl, hbB, _⟩ := hA hne
    obtain ⟨i0, hi, hz0, hz1, hz2⟩ := info_parts refStore_info
    have Hc := Lib.hid (hA.cells _ rfl)
    have hown0 := World.ownsRow_lit (base := w.heap.size) (e := 5) (size := 1) w #[] 0 (Nat.le_refl _) (by unfold maxLen; omega) rfl
    have hS := Lib.hid s
    clear s s' hA
    go_enter Try.func72, Try.ntmps72
    go_wp2_with (first
      | (go_at_call 73; refine (refSize_any _ _ _).mono ?_; rintro e w1 ⟨rfl, rfl⟩; rw [hS.out])
      | (go_at_call 84; refine (refThere_any _ _ _ _ 2 _ (by omega) (by omega) (by omega) (by omega) (by omega)).mono ?_; rintro e w1 ⟨rfl, rfl⟩; rw [hth])
      | (at_builtin; refine wpList_append_own _ rfl (.tmp 21) (.tmp 22) 32 rfl w.heap.size 5 i0 _ 1 1 Try.underlying32 hi hz0 hz1 hz2 rfl (by decide) _ 0 [] rfl hown0 ⟨b0, o0, none⟩ m.length cap (m.map (.int .u8)) rfl (by simp) (fun j u hu => (World.cell?_alloc_lt _ _ _ (World.block_lt_of_cell? _ _ (Hc.out j u hu))).trans (Hc.out j u hu)) (ints_oneCell _ _) (by unfold maxLen; omega) (by omega) (by simp) ?_; intro v1 w1 hown1 hg1 hat1))
    have hown2 : w1.ownsRow w.heap.size 5 1 v1 m.length (m.map (.int .u8)) := by simpa using hown1
    have hb1 : Below w.heap.size w w1 := ((Below.refl _ _).alloc (Nat.le_refl _) _).grown hg1 (by simp) (fun k hk => by cases hk; exact Nat.le_refl _)
    clear hown1 hg1 hat1
    obtain ⟨g, c1, hv, hgb, hgl⟩ := hown2.form (by omega)
    rw [hv] at hown2 ⊢
    clear hv
    have hc := fun j (hj : j < m.length) => (hown2.cellAt j (by omega)).trans (show (m.map (Value.int .u8))[j]? = some (.int .u8 (m.getD j 0)) by simp [List.getD, hj])
    have hfz := hown2.frozenAt
    have c0 := hc n (by omega)
    have d1 : 2 > 1 → w1.cell? ⟨g, n + 1, none⟩ = some (.int .u8 (m.getD (n + 1) 0)) := fun h => hc (n + 1) (by omega)
    have d2 : 2 > 2 → w1.cell? ⟨g, n + 2, none⟩ = some (.int .u8 (m.getD (n + 2) 0)) := fun h => hc (n + 2) (by omega)
    have d3 : 2 > 3 → w1.cell? ⟨g, n + 3, none⟩ = some (.int .u8 (m.getD (n + 3) 0)) := fun h => hc (n + 3) (by omega)
    have Hown := Lib.hid hown2
    clear hc hown2
    generalize m.getD n 0 = x0 at c0
    generalize m.getD (n + 1) 0 = x1 at d1
    generalize m.getD (n + 2) 0 = x2 at d2
    generalize m.getD (n + 3) 0 = x3 at d3
    refine wp_loop_rounds 3 ?_
    repeat any_goals (rw [rounds_succ]; go_wp2)
    all_goals
      go_ret2
      have e1 := Hown.out.stored n (.int .u8 (x % 256)); have e2 := e1.1.stored (n + 1) (.int .u8 (x / 256 % 256)); exact ⟨_, rfl, (hb1.setCell hgb _).setCell hgb _, by simpa [putW, put2, put1, List.map_set] using e2.1⟩
  ·
    have s : refSizeI 18 true = 4 := rfl
    have s' : sizeI 18 = 4 := rfl
    rw [s'] at hin hth
    have hn : (n : Int) + (4 - 1) ≤ 4294967295 := by unfold thereB at hth; simp at hth; omega
    have hne : m ≠ [] := by intro e; subst e; simp at hin; omega
    obtain ⟨b0, o0, rfl, hbB, _⟩ := hA hne
    obtain ⟨i0, hi, hz0, hz1, hz2⟩ := info_parts refStore_info
    have Hc := Lib.hid (hA.cells _ rfl)
    have hown0 := World.ownsRow_lit (base := w.heap.size) (e := 5) (size := 1) w #[] 0 (Nat.le_refl _) (by unfold maxLen; omega) rfl
    have hS := Lib.hid s
    clear s s' hA
    go_enter Try.func72, Try.ntmps72
    go_wp2_with (first
      | (go_at_call 73; refine (refSize_any _ _ _).mono ?_; rintro e w1 ⟨rfl, rfl⟩; rw [hS.out])
      | (go_at_call 84; refine (refThere_any _ _ _ _ 4 _ (by omega) (by omega) (by omega) (by omega) (by omega)).mono ?_; rintro e w1 ⟨rfl, rfl⟩; rw [hth])
      | (at_builtin; refine wpList_append_own _ rfl (.tmp 21) (.tmp 22) 32 rfl w.heap.size 5 i0 _ 1 1 Try.underlying32 hi hz0 hz1 hz2 rfl (by decide) _ 0 [] rfl hown0 ⟨b0, o0, none⟩ m.length cap (m.map (.int .u8)) rfl (by simp) (fun j u hu => (World.cell?_alloc_lt _ _ _ (World.block_lt_of_cell? _ _ (Hc.out j u hu))).trans (Hc.out j u hu)) (ints_oneCell _ _) (by unfold maxLen; omega) (by omega) (by simp) ?_; intro v1 w1 hown1 hg1 hat1))
    have hown2 : w1.ownsRow w.heap.size 5 1 v1 m.length (m.map (.int .u8)) := by simpa using hown1
    have hb1 : Below w.heap.size w w1 := ((Below.refl _ _).alloc (Nat.le_refl _) _).grown hg1 (by simp) (fun k hk => by cases hk; exact Nat.le_refl _)
    clear hown1 hg1 hat1
    obtain ⟨g, c1, hv, hgb, hgl⟩ := hown2.form (by omega)
    rw [hv] at hown2 ⊢
    clear hv
    have hc := fun j (hj : j < m.length) => (hown2.cellAt j (by omega)).trans (show (m.map (Value.int .u8))[j]? = some (.int .u8 (m.getD j 0)) by simp [List.getD, hj])
    have hfz := hown2.frozenAt
    have c0 := hc n (by omega)
    have d1 : 4 > 1 → w1.cell? ⟨g, n + 1, none⟩ = some (.int .u8 (m.getD (n + 1) 0)) := fun h => hc (n + 1) (by omega)
    have d2 : 4 > 2 → w1.cell? ⟨g, n + 2, none⟩ = some (.int .u8 (m.getD (n + 2) 0)) := fun h => hc (n + 2) (by omega)
    have d3 : 4 > 3 → w1.cell? ⟨g, n + 3, none⟩ = some (.int .u8 (m.getD (n + 3) 0)) := fun h => hc (n + 3) (by omega)
    have Hown := Lib.hid hown2
    clear hc hown2
    generalize m.getD n 0 = x0 at c0
    generalize m.getD (n + 1) 0 = x1 at d1
    generalize m.getD (n + 2) 0 = x2 at d2
    generalize m.getD (n + 3) 0 = x3 at d3
    refine wp_loop_rounds 5 ?_
    repeat any_goals (rw [rounds_succ]; go_wp2)
    all_goals
      go_ret2
      have e1 := Hown.out.stored n (.int .u8 (x % 256)); have e2 := e1.1.stored (n + 1) (.int .u8 (x / 256 % 256)); have e3 := e2.1.stored (n + 2) (.int .u8 (x / 256 / 256 % 256)); have e4 := e3.1.stored (n + 3) (.int .u8 (x / 256 / 256 / 256 % 256)); have ex : x / 16777216 % 256 = x / 256 / 256 / 256 % 256 := (by omega); have ey : x / 65536 % 256 = x / 256 / 256 % 256 := (by omega); exact ⟨_, rfl, (((hb1.setCell hgb _).setCell hgb _).setCell hgb _).setCell hgb _, by unfold putW; simp only [show ¬((18 : Int) = 16) by omega, show ¬((18 : Int) = 17) by omega, if_false]; unfold put4; rw [ex, ey]; simpa [put2, put1, List.map_set] using e4.1⟩

set_option maxRecDepth 100000 in
set_option maxHeartbeats 1000000 in
theorem refStore_not (A : Option Addr) (len cap : Nat) (op p x : Int) (w : World) (h0 : 0 ≤ p) (h1 : p ≤ 4294967295) (hl : len ≤ 140737488351232) (hok : storeOk len op p = false) :
    Calls Try.prog 72 #[.slice A len cap, .int .i64 op, .int .u32 p, .int .u32 x] w fun e w' => e = .returned (.tuple #[.slice none 0 0, .bool false]) ∧ w = w' := by
  have hth : thereB len p (refSizeI op true) = false := by
    by_cases h : 16 ≤ op ∧ op ≤ 18
    · have hs : refSizeI op true = sizeI op := by
        unfold refSizeI sizeI
        simp only [if_true]
        (repeat' split) <;> first | rfl | omega
      rw [hs]
      unfold storeOk at hok
      simpa [h.1, h.2] using hok
    · have : refSizeI op true = 0 := by
        unfold refSizeI
        simp only [if_true]
        (repeat' split) <;> omega
      rw [this]
      rfl
  have s0 : 0 ≤ refSizeI op true := by unfold refSizeI; (repeat' split) <;> omega
  have s1 : refSizeI op true ≤ 4 := by unfold refSizeI; (repeat' split) <;> omega
  obtain ⟨sz, hsz⟩ : ∃ z, refSizeI op true = z := ⟨_, rfl⟩
  rw [hsz] at hth s0 s1
  have Hsz := Lib.hid hsz
  clear hsz hok
  go_enter Try.func72, Try.ntmps72
  go_wp2_with (first
    | (go_at_call 73; refine (refSize_any _ _ _).mono ?_; rintro e w1 ⟨rfl, rfl⟩; rw [Hsz.out])
    | (go_at_call 84; refine (refThere_any _ _ _ _ sz _ (by omega) (by omega) (by omega) (by omega) (by omega)).mono ?_; rintro e w1 ⟨rfl, rfl⟩; rw [hth]))
  go_ret2
  exact ⟨rfl, rfl⟩
end Go.Proofs.Ytapgojgcmlnbgab
