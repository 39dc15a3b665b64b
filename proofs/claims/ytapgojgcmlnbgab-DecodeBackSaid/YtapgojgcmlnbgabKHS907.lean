/- The walks of package mem. -/
import Derived.Test.YtapgojgcmlnbgabProg
import Derived.Test.YtapgojgcmlnbgabKHS905
import Derived.Test.YtapgojgcmlnbgabKHS900
import Derived.WalkLawsBesides
import Derived.WalkSpells
import Derived.Lib.Hide
set_option linter.unusedSimpArgs false
set_option linter.unusedVariables false

namespace Go.Proofs.Ytapgojgcmlnbgab
open Go.RowKit

theorem there_any (A : Option Addr) (len cap : Nat) (p many : Int) (w : World) (h0 : 0 ≤ p) (h1 : p ≤ 4294967295) (h2 : 0 ≤ many) (h3 : many ≤ 4294967295) (hl : len ≤ 9223372036854775807) :
    Calls Try.prog 87 #[.slice A len cap, .int .u32 p, .int .u32 many] w fun e w' => e = .returned (.bool (thereB len p many)) ∧ w = w' := by
  generalize hx : thereB len p many = x
  have Hx := Lib.hid hx
  clear hx
  go_enter Try.func87, Try.ntmps87
  go_wp2
  all_goals
    go_ret
    refine ⟨ret_bool ?_, rfl⟩
    rw [← Hx.out, Bool.eq_iff_iff]
    unfold thereB
    first | (simp; done) | (simp; omega) | (simp [*]; done) | (simp [*]; omega)

theorem size_any (op : Int) (w : World) :
    Calls Try.prog 91 #[.int .i64 op] w fun e w' => e = .returned (.int .u32 (sizeI op)) ∧ w = w' := by
  generalize hx : sizeI op = x
  have Hx := Lib.hid hx
  clear hx
  go_enter Try.func91, Try.ntmps91
  go_wp2
  all_goals
    go_ret
    refine ⟨ret_int ?_, rfl⟩
    rw [← Hx.out]
    unfold sizeI
    simp only [beq_iff_eq, beq_eq_false_iff_ne, ne_eq] at *
    (repeat' split) <;> first | rfl | omega

set_option maxRecDepth 100000 in
set_option maxHeartbeats 1000000 in
theorem load_any (A : Option Addr) (cap : Nat) (m : List Int) (op p : Int) (w : World) (h0 : 0 ≤ p) (h1 : p ≤ 4294967295) (hl : m.length ≤ 9223372036854775807) (hb : Bytes m) (hA : IntsAt w w.heap.size .u8 A m) :
    Calls Try.prog 85 #[.slice A m.length cap, .int .i64 op, .int .u32 p] w fun e w' => e = .returned (.tuple #[.int .u32 (loadP m op p).1, .bool (loadP m op p).2]) ∧ w = w' := by
  obtain ⟨n, rfl⟩ := Int.eq_ofNat_of_zero_le h0
  by_cases hok : (decide (11 ≤ op) && decide (op ≤ 15) && thereB m.length n (sizeI op)) = true
  · have e : loadP m op n = (loadW m op n, true) := by unfold loadP; rw [if_pos hok]; rfl
    rw [e]
    have hth : thereB m.length n (sizeI op) = true := by simp at hok; exact hok.2
    have ho : 11 ≤ op ∧ op ≤ 15 := by simp at hok; exact hok.1
    clear hok e
    have hin : (n : Int) + sizeI op ≤ m.length := by unfold thereB at hth; simp at hth; exact hth.2
    obtain ⟨ho1, ho2⟩ := ho
    obtain rfl | rfl | rfl | rfl | rfl : op = 11 ∨ op = 12 ∨ op = 13 ∨ op = 14 ∨ op = 15 := by omega
    ·
      have s : sizeI 11 = 1 := rfl
      rw [s] at hin hth
      have hn : (n : Int) + (1 - 1) ≤ 4294967295 := by unfold thereB at hth; simp at hth; omega
      obtain ⟨b, o, rfl, hbB, hc⟩ := hA.at_ (n := n) (by omega)
      have c0 := hc n (by omega)
      have b0 := hb.getD n
      have b1 := hb.getD (n + 1)
      have b2 := hb.getD (n + 2)
      have b3 := hb.getD (n + 3)
      have c1 : 1 > 1 → w.cell? ⟨b, o + (n + 1), none⟩ = some (.int .u8 (m.getD (n + 1) 0)) := fun h => hc (n + 1) (by omega)
      have c2 : 1 > 2 → w.cell? ⟨b, o + (n + 2), none⟩ = some (.int .u8 (m.getD (n + 2) 0)) := fun h => hc (n + 2) (by omega)
      have c3 : 1 > 3 → w.cell? ⟨b, o + (n + 3), none⟩ = some (.int .u8 (m.getD (n + 3) 0)) := fun h => hc (n + 3) (by omega)
      have hL : loadW m 11 n = loadB 11 (m.getD n 0) (m.getD (n + 1) 0) (m.getD (n + 2) 0) (m.getD (n + 3) 0) := rfl
      rw [hL]
      clear hL
      generalize m.getD n 0 = x0 at c0 b0 ⊢
      generalize m.getD (n + 1) 0 = x1 at c1 b1 ⊢
      generalize m.getD (n + 2) 0 = x2 at c2 b2 ⊢
      generalize m.getD (n + 3) 0 = x3 at c3 b3 ⊢
      obtain ⟨p0, q0⟩ := b0
      obtain ⟨p1, q1⟩ := b1
      obtain ⟨p2, q2⟩ := b2
      obtain ⟨p3, q3⟩ := b3
      generalize hX : loadB 11 x0 x1 x2 x3 = X
      have HX := Lib.hid hX
      clear hX
      have hS := Lib.hid s
      clear hc s
      go_enter Try.func85, Try.ntmps85
      go_wp2_with (first
        | (go_at_call 91; refine (size_any _ _).mono ?_; rintro e w1 ⟨rfl, rfl⟩; rw [hS.out])
        | (go_at_call 87; refine (there_any _ _ _ _ 1 _ (by omega) (by omega) (by omega) (by omega) (by omega)).mono ?_; rintro e w1 ⟨rfl, rfl⟩; rw [hth]))
      refine wp_loop_rounds 2 ?_
      repeat any_goals (rw [rounds_succ]; go_wp2)
      all_goals
        go_ret2
        refine ⟨?_, rfl⟩
        show Ending.returned (.tuple #[.int .u32 _, .bool true]) = _
        rw [← HX.out]
        rw [or0 x0 p0 q0, wrap_i8]; exact ret_tup (by unfold loadB; simp only [if_pos]; split <;> omega)
    ·
      have s : sizeI 12 = 2 := rfl
      rw [s] at hin hth
      have hn : (n : Int) + (2 - 1) ≤ 4294967295 := by unfold thereB at hth; simp at hth; omega
      obtain ⟨b, o, rfl, hbB, hc⟩ := hA.at_ (n := n) (by omega)
      have c0 := hc n (by omega)
      have b0 := hb.getD n
      have b1 := hb.getD (n + 1)
      have b2 := hb.getD (n + 2)
      have b3 := hb.getD (n + 3)
      have c1 : 2 > 1 → w.cell? ⟨b, o + (n + 1), none⟩ = some (.int .u8 (m.getD (n + 1) 0)) := fun h => hc (n + 1) (by omega)
      have c2 : 2 > 2 → w.cell? ⟨b, o + (n + 2), none⟩ = some (.int .u8 (m.getD (n + 2) 0)) := fun h => hc (n + 2) (by omega)
      have c3 : 2 > 3 → w.cell? ⟨b, o + (n + 3), none⟩ = some (.int .u8 (m.getD (n + 3) 0)) := fun h => hc (n + 3) (by omega)
      have hL : loadW m 12 n = loadB 12 (m.getD n 0) (m.getD (n + 1) 0) (m.getD (n + 2) 0) (m.getD (n + 3) 0) := rfl
      rw [hL]
      clear hL
      generalize m.getD n 0 = x0 at c0 b0 ⊢
      generalize m.getD (n + 1) 0 = x1 at c1 b1 ⊢
      generalize m.getD (n + 2) 0 = x2 at c2 b2 ⊢
      generalize m.getD (n + 3) 0 = x3 at c3 b3 ⊢
      obtain ⟨p0, q0⟩ := b0
      obtain ⟨p1, q1⟩ := b1
      obtain ⟨p2, q2⟩ := b2
      obtain ⟨p3, q3⟩ := b3
      generalize hX : loadB 12 x0 x1 x2 x3 = X
      have HX := Lib.hid hX
      clear hX
      have hS := Lib.hid s
      clear hc s
      go_enter Try.func85, Try.ntmps85
      go_wp2_with (first
        | (go_at_call 91; refine (size_any _ _).mono ?_; rintro e w1 ⟨rfl, rfl⟩; rw [hS.out])
        | (go_at_call 87; refine (there_any _ _ _ _ 2 _ (by omega) (by omega) (by omega) (by omega) (by omega)).mono ?_; rintro e w1 ⟨rfl, rfl⟩; rw [hth]))
      refine wp_loop_rounds 3 ?_
      repeat any_goals (rw [rounds_succ]; go_wp2)
      all_goals
        go_ret2
        refine ⟨?_, rfl⟩
        show Ending.returned (.tuple #[.int .u32 _, .bool true]) = _
        rw [← HX.out]
        rw [or0 x0 p0 q0, or8 x0 x1 p0 (by omega) p1 q1, wrap_i16]; exact ret_tup (by unfold loadB; simp; split <;> omega)
    ·
      have s : sizeI 13 = 4 := rfl
      rw [s] at hin hth
      have hn : (n : Int) + (4 - 1) ≤ 4294967295 := by unfold thereB at hth; simp at hth; omega
      obtain ⟨b, o, rfl, hbB, hc⟩ := hA.at_ (n := n) (by omega)
      have c0 := hc n (by omega)
      have b0 := hb.getD n
      have b1 := hb.getD (n + 1)
      have b2 := hb.getD (n + 2)
      have b3 := hb.getD (n + 3)
      have c1 : 4 > 1 → w.cell? ⟨b, o + (n + 1), none⟩ = some (.int .u8 (m.getD (n + 1) 0)) := fun h => hc (n + 1) (by omega)
      have c2 : 4 > 2 → w.cell? ⟨b, o + (n + 2), none⟩ = some (.int .u8 (m.getD (n + 2) 0)) := fun h => hc (n + 2) (by omega)
      have c3 : 4 > 3 → w.cell? ⟨b, o + (n + 3), none⟩ = some (.int .u8 (m.getD (n + 3) 0)) := fun h => hc (n + 3) (by omega)
      have hL : loadW m 13 n = loadB 13 (m.getD n 0) (m.getD (n + 1) 0) (m.getD (n + 2) 0) (m.getD (n + 3) 0) := rfl
      rw [hL]
      clear hL
      generalize m.getD n 0 = x0 at c0 b0 ⊢
      generalize m.getD (n + 1) 0 = x1 at c1 b1 ⊢
      generalize m.getD (n + 2) 0 = x2 at c2 b2 ⊢
      generalize m.getD (n + 3) 0 = x3 at c3 b3 ⊢
      obtain ⟨p0, q0⟩ := b0
      obtain ⟨p1, q1⟩ := b1
      obtain ⟨p2, q2⟩ := b2
      obtain ⟨p3, q3⟩ := b3
      generalize hX : loadB 13 x0 x1 x2 x3 = X
      have HX := Lib.hid hX
      clear hX
      have hS := Lib.hid s
      clear hc s
      go_enter Try.func85, Try.ntmps85
      go_wp2_with (first
        | (go_at_call 91; refine (size_any _ _).mono ?_; rintro e w1 ⟨rfl, rfl⟩; rw [hS.out])
        | (go_at_call 87; refine (there_any _ _ _ _ 4 _ (by omega) (by omega) (by omega) (by omega) (by omega)).mono ?_; rintro e w1 ⟨rfl, rfl⟩; rw [hth]))
      refine wp_loop_rounds 5 ?_
      repeat any_goals (rw [rounds_succ]; go_wp2)
      all_goals
        go_ret2
        refine ⟨?_, rfl⟩
        show Ending.returned (.tuple #[.int .u32 _, .bool true]) = _
        rw [← HX.out]
        rw [or0 x0 p0 q0, or8 x0 x1 p0 (by omega) p1 q1, or16 _ x2 (by omega) (by omega) p2 q2, or24 _ x3 (by omega) (by omega) p3 q3]; exact ret_tup rfl
    ·
      have s : sizeI 14 = 1 := rfl
      rw [s] at hin hth
      have hn : (n : Int) + (1 - 1) ≤ 4294967295 := by unfold thereB at hth; simp at hth; omega
      obtain ⟨b, o, rfl, hbB, hc⟩ := hA.at_ (n := n) (by omega)
      have c0 := hc n (by omega)
      have b0 := hb.getD n
      have b1 := hb.getD (n + 1)
      have b2 := hb.getD (n + 2)
      have b3 := hb.getD (n + 3)
      have c1 : 1 > 1 → w.cell? ⟨b, o + (n + 1), none⟩ = some (.int .u8 (m.getD (n + 1) 0)) := fun h => hc (n + 1) (by omega)
      have c2 : 1 > 2 → w.cell? ⟨b, o + (n + 2), none⟩ = some (.int .u8 (m.getD (n + 2) 0)) := fun h => hc (n + 2) (by omega)
      have c3 : 1 > 3 → w.cell? ⟨b, o + (n + 3), none⟩ = some (.int .u8 (m.getD (n + 3) 0)) := fun h => hc (n + 3) (by omega)
      have hL : loadW m 14 n = loadB 14 (m.getD n 0) (m.getD (n + 1) 0) (m.getD (n + 2) 0) (m.getD (n + 3) 0) := rfl
      rw [hL]
      clear hL
      generalize m.getD n 0 = x0 at c0 b0 ⊢
      generalize m.getD (n + 1) 0 = x1 at c1 b1 ⊢
      generalize m.getD (n + 2) 0 = x2 at c2 b2 ⊢
      generalize m.getD (n + 3) 0 = x3 at c3 b3 ⊢
      obtain ⟨p0, q0⟩ := b0
      obtain ⟨p1, q1⟩ := b1
      obtain ⟨p2, q2⟩ := b2
      obtain ⟨p3, q3⟩ := b3
      generalize hX : loadB 14 x0 x1 x2 x3 = X
      have HX := Lib.hid hX
      clear hX
      have hS := Lib.hid s
      clear hc s
      go_enter Try.func85, Try.ntmps85
      go_wp2_with (first
        | (go_at_call 91; refine (size_any _ _).mono ?_; rintro e w1 ⟨rfl, rfl⟩; rw [hS.out])
        | (go_at_call 87; refine (there_any _ _ _ _ 1 _ (by omega) (by omega) (by omega) (by omega) (by omega)).mono ?_; rintro e w1 ⟨rfl, rfl⟩; rw [hth]))
      refine wp_loop_rounds 2 ?_
      repeat any_goals (rw [rounds_succ]; go_wp2)
      all_goals
        go_ret2
        refine ⟨?_, rfl⟩
        show Ending.returned (.tuple #[.int .u32 _, .bool true]) = _
        rw [← HX.out]
        rw [or0 x0 p0 q0]; exact ret_tup rfl
    ·
      have s : sizeI 15 = 2 := rfl
      rw [s] at hin hth
      have hn : (n : Int) + (2 - 1) ≤ 4294967295 := by unfold thereB at hth; simp at hth; omega
      obtain ⟨b, o, rfl, hbB, hc⟩ := hA.at_ (n := n) (by omega)
      have c0 := hc n (by omega)
      have b0 := hb.getD n
      have b1 := hb.getD (n + 1)
      have b2 := hb.getD (n + 2)
      have b3 := hb.getD (n + 3)
      have c1 : 2 > 1 → w.cell? ⟨b, o + (n + 1), none⟩ = some (.int .u8 (m.getD (n + 1) 0)) := fun h => hc (n + 1) (by omega)
      have c2 : 2 > 2 → w.cell? ⟨b, o + (n + 2), none⟩ = some (.int .u8 (m.getD (n + 2) 0)) := fun h => hc (n + 2) (by omega)
      have c3 : 2 > 3 → w.cell? ⟨b, o + (n + 3), none⟩ = some (.int .u8 (m.getD (n + 3) 0)) := fun h => hc (n + 3) (by omega)
      have hL : loadW m 15 n = loadB 15 (m.getD n 0) (m.getD (n + 1) 0) (m.getD (n + 2) 0) (m.getD (n + 3) 0) := rfl
      rw [hL]
      clear hL
      generalize m.getD n 0 = x0 at c0 b0 ⊢
      generalize m.getD (n + 1) 0 = x1 at c1 b1 ⊢
      generalize m.getD (n + 2) 0 = x2 at c2 b2 ⊢
      generalize m.getD (n + 3) 0 = x3 at c3 b3 ⊢
      obtain ⟨p0, q0⟩ := b0
      obtain ⟨p1, q1⟩ := b1
      obtain ⟨p2, q2⟩ := b2
      obtain ⟨p3, q3⟩ := b3
      generalize hX : loadB 15 x0 x1 x2 x3 = X
      have HX := Lib.hid hX
      clear hX
      have hS := Lib.hid s
      clear hc s
      go_enter Try.func85, Try.ntmps85
      go_wp2_with (first
        | (go_at_call 91; refine (size_any _ _).mono ?_; rintro e w1 ⟨rfl, rfl⟩; rw [hS.out])
        | (go_at_call 87; refine (there_any _ _ _ _ 2 _ (by omega) (by omega) (by omega) (by omega) (by omega)).mono ?_; rintro e w1 ⟨rfl, rfl⟩; rw [hth]))
      refine wp_loop_rounds 3 ?_
      repeat any_goals (rw [rounds_succ]; go_wp2)
      all_goals
        go_ret2
        refine ⟨?_, rfl⟩
        show Ending.returned (.tuple #[.int .u32 _, .bool true]) = _
        rw [← HX.out]
        rw [or0 x0 p0 q0, or8 x0 x1 p0 (by omega) p1 q1]; exact ret_tup rfl
  · have e : loadP m op n = (0, false) := by unfold loadP; rw [if_neg hok]
    rw [e]
    clear e
    by_cases ho : 16 ≤ op ∧ op ≤ 18
    · obtain ⟨o1, o2⟩ := ho
      clear hok
      go_enter Try.func85, Try.ntmps85
      go_wp2_with (go_at_call 91; refine (size_any _ _).mono ?_; rintro e w1 ⟨rfl, rfl⟩)
      go_ret2
      exact ⟨rfl, rfl⟩
    · have hth : thereB m.length n (sizeI op) = false := by
        by_cases h : 11 ≤ op ∧ op ≤ 15
        · simpa [h.1, h.2] using hok
        · have : sizeI op = 0 := by unfold sizeI; (repeat' split) <;> omega
          rw [this]
          rfl
      have s0 : 0 ≤ sizeI op := by unfold sizeI; (repeat' split) <;> omega
      have s1 : sizeI op ≤ 4 := by unfold sizeI; (repeat' split) <;> omega
      have ho' : 16 ≤ op → 18 < op := fun h => by omega
      clear hok ho
      obtain ⟨sz, hsz⟩ : ∃ z, sizeI op = z := ⟨_, rfl⟩
      rw [hsz] at hth s0 s1
      have Hsz := Lib.hid hsz
      clear hsz
      by_cases h16 : 16 ≤ op
      · have h18 := ho' h16
        clear ho'
        go_enter Try.func85, Try.ntmps85
        go_wp2_with (first
          | (go_at_call 91; refine (size_any _ _).mono ?_; rintro e w1 ⟨rfl, rfl⟩; rw [Hsz.out])
          | (go_at_call 87; refine (there_any _ _ _ _ sz _ (by omega) (by omega) (by omega) (by omega) (by omega)).mono ?_; rintro e w1 ⟨rfl, rfl⟩; rw [hth]))
        go_ret2
        exact ⟨rfl, rfl⟩
      · clear ho'
        go_enter Try.func85, Try.ntmps85
        go_wp2_with (first
          | (go_at_call 91; refine (size_any _ _).mono ?_; rintro e w1 ⟨rfl, rfl⟩; rw [Hsz.out])
          | (go_at_call 87; refine (there_any _ _ _ _ sz _ (by omega) (by omega) (by omega) (by omega) (by omega)).mono ?_; rintro e w1 ⟨rfl, rfl⟩; rw [hth]))
        go_ret2
        exact ⟨rfl, rfl⟩
end Go.Proofs.Ytapgojgcmlnbgab
