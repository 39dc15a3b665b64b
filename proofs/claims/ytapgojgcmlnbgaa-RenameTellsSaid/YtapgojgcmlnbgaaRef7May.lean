/- The walks of the document's answer on maps of registers: May, other. -/
import Derived.Test.YtapgojgcmlnbgaaRef7Many
import Derived.Test.YtapgojgcmlnbgaaSame
namespace Go.Proofs.Ytapgojgcmlnbgaa
open Go.RowKit

set_option maxRecDepth 100000 in
set_option maxHeartbeats 1000000 in
theorem rmay_any {w : World} {m : RMap} {v : Value} (h : MapV w m v) :
    Calls Try.prog 38 #[v] w fun e w' => e = .returned (.bool m.may) ∧ Below w.heap.size w w' := by
  have hv := h
  obtain ⟨A, cap, rfl, h⟩ := h
  have hs := map_info (phys := m.phys) (A := A) (n := m.free.length) (cap := cap) h.len
  have h0 := mapCells_0 m.phys m.regs A m.free.length cap
  have hf := mapCells_free m.phys m.regs A m.free.length cap h.len
  have hfew := h.few
  have hmay : m.may = mayR m.phys m.all := by unfold RMap.may; exact may_eq _ _
  have hall : m.all.length = 32 + m.free.length := by unfold RMap.all; rw [List.length_append, h.len]
  rw [hmay]
  unfold mayR
  clear hmay
  have CM := Lib.hid (fun W (hb : Below w.heap.size w W) p => rmany_any (hv.ext hb) p)
  generalize mapCells m.phys m.regs A m.free.length cap = cs at *
  generalize m.all = l at *
  generalize m.phys = phys at *
  clear hv h
  have hB := Blk.new w 50 cs
  have hb := (Below.refl w.heap.size w).alloc (Nat.le_refl _) (.cells cs 50)
  have c0 := hB.cell 0
  rw [h0] at c0
  by_cases hok : 33 ≤ phys ∧ phys ≤ 96
  · rw [if_pos hok]
    obtain ⟨N, rfl⟩ := Int.eq_ofNat_of_zero_le (show 0 ≤ phys by omega)
    obtain ⟨h1, h2⟩ := hok
    rw [Int.toNat_natCast]
    generalize hX : sumR l N 0 0 = X
    have HX : Hid (sumR l (N - 0) (0 : Nat) 0 = X) := Lib.hid hX
    have HA := Lib.hid hall
    clear hX hall
    go_enter Try.func38, Try.ntmps38
    go_wp2_with (fail)
    go_loopw [3, 4, 5] (fun v3 v4 v5 wr => ∃ (s k : Nat), v3 = .int .i64 s ∧ v4 = .int .i64 k ∧ s ≤ k ∧ k ≤ N ∧ Below (w.alloc (.cells cs 50)).heap.size (w.alloc (.cells cs 50)) wr ∧ Hid (sumR l (N - k) k s = X)) (fun _ v _ _ => N + 1 - (intOf v).toNat)
    case atStart => exact ⟨0, 0, rfl, rfl, by omega, by omega, Below.refl _ _, HX⟩
    case round =>
      clear HX c0
      obtain ⟨s, k, rfl, rfl, hsk, hk, hr, HS⟩ := hrel
      have hBr := hB.ext hr
      have hbr := hb.trans (hr.mono hb.size)
      have c0 := hBr.cell 0
      rw [h0] at c0
      by_cases hlt : k < N
      · have HS2 := Lib.hid (show (if 1 < l.count (k : Int) then none else sumR l (N - (k + 1)) ((k + 1 : Nat) : Int) (s + l.count (k : Int))) = X by
          have h := HS.out
          rw [show N - k = (N - (k + 1)) + 1 by omega] at h
          exact h)
        clear HS
        generalize hc : l.count (k : Int) = c at HS2
        have CM1 := CM.out wr hbr (k : Int)
        rw [hc] at CM1
        have CM1 := Lib.hid CM1
        clear hc
        by_cases h3 : 1 < c
        · have HS3 : none = X := by have h := HS2.out; rw [if_pos h3] at h; exact h
          subst HS3
          clear HS2
          go_wp2_with (first
            | (refine wpList_load_all rfl 50 _ rfl w.heap.size rfl 50 cs _ hBr Try.underlying50 rfl hs ?_)
            | (go_at_call 62; (with_reducible refine CM1.out.mono ?_); rintro e w2 ⟨rfl, hb2⟩))
          go_ret
          exact ⟨rfl, hbr.trans (hb2.mono hbr.size)⟩
        · have HS3 : Hid (sumR l (N - (k + 1)) ((k + 1 : Nat) : Int) ((s + c : Nat) : Int) = X) := Lib.hid (by have h := HS2.out; rw [if_neg h3] at h; exact h)
          clear HS2
          go_wp2_with (first
            | (refine wpList_load_all rfl 50 _ rfl w.heap.size rfl 50 cs _ hBr Try.underlying50 rfl hs ?_)
            | (go_at_call 62; (with_reducible refine CM1.out.mono ?_); rintro e w2 ⟨rfl, hb2⟩))
          go_roundw
          case rel => exact ⟨s + c, k + 1, by go_num, by go_num, by omega, by omega, hr.trans (hb2.mono hr.size), HS3⟩
          case measure => (simp [intOf] <;> omega)
      · obtain rfl : k = N := by omega
        have HS3 : some (s : Int) = X := by have h := HS.out; rw [Nat.sub_self] at h; exact h
        subst HS3
        have c33 := hBr.cell 33
        rw [hf] at c33
        clear HS CM
        go_wp2_with (fail)
        go_ret
        refine ⟨ret_bool ?_, hbr⟩
        rw [HA.out]
        rw [Bool.eq_iff_iff]
        simp
        try omega
  · rw [if_neg hok]
    have hok' : phys < 33 ∨ (33 ≤ phys ∧ 96 < phys) := by omega
    clear hok CM hall
    rcases hok' with h1 | ⟨h1, h2⟩
    · go_enter Try.func38, Try.ntmps38
      go_wp2_with (fail)
      go_ret
      exact ⟨rfl, hb⟩
    · go_enter Try.func38, Try.ntmps38
      go_wp2_with (fail)
      go_ret
      exact ⟨rfl, hb⟩
set_option maxRecDepth 100000 in
set_option maxHeartbeats 1000000 in
theorem rother_any {w : World} {m : RMap} {v : Value} (h : MapV w m v) (p : Int) :
    Calls Try.prog 63 #[v, .int .i64 p] w fun e w' => e = .returned (.bool (otherP m p)) ∧ Below w.heap.size w w' := by
  have hv := h
  obtain ⟨A, cap, rfl, h⟩ := h
  have hs := map_info (phys := m.phys) (A := A) (n := m.free.length) (cap := cap) h.len
  have h0 := mapCells_0 m.phys m.regs A m.free.length cap
  have CM := Lib.hid (fun W (hb : Below w.heap.size w W) => rmany_any (hv.ext hb) p)
  have CY := Lib.hid (fun W (hb : Below w.heap.size w W) => rmay_any (hv.ext hb))
  have hot : otherP m p = (m.may && (decide (0 ≤ p) && decide (p < m.phys) && decide (m.all.count p = 0))) := by
    unfold otherP
    congr 2
    rw [Bool.eq_iff_iff]
    simp [List.count_eq_zero]
  rw [hot]
  clear hot
  generalize mapCells m.phys m.regs A m.free.length cap = cs at *
  generalize m.all.count p = c at *
  generalize m.may = X at *
  generalize m.phys = phys at *
  clear hv h
  have hB := Blk.new w 50 cs
  have hb := (Below.refl w.heap.size w).alloc (Nat.le_refl _) (.cells cs 50)
  have c0 := hB.cell 0
  rw [h0] at c0
  cases X with
  | false =>
    go_enter Try.func63, Try.ntmps63
    go_wp2_with (first
      | (refine wpList_load_all rfl 50 _ rfl w.heap.size rfl 50 cs _ hB Try.underlying50 rfl hs ?_)
      | (go_at_call 38; (with_reducible refine (CY.out _ hb).mono ?_); rintro e w2 ⟨rfl, hb2⟩))
    go_ret
    exact ⟨rfl, hb.trans (hb2.mono hb.size)⟩
  | true =>
    by_cases h1 : 0 ≤ p
    · by_cases h2 : p < phys
      · have e1 : decide (0 ≤ p) = true := decide_eq_true h1
        have e2 : decide (p < phys) = true := decide_eq_true h2
        rw [e1, e2]
        go_enter Try.func63, Try.ntmps63
        go_wp2_with (first
          | (refine wpList_load_all rfl 50 _ rfl w.heap.size rfl 50 cs _ hB Try.underlying50 rfl hs ?_)
          | (refine wpList_want rfl fun K hK => ?_; refine wp_load_all 50 _ rfl w.heap.size rfl 50 cs _ hB Try.underlying50 rfl hs ?_; refine hK _ _ ?_)
          | (go_at_call 38; (with_reducible refine (CY.out _ hb).mono ?_); rintro e w2 ⟨rfl, hb2⟩; replace hB := hB.ext hb2; replace hb := hb.trans (hb2.mono hb.size); replace c0 := hB.cell 0; rw [h0] at c0)
          | (go_at_call 62; (with_reducible refine (CM.out _ hb).mono ?_); rintro e w2 ⟨rfl, hb2⟩; replace hb := hb.trans (hb2.mono hb.size)))
        go_ret
        refine ⟨ret_bool ?_, hb⟩
        rw [Bool.eq_iff_iff]
        simp
        try omega
      · have e1 : decide (0 ≤ p) = true := decide_eq_true h1
        have e2 : decide (p < phys) = false := decide_eq_false h2
        rw [e1, e2]
        go_enter Try.func63, Try.ntmps63
        go_wp2_with (first
          | (refine wpList_load_all rfl 50 _ rfl w.heap.size rfl 50 cs _ hB Try.underlying50 rfl hs ?_)
          | (refine wpList_want rfl fun K hK => ?_; refine wp_load_all 50 _ rfl w.heap.size rfl 50 cs _ hB Try.underlying50 rfl hs ?_; refine hK _ _ ?_)
          | (go_at_call 38; (with_reducible refine (CY.out _ hb).mono ?_); rintro e w2 ⟨rfl, hb2⟩; replace hB := hB.ext hb2; replace hb := hb.trans (hb2.mono hb.size); replace c0 := hB.cell 0; rw [h0] at c0))
        go_ret
        exact ⟨rfl, hb⟩
    · have e1 : decide (0 ≤ p) = false := decide_eq_false h1
      rw [e1]
      go_enter Try.func63, Try.ntmps63
      go_wp2_with (first
        | (refine wpList_load_all rfl 50 _ rfl w.heap.size rfl 50 cs _ hB Try.underlying50 rfl hs ?_)
        | (refine wpList_want rfl fun K hK => ?_; refine wp_load_all 50 _ rfl w.heap.size rfl 50 cs _ hB Try.underlying50 rfl hs ?_; refine hK _ _ ?_)
        | (go_at_call 38; (with_reducible refine (CY.out _ hb).mono ?_); rintro e w2 ⟨rfl, hb2⟩; replace hB := hB.ext hb2; replace hb := hb.trans (hb2.mono hb.size); replace c0 := hB.cell 0; rw [h0] at c0))
      go_ret
      exact ⟨rfl, hb⟩
end Go.Proofs.Ytapgojgcmlnbgaa
