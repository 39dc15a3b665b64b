/- The walks of the document's answer on maps of registers: many, May, other. -/
import Derived.Test.YtapgojgcmlnbgaaRename2
namespace Go.Proofs.Ytapgojgcmlnbgaa
open Go.RowKit

theorem count_take {l : List Int} {k : Nat} (hk : k < l.length) (p : Int) : (l.take (k + 1)).count p = (l.take k).count p + (if l.getD k 0 = p then 1 else 0) := by
  rw [List.take_succ_eq_append_getElem hk, List.count_append]
  have : l.getD k 0 = l[k] := by simp [List.getD, List.getElem?_eq_getElem hk]
  rw [this]
  by_cases h : l[k] = p
  · rw [if_pos h, h]; simp
  · rw [if_neg h, List.count_singleton, if_neg (by simpa using h)]
set_option maxRecDepth 100000 in
set_option maxHeartbeats 1000000 in
theorem rmany_any {w : World} {m : RMap} {v : Value} (h : MapV w m v) (p : Int) :
    Calls Try.prog 62 #[v, .int .i64 p] w fun e w' => e = .returned (.int .i64 (m.all.count p)) ∧ Below w.heap.size w w' := by
  obtain ⟨A, cap, rfl, h⟩ := h
  have hlen := h.len
  have hf := mapCells_free m.phys m.regs A m.free.length cap h.len
  have hrg := fun i => mapCells_reg m.phys m.regs A m.free.length cap (i := i)
  have hfew := h.few
  have hA := Lib.hid h.free
  have hcnt : m.all.count p = m.regs.count p + m.free.count p := by unfold RMap.all; rw [List.count_append]
  rw [hcnt]
  clear hcnt
  generalize mapCells m.phys m.regs A m.free.length cap = cs at *
  generalize m.regs = l1 at *
  generalize m.free = l2 at *
  clear h
  obtain ⟨N, hN⟩ : ∃ N, N = l2.length := ⟨_, rfl⟩
  rw [← hN] at hf hfew
  have HN := Lib.hid hN
  have HL := Lib.hid hlen
  have Hrg := Lib.hid hrg
  clear hN hlen hrg
  have hB := Blk.new w 50 cs
  have hb := (Below.refl w.heap.size w).alloc (Nat.le_refl _) (.cells cs 50)
  go_enter Try.func62, Try.ntmps62
  go_wp2_with (fail)
  go_loopw [5, 6] (fun v5 v6 wr => ∃ (c k : Nat), v5 = .int .i64 c ∧ v6 = .int .i64 k ∧ c ≤ k ∧ k ≤ 32 ∧ Hid (c = (l1.take k).count p) ∧ wr = w.alloc (.cells cs 50)) (fun _ v _ => 33 - (intOf v).toNat)
  case atStart => exact ⟨0, 0, rfl, rfl, by omega, by omega, Lib.hid rfl, rfl⟩
  case round =>
    obtain ⟨c, k, rfl, rfl, hck, hk, HC, rfl⟩ := hrel
    by_cases hlt : k < 32
    · have hkl : k < l1.length := by rw [HL.out]; exact hlt
      have ck := hB.cell (1 + k)
      rw [Hrg.out k hkl] at ck
      have HT := Lib.hid (count_take hkl p)
      generalize l1.getD k 0 = x at ck HT
      clear hkl
      by_cases hx : x = p
      · subst hx
        have e1 : (x == x) = true := by simp
        go_wp2_with (fail)
        go_roundw
        case rel => exact ⟨c + 1, k + 1, by go_num, by go_num, by omega, by omega, Lib.hid (by rw [HT.out, ← HC.out, if_pos rfl]), trivial⟩
        case measure => (simp [intOf] <;> omega)
      · have e1 : (x == p) = false := by simpa using hx
        go_wp2_with (fail)
        go_roundw
        case rel => exact ⟨c, k + 1, rfl, by go_num, by omega, by omega, Lib.hid (by rw [HT.out, ← HC.out, if_neg hx]; rfl), trivial⟩
        case measure => (simp [intOf] <;> omega)
    · obtain rfl : k = 32 := by omega
      have HC2 : Hid (c = l1.count p) := Lib.hid (by rw [HC.out, List.take_of_length_le (by rw [HL.out]; omega)])
      have c33 := hB.cell 33
      rw [hf] at c33
      clear HC
      go_wp2_with (fail)
      go_loopw [5, 7] (fun v5 v7 wr => ∃ (d k : Nat), v5 = .int .i64 ((c + d : Nat) : Int) ∧ v7 = .int .i64 k ∧ d ≤ k ∧ k ≤ N ∧ Hid (d = (l2.take k).count p) ∧ wr = w.alloc (.cells cs 50)) (fun _ v _ => N + 1 - (intOf v).toNat)
      case atStart => exact ⟨0, 0, rfl, rfl, by omega, by omega, Lib.hid rfl, rfl⟩
      case round =>
        obtain ⟨d, k, rfl, rfl, hdk, hk2, HD, rfl⟩ := hrel
        by_cases hlt2 : k < N
        · have hkl : k < l2.length := by rw [← HN.out]; exact hlt2
          obtain ⟨b, o, rfl, hbl, hc⟩ := hA.out.at_ hkl
          have ck := (hb.cell (p := ⟨b, o + k, none⟩) hbl).trans (hc k hkl)
          have HT := Lib.hid (count_take hkl p)
          generalize l2.getD k 0 = x at ck HT
          clear hkl hc
          by_cases hx : x = p
          · subst hx
            have e1 : (x == x) = true := by simp
            go_wp2_with (fail)
            go_roundw
            case rel => exact ⟨d + 1, k + 1, by go_num, by go_num, by omega, by omega, Lib.hid (by rw [HT.out, ← HD.out, if_pos rfl]), trivial⟩
            case measure => (simp [intOf] <;> omega)
          · have e1 : (x == p) = false := by simpa using hx
            go_wp2_with (fail)
            go_roundw
            case rel => exact ⟨d, k + 1, rfl, by go_num, by omega, by omega, Lib.hid (by rw [HT.out, ← HD.out, if_neg hx]; rfl), trivial⟩
            case measure => (simp [intOf] <;> omega)
        · obtain rfl : k = N := by omega
          have HD2 : Hid (d = l2.count p) := Lib.hid (by rw [HD.out, List.take_of_length_le (by rw [HN.out]; omega)])
          clear HD
          go_wp2_with (fail)
          go_ret
          refine ⟨ret_int ?_, hb⟩
          rw [← HC2.out, ← HD2.out]
end Go.Proofs.Ytapgojgcmlnbgaa
