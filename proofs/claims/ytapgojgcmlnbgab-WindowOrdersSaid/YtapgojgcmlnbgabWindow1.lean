/- window.Push and what it calls. -/
import Derived.Test.YtapgojgcmlnbgabSlots
import Derived.Test.YtapgojgcmlnbgabOrd
namespace Go.Proofs.Ytapgojgcmlnbgab
open Go.RowKit

set_option maxRecDepth 100000 in
theorem pushLit_any (s : Slt) (seq : Int) (g : Nat) (w : World) (hg : w.cell? ⟨g, 0, none⟩ = some (.int .i64 seq)) (hgl : g < w.heap.size) :
    Calls Try.prog 44 #[.agg #[.int .i64 s.seq, .bool s.done], .pointer (some ⟨g, 0, none⟩)] w fun e w' => e = .returned (.bool (decide (seq ≤ s.seq))) ∧ Below w.heap.size w w' := by
  obtain ⟨sq, dn⟩ := s
  dsimp only
  go_enter Try.func44, Try.ntmps44
  go_upto_region 1 with (fail)
  go_simp
  refine wp_gen fun wa hq => ?_
  have hB : Blk wa w.heap.size 34 #[.int .i64 sq, .bool dn] := by rw [hq]; exact Blk.new w _ _
  have hbl : Below w.heap.size w wa := by rw [hq]; exact (Below.refl _ _).alloc (Nat.le_refl _) _
  clear hq
  have c0 : wa.cell? ⟨w.heap.size, 0, none⟩ = some (.int .i64 sq) := hB.cell 0
  have c1 := (hbl.cell (p := ⟨g, 0, none⟩) hgl).trans hg
  go_wp2
  go_ret
  exact ⟨rfl, hbl⟩
theorem idxP_any {α : Type} (p : α → Bool) (l : List α) : decide (0 ≤ idxP p l 0) = l.any p := by
  rcases idxP_cases p l 0 with ⟨h1, h2⟩ | ⟨j, x, h1, h2, h3, _⟩
  · have h1' : idxP p l 0 = -1 := h1
    rw [h1']
    have : l.any p = false := by rw [List.any_eq_false]; intro x hx; rw [h2 x hx]; simp
    rw [this]
    rfl
  · have h1' : idxP p l 0 = j := by simpa using h1
    rw [h1']
    have : l.any p = true := List.any_eq_true.2 ⟨x, List.mem_of_getElem? h2, h3⟩
    rw [this]
    exact decide_eq_true (by omega)
theorem idxP_drop {α : Type} (p : α → Bool) (l : List α) {k : Nat} (hk : k < l.length) (z : Int) : idxP p (l.drop k) z = if p (l[k]'hk) = true then z else idxP p (l.drop (k + 1)) (z + 1) := by
  rw [List.drop_eq_getElem_cons hk]
  rfl
set_option maxRecDepth 100000 in
set_option maxHeartbeats 1000000 in
theorem indexFunc_any (A : Option Addr) (cap : Nat) (l : List Slt) (seq : Int) (g : Nat) (w : World) (hl : l.length ≤ 140737488355328) (hA : SlotsAt w w.heap.size A l) (hg : w.cell? ⟨g, 0, none⟩ = some (.int .i64 seq)) (hgl : g < w.heap.size) :
    Calls Try.prog 75 #[.slice A l.length cap, .func (.func 44) #[] #[.pointer (some ⟨g, 0, none⟩)]] w fun e w' => e = .returned (.int .i64 (idxP (fun s => decide (seq ≤ s.seq)) l 0)) ∧ Below w.heap.size w w' := by
  obtain ⟨X, hX⟩ : ∃ X, idxP (fun s : Slt => decide (seq ≤ s.seq)) l 0 = X := ⟨_, rfl⟩
  rw [hX]
  obtain ⟨N, hN⟩ : ∃ N, N = l.length := ⟨_, rfl⟩
  rw [← hN] at hl ⊢
  have HA := Lib.hid hA
  have HN := Lib.hid hN
  have HX : Hid (idxP (fun s : Slt => decide (seq ≤ s.seq)) (l.drop 0) ((0 : Nat) : Int) = X) := Lib.hid (by simpa using hX)
  have HG := Lib.hid hg
  clear hA hN hX hg
  go_enter Try.func75, Try.ntmps75
  go_upto_region 2 with (fail)
  go_loopw [8] (fun v wr => ∃ k : Nat, v = .int .i64 k ∧ k ≤ N ∧ Below w.heap.size w wr ∧ Hid (idxP (fun s : Slt => decide (seq ≤ s.seq)) (l.drop k) k = X)) (fun v _ => N + 1 - (intOf v).toNat)
  case atStart => exact ⟨0, rfl, Nat.zero_le _, Below.refl _ _, HX⟩
  case round =>
    clear HX
    obtain ⟨k, rfl, hk, hb, Hk⟩ := hrel
    by_cases hlt : k < N
    · have hk' : k < l.length := by rw [← HN.out]; exact hlt
      obtain ⟨b, o, rfl, hgB, c0, c1⟩ := (HA.out.below hb).at_ hk'
      have hd := idxP_drop (fun s : Slt => decide (seq ≤ s.seq)) l hk' (k : Int)
      have CP := Lib.hid (fun W h1 h2 => pushLit_any (l[k]'hk') seq g W h1 h2)
      generalize l[k]'hk' = s at *
      obtain ⟨sq, dn⟩ := s
      dsimp only at c0 c1 hd
      have hgr := (hb.cell (p := ⟨g, 0, none⟩) hgl).trans HG.out
      have hglr : g < wr.heap.size := Nat.lt_of_lt_of_le hgl hb.size
      have HGR := Lib.hid hgr
      clear hgr
      by_cases hs : seq ≤ sq
      · have Hd : Hid ((k : Int) = X) := Lib.hid (by rw [if_pos (by simpa using hs)] at hd; rw [← Hk.out, hd])
        have t1 : decide (seq ≤ sq) = true := decide_eq_true hs
        clear hd Hk hs
        go_wp2_with (go_at_call 44; (with_reducible refine (CP.out _ HGR.out hglr).mono ?_); rintro e w2 ⟨rfl, hb2⟩)
        go_ret
        exact ⟨by rw [← Hd.out]; rfl, hb.trans (hb2.mono hb.size)⟩
      · have Hd : Hid (idxP (fun s : Slt => decide (seq ≤ s.seq)) (l.drop (k + 1)) ((k + 1 : Nat) : Int) = X) := Lib.hid (by rw [if_neg (by simpa using hs)] at hd; rw [← Hk.out, hd]; rfl)
        have t1 : decide (seq ≤ sq) = false := decide_eq_false hs
        clear hd Hk hs
        go_wp2_with (go_at_call 44; (with_reducible refine (CP.out _ HGR.out hglr).mono ?_); rintro e w2 ⟨rfl, hb2⟩)
        go_roundw
        case rel => exact ⟨k + 1, by go_num, by omega, hb.trans (hb2.mono hb.size), Hd⟩
        case measure => simp [intOf]; omega
    · obtain rfl : k = N := by omega
      have e1 : decide ((k : Int) < k) = false := by simp
      have Hd : Hid ((-1 : Int) = X) := Lib.hid (by rw [← Hk.out, HN.out, List.drop_length]; rfl)
      clear Hk
      go_wp2
      go_ret
      exact ⟨by rw [← Hd.out]; rfl, hb⟩
set_option maxRecDepth 100000 in
theorem containsFunc_any (A : Option Addr) (cap : Nat) (l : List Slt) (seq : Int) (g : Nat) (w : World) (hl : l.length ≤ 140737488355328) (hA : SlotsAt w w.heap.size A l) (hg : w.cell? ⟨g, 0, none⟩ = some (.int .i64 seq)) (hgl : g < w.heap.size) :
    Calls Try.prog 43 #[.slice A l.length cap, .func (.func 44) #[] #[.pointer (some ⟨g, 0, none⟩)]] w fun e w' => e = .returned (.bool (l.any fun s => decide (seq ≤ s.seq))) ∧ Below w.heap.size w w' := by
  have CI := Lib.hid (indexFunc_any A cap l seq g w hl hA hg hgl)
  have hx := idxP_any (fun s : Slt => decide (seq ≤ s.seq)) l
  generalize idxP (fun s : Slt => decide (seq ≤ s.seq)) l 0 = X at *
  generalize (l.any fun s => decide (seq ≤ s.seq)) = Y at *
  generalize l.length = N at *
  clear hA hg
  go_enter Try.func43, Try.ntmps43
  go_wp2_with (go_at_call 75; (with_reducible refine CI.out.mono ?_); rintro e w2 ⟨rfl, hb2⟩)
  go_ret
  refine ⟨?_, hb2⟩
  first | rfl | (rw [← hx]; rfl) | (rw [hx])
end Go.Proofs.Ytapgojgcmlnbgab
