/- humpyardref8.Cut: the walk. -/
import Derived.Test.YtapgojgcmlnbgabWindow9
namespace Go.Proofs.Ytapgojgcmlnbgab
open Go.RowKit

theorem lit_slt (w : World) (sq : Int) (dn : Bool) (t : TypeId) : ∀ ad, some (⟨w.heap.size, 0, none⟩ : Addr) = some ad → ∀ j v, (slotsV [⟨sq, dn⟩])[j]? = some v → (w.alloc (.cells #[.int .i64 sq, .bool dn] t)).cell? (ad.add j) = some v := by
  intro ad h j v hj
  cases h
  rw [Addr.add_lit, Nat.zero_add, World.cell?_alloc_new]
  have e : slotsV [⟨sq, dn⟩] = [.int .i64 sq, .bool dn] := rfl
  rw [e] at hj
  simpa using hj
/-- Two rows of two types lie in two blocks. -/
theorem own_apart {w : World} {b1 b2 : Nat} {e1 e2 : TypeId} {s1 s2 : Nat} {v1 v2 : Value} {n1 n2 : Nat} {x1 x2 : List Value} (h1 : w.ownsRow b1 e1 s1 v1 n1 x1) (h2 : w.ownsRow b2 e2 s2 v2 n2 x2) (he : e1 ≠ e2) : v1.ownBlock = none ∨ v1.ownBlock ≠ v2.ownBlock := by
  rcases h1.2 with ⟨rfl, _⟩ | ⟨g1, c1, cur1, rfl, _, hh1, _⟩
  · exact Or.inl rfl
  · rcases h2.2 with ⟨rfl, _⟩ | ⟨g2, c2, cur2, rfl, _, hh2, _⟩
    · right; intro h; cases h
    · right
      intro h
      have hg : g1 = g2 := by simpa [Value.ownBlock] using h
      subst hg
      rw [hh1] at hh2
      injection hh2 with hh2
      injection hh2 with _ hh2
      exact he hh2
theorem cutL_len (l : List Slt) (seq : Int) : (cutL l seq).length ≤ l.length := List.length_filter_le _ _
theorem goneK_len (l : List Slt) (seq : Int) (k : Nat) : (goneK l seq k).length ≤ k := by
  unfold goneK
  rw [List.length_map]
  exact Nat.le_trans (List.length_filter_le _ _) (by rw [List.length_take]; exact Nat.min_le_left _ _)
theorem slotInt_ne : 34 ≠ 3 := by decide
set_option maxRecDepth 100000 in
set_option maxHeartbeats 4000000 in
theorem rcut_any (A : Option Addr) (cap : Nat) (l : List Slt) (seq : Int) (w : World) (hl : l.length * 16 ≤ 140737488351232) (hA : SlotsAt w w.heap.size A l) :
    Calls Try.prog 23 #[.slice A l.length cap, .int .i64 seq] w (CutPost w l seq) := by
  obtain ⟨N, hN⟩ : ∃ N, N = l.length := ⟨_, rfl⟩
  have HN := Lib.hid hN
  rw [← hN] at hl ⊢
  have HA := Lib.hid hA
  clear hA hN
  obtain ⟨i0, hi, hz0, hz1, hz2⟩ := info_parts ints_info8
  obtain ⟨j0, hj, hy0, hy1, hy2⟩ := info_parts cloneSlots_any_info
  go_enter Try.func23, Try.ntmps23
  go_upto_region 4 with (fail)
  go_loopw [6, 7, 8] (fun v6 v7 v8 wr => ∃ (k nl no : Nat) (xl xo : List Value) (AL : Option Addr) (cL : Nat) (AO : Option Addr) (cO : Nat), v6 = .slice AL nl cL ∧ v7 = .slice AO no cO ∧ v8 = .int .i64 k ∧ k ≤ N ∧ nl ≤ k ∧ no ≤ k ∧ Below w.heap.size w wr ∧ wr.ownsRow w.heap.size 34 2 (.slice AL nl cL) nl xl ∧ wr.ownsRow w.heap.size 3 1 (.slice AO no cO) no xo ∧ Hid (xl = slotsV (cutL (l.take k) seq)) ∧ Hid (xo = (goneK l seq k).map (Value.int .i64))) (fun _ _ v8 _ => N + 1 - (intOf v8).toNat)
  case atStart => exact ⟨0, 0, 0, [], [], none, 0, none, 0, rfl, rfl, rfl, Nat.zero_le _, Nat.le_refl _, Nat.le_refl _, Below.refl _ _, World.ownsRow_nil _ _ _ _, World.ownsRow_nil _ _ _ _, Lib.hid rfl, Lib.hid rfl⟩
  case round =>
    obtain ⟨k, nl, no, xl, xo, AL, cL, AO, cO, rfl, rfl, rfl, hk, hnl, hno, hb, hL, hO, Hxl, Hxo⟩ := hrel
    by_cases hlt : k < N
    · have hk' : k < l.length := by rw [← HN.out]; exact hlt
      have hj' : l.length - 1 - k < l.length := by omega
      obtain ⟨b, o, hAe, hgB, c0, c1⟩ := (HA.out.below hb).at_ hk'
      have HJ : Hid (∀ w2, Below w.heap.size w w2 → ∃ b o, A = some ⟨b, o, none⟩ ∧ w2.cell? ⟨b, o + (l.length - 1 - k) * 2, none⟩ = some (.int .i64 (l[l.length - 1 - k]'hj').seq)) := Lib.hid (fun w2 h2 => by
        obtain ⟨b, o, h1, _, h3, _⟩ := (HA.out.below h2).at_ hj'
        exact ⟨b, o, h1, h3⟩)
      have hcl := cutL_take l seq hk'
      have hgk := goneK_succ l seq hk' hj'
      generalize l[k]'hk' = s at *
      generalize (l[l.length - 1 - k]'hj').seq = sj at *
      obtain ⟨sq, dn⟩ := s
      dsimp only at c0 c1 hcl hgk
      subst hAe
      obtain ⟨kj, hkj⟩ : ∃ kj, kj = l.length - 1 - k := ⟨_, rfl⟩
      rw [← hkj] at HJ
      have CJ : Hid (∀ w2, Below w.heap.size w w2 → w2.cell? ⟨b, o + kj * 2, none⟩ = some (.int .i64 sj)) := Lib.hid (fun w2 h2 => by
        obtain ⟨b', o', h1, h3⟩ := HJ.out w2 h2
        injection h1 with h1
        injection h1 with h1 h4
        subst h1 h4
        exact h3)
      have e5 : (N : Int) - 1 - (k : Int) = (kj : Int) := by have := HN.out; omega
      have g5 : kj < N := by have := HN.out; omega
      clear HJ hkj hj' hk'
      have c2 := CJ.out wr hb
      by_cases h1 : sq < seq <;> by_cases h2 : seq ≤ sj
      · rw [if_pos h1] at hcl
        rw [if_pos h2] at hgk
        have e1 : decide (sq < seq) = true := decide_eq_true h1
        have e2 : decide (seq ≤ sj) = true := decide_eq_true h2
        have HL1 := Lib.hid hcl
        have HO1 := Lib.hid hgk
        clear hcl hgk h1 h2
        go_wp2_with (first | (at_builtin; refine wpList_append_any rfl (.tmp 23) (.tmp 28) 22 rfl w.heap.size 34 j0 _ 2 16 Try.underlying22 hj hy0 hy1 hy2 rfl (by decide) (.slice AL nl cL) nl xl rfl (hL.alloc _) (some ⟨wr.heap.size, 0, none⟩) 1 1 (slotsV [⟨sq, dn⟩]) rfl rfl (fun h => by cases h) (lit_slt wr sq dn _) (slotsV_oneCell _) (by unfold maxLen; omega) (by omega) (by have := hb.size; simp; omega) ?_; intro v6' w6 hL6 hg6; obtain ⟨AL6, cL6, rfl⟩ := own_value hL6; have hb6 : Below w.heap.size w w6 := (hb.alloc hb.size _).grown hg6 (by have := hb.size; simp; omega) (fun j hj => (hL.lt j hj).1); have hO6 := (hO.alloc _).kept hg6 (own_apart hO hL slotInt_ne.symm); have c3 : w6.cell? ⟨b, o + kj * 2, none⟩ = some (.int .i64 sj) := CJ.out w6 hb6; have hs6 : w.heap.size ≤ w6.heap.size := hb6.size) | (at_builtin; refine wpList_append_any rfl (.tmp 42) (.tmp 48) 27 rfl w.heap.size 3 i0 _ 1 8 Try.underlying27 hi hz0 hz1 hz2 rfl (by decide) (.slice AO no cO) no xo rfl (hO6.alloc _) (some ⟨w6.heap.size, 0, none⟩) 1 1 [.int .i64 sj] rfl rfl (fun h => by cases h) (lit_one w6 _ _) (by simp; rfl) (by unfold maxLen; omega) (by omega) (by have := hb6.size; simp; omega) ?_; intro v7' w7 hO7 hg7; obtain ⟨AO7, cO7, rfl⟩ := own_value hO7))
        have hb7 : Below w.heap.size w w7 := (hb6.alloc hb6.size _).grown hg7 (by have := hb6.size; simp; omega) (fun j hj => (hO6.lt j hj).1)
        have hL7 := ((hL6.alloc _).kept hg7 (own_apart hL6 hO6 slotInt_ne))
        go_roundw
        case rel => exact ⟨k + 1, nl + 1, no + 1, xl ++ slotsV [⟨sq, dn⟩], xo ++ [.int .i64 sj], AL6, cL6, AO7, cO7, rfl, rfl, by go_num, by omega, by omega, by omega, hb7, hL7, hO7, Lib.hid (by rw [HL1.out, Hxl.out, slotsV_append]), Lib.hid (by rw [HO1.out, Hxo.out, List.map_append]; rfl)⟩
        case measure => simp [intOf]; omega
      · rw [if_pos h1] at hcl
        rw [if_neg h2] at hgk
        have e1 : decide (sq < seq) = true := decide_eq_true h1
        have e2 : decide (seq ≤ sj) = false := decide_eq_false h2
        have HL1 := Lib.hid hcl
        have HO1 := Lib.hid hgk
        clear hcl hgk h1 h2
        go_wp2_with (first | (at_builtin; refine wpList_append_any rfl (.tmp 23) (.tmp 28) 22 rfl w.heap.size 34 j0 _ 2 16 Try.underlying22 hj hy0 hy1 hy2 rfl (by decide) (.slice AL nl cL) nl xl rfl (hL.alloc _) (some ⟨wr.heap.size, 0, none⟩) 1 1 (slotsV [⟨sq, dn⟩]) rfl rfl (fun h => by cases h) (lit_slt wr sq dn _) (slotsV_oneCell _) (by unfold maxLen; omega) (by omega) (by have := hb.size; simp; omega) ?_; intro v6' w6 hL6 hg6; obtain ⟨AL6, cL6, rfl⟩ := own_value hL6; have hb6 : Below w.heap.size w w6 := (hb.alloc hb.size _).grown hg6 (by have := hb.size; simp; omega) (fun j hj => (hL.lt j hj).1); have hO6 := (hO.alloc _).kept hg6 (own_apart hO hL slotInt_ne.symm); have c3 : w6.cell? ⟨b, o + kj * 2, none⟩ = some (.int .i64 sj) := CJ.out w6 hb6; have hs6 : w.heap.size ≤ w6.heap.size := hb6.size))
        go_roundw
        case rel => exact ⟨k + 1, nl + 1, no, xl ++ slotsV [⟨sq, dn⟩], xo, AL6, cL6, AO, cO, rfl, rfl, by go_num, by omega, by omega, by omega, hb6, hL6, hO6, Lib.hid (by rw [HL1.out, Hxl.out, slotsV_append]), Lib.hid (by rw [HO1.out, Hxo.out])⟩
        case measure => simp [intOf]; omega
      · rw [if_neg h1] at hcl
        rw [if_pos h2] at hgk
        have e1 : decide (sq < seq) = false := decide_eq_false h1
        have e2 : decide (seq ≤ sj) = true := decide_eq_true h2
        have HL1 := Lib.hid hcl
        have HO1 := Lib.hid hgk
        clear hcl hgk h1 h2
        go_wp2_with (first | (at_builtin; refine wpList_append_any rfl (.tmp 42) (.tmp 48) 27 rfl w.heap.size 3 i0 _ 1 8 Try.underlying27 hi hz0 hz1 hz2 rfl (by decide) (.slice AO no cO) no xo rfl (hO.alloc _) (some ⟨wr.heap.size, 0, none⟩) 1 1 [.int .i64 sj] rfl rfl (fun h => by cases h) (lit_one wr _ _) (by simp; rfl) (by unfold maxLen; omega) (by omega) (by have := hb.size; simp; omega) ?_; intro v7' w7 hO7 hg7; obtain ⟨AO7, cO7, rfl⟩ := own_value hO7))
        have hb7 : Below w.heap.size w w7 := (hb.alloc hb.size _).grown hg7 (by have := hb.size; simp; omega) (fun j hj => (hO.lt j hj).1)
        have hL7 := ((hL.alloc _).kept hg7 (own_apart hL hO slotInt_ne))
        go_roundw
        case rel => exact ⟨k + 1, nl, no + 1, xl, xo ++ [.int .i64 sj], AL, cL, AO7, cO7, rfl, rfl, by go_num, by omega, by omega, by omega, hb7, hL7, hO7, Lib.hid (by rw [HL1.out, Hxl.out]), Lib.hid (by rw [HO1.out, Hxo.out, List.map_append]; rfl)⟩
        case measure => simp [intOf]; omega
      · rw [if_neg h1] at hcl
        rw [if_neg h2] at hgk
        have e1 : decide (sq < seq) = false := decide_eq_false h1
        have e2 : decide (seq ≤ sj) = false := decide_eq_false h2
        have HL1 := Lib.hid hcl
        have HO1 := Lib.hid hgk
        clear hcl hgk h1 h2
        go_wp2_with (fail)
        go_roundw
        case rel => exact ⟨k + 1, nl, no, xl, xo, AL, cL, AO, cO, rfl, rfl, by go_num, by omega, by omega, by omega, hb, hL, hO, Lib.hid (by rw [HL1.out, Hxl.out]), Lib.hid (by rw [HO1.out, Hxo.out])⟩
        case measure => simp [intOf]; omega
    · obtain rfl : k = N := by omega
      have e1 : ¬ k < k := by omega
      have Q1 : Hid (xl = slotsV (cutL l seq)) := Lib.hid (by rw [Hxl.out, HN.out, List.take_length])
      have Q2 : Hid (xo = (cutO l seq).map (Value.int .i64)) := Lib.hid (by rw [Hxo.out, HN.out, goneK_all])
      clear Hxl Hxo
      go_wp2
      go_ret2
      refine ⟨hb, .slice AL nl cL, .slice AO no cO, rfl, ?_, ?_⟩
      · unfold SlotsPost
        have hn : nl = (cutL l seq).length := by have := hL.1; rw [Q1.out, slotsV_len] at this; omega
        rw [← hn, ← Q1.out]
        exact hL
      · have hn : no = (cutO l seq).length := by have := hO.1; rw [Q2.out, List.length_map] at this; omega
        rw [← hn, ← Q2.out]
        exact hO
end Go.Proofs.Ytapgojgcmlnbgab
