/- window.Done and slices.Index. -/
import Derived.Test.YtapgojgcmlnbgabWindow3
namespace Go.Proofs.Ytapgojgcmlnbgab
open Go.RowKit

def isS (seq : Int) (s : Slt) : Bool := decide (s = ⟨seq, false⟩)
theorem slotsV_set (l : List Slt) (j : Nat) (seq : Int) (h : l[j]? = some ⟨seq, false⟩) : slotsV (l.set j ⟨seq, true⟩) = (slotsV l).set (j * 2 + 1) (.bool true) := by
  induction l generalizing j with
  | nil => cases h
  | cons s l ih =>
    have e : ∀ (s : Slt) (l : List Slt), slotsV (s :: l) = .int .i64 s.seq :: .bool s.done :: slotsV l := fun _ _ => rfl
    cases j with
    | zero =>
      cases h
      rfl
    | succ j =>
      rw [List.set_cons_succ, e, e, ih j (by simpa using h), show (j + 1) * 2 + 1 = j * 2 + 1 + 1 + 1 by omega]
      rfl
set_option maxRecDepth 100000 in
set_option maxHeartbeats 1000000 in
theorem index_any (A : Option Addr) (cap : Nat) (l : List Slt) (seq : Int) (w : World) (hl : l.length ≤ 140737488355328) (hA : SlotsAt w w.heap.size A l) :
    Calls Try.prog 46 #[.slice A l.length cap, .agg #[.int .i64 seq, .bool false]] w fun e w' => e = .returned (.int .i64 (idxP (isS seq) l 0)) ∧ Below w.heap.size w w' := by
  obtain ⟨X, hX⟩ : ∃ X, idxP (isS seq) l 0 = X := ⟨_, rfl⟩
  rw [hX]
  obtain ⟨N, hN⟩ : ∃ N, N = l.length := ⟨_, rfl⟩
  rw [← hN] at hl ⊢
  have HA := Lib.hid hA
  have HN := Lib.hid hN
  have HX : Hid (idxP (isS seq) (l.drop 0) ((0 : Nat) : Int) = X) := Lib.hid (by simpa using hX)
  clear hA hN hX
  go_enter Try.func46, Try.ntmps46
  go_upto_region 1 with (fail)
  go_simp
  refine wp_gen fun wa hq => ?_
  have hB : Blk wa w.heap.size 34 #[.int .i64 seq, .bool false] := by rw [hq]; exact Blk.new w _ _
  have hbl : Below w.heap.size w wa := by rw [hq]; exact (Below.refl _ _).alloc (Nat.le_refl _) _
  clear hq
  have hA0 := Lib.hid ((HA.out.below hbl).mono hbl.size)
  go_upto_region 2 with (fail)
  go_loopw [8] (fun v wr => ∃ k : Nat, v = .int .i64 k ∧ k ≤ N ∧ Below wa.heap.size wa wr ∧ Hid (idxP (isS seq) (l.drop k) k = X)) (fun v _ => N + 1 - (intOf v).toNat)
  case atStart => exact ⟨0, rfl, Nat.zero_le _, Below.refl _ _, HX⟩
  case round =>
    clear HX
    obtain ⟨k, rfl, hk, hb, Hk⟩ := hrel
    by_cases hlt : k < N
    · have hk' : k < l.length := by rw [← HN.out]; exact hlt
      obtain ⟨b, o, rfl, hgB, c0, c1⟩ := (hA0.out.below hb).at_ hk'
      have hd := idxP_drop (isS seq) l hk' (k : Int)
      have hBr := hB.ext hb
      generalize l[k]'hk' = s at *
      obtain ⟨sq, dn⟩ := s
      dsimp only at c0 c1
      have z1 : b < wr.heap.size := Nat.lt_of_lt_of_le hgB hb.size
      by_cases hs : isS seq ⟨sq, dn⟩ = true
      · obtain ⟨rfl, rfl⟩ : sq = seq ∧ dn = false := by unfold isS at hs; simpa using hs
        have Hd : Hid ((k : Int) = X) := Lib.hid (by rw [if_pos hs] at hd; rw [← Hk.out, hd])
        have e1 : (sq == sq) = true := by simp
        clear hd Hk hs
        go_upto_region 4 with (fail)
        refine wp_region_below (by kernel_rfl) (by kernel_rfl) ?_
        repeat' (first
          | refine wpMix_plain rfl ?_
          | (refine' wpMixW_quiet _ (fun wq hwq K hK => ?_) ?_ ?_
             rotate_left 1
             · (have k0 := (hwq.cell (p := ⟨b, o + k * 2, none⟩) z1).trans c0; have k1 := (hwq.cell (p := ⟨b, o + k * 2 + 1, none⟩) z1).trans c1; have q0 : wq.cell? ⟨w.heap.size, 0, none⟩ = some (.int .i64 sq) := (hBr.ext hwq).cell 0; have q1 : wq.cell? ⟨w.heap.size, 1, none⟩ = some (.bool false) := (hBr.ext hwq).cell 1
                go_wp2_with (fail)
                all_goals exact hK _ hwq)
             · rfl)
          | (refine wpMix_guardT rfl rfl rfl ?_ ?_ <;> intro hc <;> first | (cases hc; done) | ((try cases hc); simp only [Act.put, List.setIfInBounds_toArray, List.set_cons_succ, List.set_cons_zero]))
          | (refine wpMix_guardF rfl rfl rfl ?_ ?_ <;> intro hc <;> first | (cases hc; done) | ((try cases hc); simp only [Act.put, List.setIfInBounds_toArray, List.set_cons_succ, List.set_cons_zero]))
          | refine wpMix_guardU rfl rfl rfl ?_)
        all_goals
          refine wpMix_nil ?_
          intro w9 hw9
          go_wp2
          go_ret
          exact ⟨by rw [← Hd.out]; rfl, hbl.trans ((hb.trans (hw9.mono hb.size)).mono hbl.size)⟩
      · have Hd : Hid (idxP (isS seq) (l.drop (k + 1)) ((k + 1 : Nat) : Int) = X) := Lib.hid (by rw [if_neg hs] at hd; rw [← Hk.out, hd]; rfl)
        have hne : sq = seq → dn = true := fun e => by
          subst e
          cases dn with
          | true => rfl
          | false => exact absurd (by unfold isS; simp) hs
        clear hd Hk hs
        by_cases hq : sq = seq
        · obtain rfl := hne hq
          subst hq
          clear hne
          have e1 : (sq == sq) = true := by simp
          go_upto_region 4 with (fail)
          refine wp_region_below (by kernel_rfl) (by kernel_rfl) ?_
          repeat' (first
            | refine wpMix_plain rfl ?_
            | (refine' wpMixW_quiet _ (fun wq hwq K hK => ?_) ?_ ?_
               rotate_left 1
               · (have k0 := (hwq.cell (p := ⟨b, o + k * 2, none⟩) z1).trans c0; have k1 := (hwq.cell (p := ⟨b, o + k * 2 + 1, none⟩) z1).trans c1; have q0 : wq.cell? ⟨w.heap.size, 0, none⟩ = some (.int .i64 sq) := (hBr.ext hwq).cell 0; have q1 : wq.cell? ⟨w.heap.size, 1, none⟩ = some (.bool false) := (hBr.ext hwq).cell 1
                  go_wp2_with (fail)
                  all_goals exact hK _ hwq)
               · rfl)
            | (refine wpMix_guardT rfl rfl rfl ?_ ?_ <;> intro hc <;> first | (cases hc; done) | ((try cases hc); simp only [Act.put, List.setIfInBounds_toArray, List.set_cons_succ, List.set_cons_zero]))
            | (refine wpMix_guardF rfl rfl rfl ?_ ?_ <;> intro hc <;> first | (cases hc; done) | ((try cases hc); simp only [Act.put, List.setIfInBounds_toArray, List.set_cons_succ, List.set_cons_zero]))
            | refine wpMix_guardU rfl rfl rfl ?_)
          all_goals
            refine wpMix_nil ?_
            intro w9 hw9
            go_wp2
            go_roundw
            case rel => exact ⟨k + 1, by go_num, by omega, hb.trans (hw9.mono hb.size), Hd⟩
            case measure => simp [intOf]; omega
        · have e1 : (seq == sq) = false := by simp; omega
          clear hne hq
          go_upto_region 4 with (fail)
          refine wp_region_below (by kernel_rfl) (by kernel_rfl) ?_
          repeat' (first
            | refine wpMix_plain rfl ?_
            | (refine' wpMixW_quiet _ (fun wq hwq K hK => ?_) ?_ ?_
               rotate_left 1
               · (have k0 := (hwq.cell (p := ⟨b, o + k * 2, none⟩) z1).trans c0; have k1 := (hwq.cell (p := ⟨b, o + k * 2 + 1, none⟩) z1).trans c1; have q0 : wq.cell? ⟨w.heap.size, 0, none⟩ = some (.int .i64 seq) := (hBr.ext hwq).cell 0; have q1 : wq.cell? ⟨w.heap.size, 1, none⟩ = some (.bool false) := (hBr.ext hwq).cell 1
                  go_wp2_with (fail)
                  all_goals exact hK _ hwq)
               · rfl)
            | (refine wpMix_guardT rfl rfl rfl ?_ ?_ <;> intro hc <;> first | (cases hc; done) | ((try cases hc); simp only [Act.put, List.setIfInBounds_toArray, List.set_cons_succ, List.set_cons_zero]))
            | (refine wpMix_guardF rfl rfl rfl ?_ ?_ <;> intro hc <;> first | (cases hc; done) | ((try cases hc); simp only [Act.put, List.setIfInBounds_toArray, List.set_cons_succ, List.set_cons_zero]))
            | refine wpMix_guardU rfl rfl rfl ?_)
          all_goals
            refine wpMix_nil ?_
            intro w9 hw9
            go_wp2
            go_roundw
            case rel => exact ⟨k + 1, by go_num, by omega, hb.trans (hw9.mono hb.size), Hd⟩
            case measure => simp [intOf]; omega
    · obtain rfl : k = N := by omega
      have e1 : decide ((k : Int) < k) = false := by simp
      have Hd : Hid ((-1 : Int) = X) := Lib.hid (by rw [← Hk.out, HN.out, List.drop_length]; rfl)
      clear Hk
      go_wp2
      go_ret
      exact ⟨by rw [← Hd.out]; rfl, hbl.trans (hb.mono hbl.size)⟩
end Go.Proofs.Ytapgojgcmlnbgab
