/- The walks of package order. -/
import Derived.Test.YtapgojgcmlnbgaaProg
import Derived.Test.YtapgojgcmlnbgaaRegion
import Derived.Test.YtapgojgcmlnbgaaOrderPlain
import Derived.WalkLawsBesides
import Derived.Lib.Hide
namespace Go.Proofs.Ytapgojgcmlnbgaa
open Go.RowKit

theorem many_any (a : Acc) (w : World) : Calls Try.prog 64 #[.agg #[.int .i64 a.seq, .bool a.store, .bool a.known, .int .u32 a.at_, .int .i64 a.many, .int .u32 a.data, .bool a.done]] w fun e w' => e = .returned (.int .u64 (manyI a.many)) ∧ Below w.heap.size w w' := by
  have hb := (Below.refl w.heap.size w).alloc (Nat.le_refl _) (.cells a.cells 72)
  by_cases h1 : a.many < 0
  · have e : manyI a.many = 0 := by unfold manyI; omega
    rw [e]
    go_enter Try.func64, Try.ntmps64
    go_wp2
    go_ret
    exact ⟨rfl, hb⟩
  · by_cases h2 : 4 < a.many
    · have e : manyI a.many = 4 := by unfold manyI; omega
      rw [e]
      go_enter Try.func64, Try.ntmps64
      go_wp2
      go_ret
      exact ⟨rfl, hb⟩
    · have e : manyI a.many = a.many := by unfold manyI; omega
      rw [e]
      go_enter Try.func64, Try.ntmps64
      go_wp2
      go_ret
      exact ⟨rfl, hb⟩

set_option maxRecDepth 100000 in
set_option maxHeartbeats 400000 in
theorem has_any (a : Acc) (p : Int) (w : World) (h0 : 0 ≤ a.at_) (h1 : a.at_ ≤ 4294967295) (_h2 : 0 ≤ p) (_h3 : p ≤ 18446744073709551615) :
    Calls Try.prog 65 #[.agg #[.int .i64 a.seq, .bool a.store, .bool a.known, .int .u32 a.at_, .int .i64 a.many, .int .u32 a.data, .bool a.done], .int .u64 p] w fun e w' => e = .returned (.bool (hasB a p)) ∧ Below w.heap.size w w' := by
  have l1 := manyI_lo a.many
  have l2 := manyI_hi a.many
  have hb := (Below.refl w.heap.size w).alloc (Nat.le_refl _) (.cells a.cells 72)
  generalize hx : hasB a p = x
  have Hx := Lib.hid hx
  clear hx
  go_enter Try.func65, Try.ntmps65
  go_wp2_with fail
  refine wp_region_below (by kernel_rfl) (by kernel_rfl) ?_
  repeat' (first
    | refine wpMix_plain rfl ?_
    | (refine' wpMixW_quiet _ (fun wq hwq K hK => ?_) ?_ ?_
       rotate_left 1
       · (obtain ⟨hcq, hfq⟩ := bcell hwq
          go_wp2_with (go_at_call 64; refine (many_any a _).mono ?_; rintro e w' ⟨rfl, hb⟩; exact hK _ (hwq.trans (hb.mono hwq.size)))
          all_goals exact hK _ hwq)
       · rfl)
    | (refine wpMix_guardT rfl rfl rfl ?_ ?_ <;> intro hc <;> first | (cases hc; done) | ((try cases hc); simp only [Act.put, List.setIfInBounds_toArray, List.set_cons_succ, List.set_cons_zero]))
    | (refine wpMix_guardF rfl rfl rfl ?_ ?_ <;> intro hc <;> first | (cases hc; done) | ((try cases hc); simp only [Act.put, List.setIfInBounds_toArray, List.set_cons_succ, List.set_cons_zero]))
    | refine wpMix_guardU rfl rfl rfl ?_)
  all_goals
    refine wpMix_nil ?_
    intro w1 hw1
    go_wp2
    go_ret
    refine ⟨?_, hb.trans (hw1.mono (by simp))⟩
    rw [← Hx.out]
    simp [hasB, *]

set_option maxRecDepth 100000 in
set_option maxHeartbeats 400000 in
theorem meet_any (s a : Acc) (w : World) (hs : s.Wf) (ha : a.Wf) :
    Calls Try.prog 42 #[.agg #[.int .i64 s.seq, .bool s.store, .bool s.known, .int .u32 s.at_, .int .i64 s.many, .int .u32 s.data, .bool s.done], .agg #[.int .i64 a.seq, .bool a.store, .bool a.known, .int .u32 a.at_, .int .i64 a.many, .int .u32 a.data, .bool a.done]] w
      fun e w' => e = .returned (.bool (meetB s a)) ∧ Below w.heap.size w w' := by
  have l1 := manyI_lo s.many
  have l2 := manyI_hi s.many
  have sa0 := hs.at0
  have sa1 := hs.at1
  have aa0 := ha.at0
  have aa1 := ha.at1
  generalize hx : meetB s a = x
  have Hx := Lib.hid hx
  clear hx
  go_enter Try.func42, Try.ntmps42
  go_wp2_with (go_at_call 64; refine (many_any s _).mono ?_; rintro e w1 ⟨rfl, hb⟩)
  have hbw := ((((Below.refl w.heap.size w).alloc (Nat.le_refl _) (.cells s.cells 72)).alloc (by simp) (.cells a.cells 72))).trans (hb.mono (by simp; omega))
  have hs1 : ∀ i, w1.cell? ⟨w.heap.size, i, none⟩ = s.cells[i]? := fun i => by
    rw [hb.cell (by simp; omega), World.cell?_alloc_lt _ _ _ (by simp)]
    exact World.cell?_alloc_new w _ _ i
  have ha1 : ∀ i, w1.cell? ⟨w.heap.size + 1, i, none⟩ = a.cells[i]? := fun i => by
    rw [hb.cell (by simp)]
    have := World.cell?_alloc_new (w.alloc (.cells s.cells 72)) a.cells 72 i
    rwa [World.size_alloc] at this
  have hz := hb.size
  simp only [World.size_alloc] at hz
  clear hb
  go_loopw [9] (fun v wr => ∃ k : Nat, v = .int .u64 k ∧ (k : Int) ≤ manyI s.many ∧ Below (w.heap.size + 2) w1 wr ∧ Hid (meetFrom s a (4 - k) = x)) (fun v _ => 4 - (intOf v).toNat)
  case atStart => exact ⟨0, rfl, l1, Below.refl _ _, Hx⟩
  case round =>
    obtain ⟨k, rfl, hk, hbr, HR⟩ := hrel
    obtain ⟨hc, hf⟩ := bcell hbr
    have hzr := hbr.size
    by_cases hlt : (k : Int) < manyI s.many
    · have hst := meetFrom_step s a k (by omega)
      have HS := Lib.hid hst
      clear hst
      rcases h1 : hasB s (s.at_ + k) with _ | _
      · go_wp2_with (go_at_call 65; refine (has_any s _ _ sa0 sa1 (by omega) (by omega)).mono ?_; rintro e w2 ⟨rfl, hb2⟩; rw [h1])
        go_roundw
        case rel => exact ⟨k + 1, by go_num, by omega, hbr.trans (hb2.mono (by omega)), by rw [← HR.out, HS.out, h1]; rfl⟩
        case measure => simp [intOf]; omega
      · rcases h2 : hasB a (s.at_ + k) with _ | _
        · go_wp2_with (first
            | (go_at_call 65; ((with_reducible refine (has_any s _ _ sa0 sa1 (by omega) (by omega)).mono ?_); rintro e w2 ⟨rfl, hb2⟩; rw [h1]; have ha2 : ∀ i, w2.cell? ⟨w.heap.size + 1, i, none⟩ = a.cells[i]? := fun i => by rw [hb2.cell (by simp; omega), hc _ _ (by omega), ha1]))
            | (go_at_call 65; ((with_reducible refine (has_any a _ _ aa0 aa1 (by omega) (by omega)).mono ?_); rintro e w3 ⟨rfl, hb3⟩; rw [h2])))
          go_roundw
          case rel => exact ⟨k + 1, by go_num, by omega, (hbr.trans (hb2.mono (by omega))).trans (hb3.mono (by have := hb2.size; omega)), by rw [← HR.out, HS.out, h1, h2]; rfl⟩
          case measure => simp [intOf]; omega
        · go_wp2_with (first
            | (go_at_call 65; ((with_reducible refine (has_any s _ _ sa0 sa1 (by omega) (by omega)).mono ?_); rintro e w2 ⟨rfl, hb2⟩; rw [h1]; have ha2 : ∀ i, w2.cell? ⟨w.heap.size + 1, i, none⟩ = a.cells[i]? := fun i => by rw [hb2.cell (by simp; omega), hc _ _ (by omega), ha1]))
            | (go_at_call 65; ((with_reducible refine (has_any a _ _ aa0 aa1 (by omega) (by omega)).mono ?_); rintro e w3 ⟨rfl, hb3⟩; rw [h2])))
          go_ret
          have e : x = true := by rw [← HR.out, HS.out, h1, h2]; rfl
          rw [e]
          exact ⟨rfl, ((hbw.trans (hbr.mono (by omega))).trans (hb2.mono (by omega))).trans (hb3.mono (by have := hb2.size; omega))⟩
    · go_wp2_with fail
      go_ret
      have e : x = false := by rw [← HR.out, meetFrom_end s a k (by omega)]
      rw [e]
      exact ⟨rfl, hbw.trans (hbr.mono (by omega))⟩
end Go.Proofs.Ytapgojgcmlnbgaa
