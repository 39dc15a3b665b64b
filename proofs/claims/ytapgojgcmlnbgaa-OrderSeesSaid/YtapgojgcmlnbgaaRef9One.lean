/- The walks of the reference of order: what a load sees. -/
import Derived.Test.YtapgojgcmlnbgaaRef9
import Derived.Test.YtapgojgcmlnbgaaRef1Of
import Derived.Test.YtapgojgcmlnbgaaOrderSeePlain
namespace Go.Proofs.Ytapgojgcmlnbgaa
open Go.RowKit

theorem power_int (x : Int) (w : World) (h0 : 0 ≤ x) (h1 : x ≤ 31) :
    Calls Try.prog 67 #[.int .i64 x] w fun e w' => e = .returned (.int .i64 (2 ^ x.toNat : Nat)) ∧ w = w' := by
  obtain ⟨k, rfl⟩ := Int.eq_ofNat_of_zero_le h0
  exact power_any k w (by omega)

def seqOf : Option Acc → Int
  | some a => a.seq
  | none => 0

set_option maxRecDepth 100000 in
set_option maxHeartbeats 2000000 in
theorem one_any (A : Option Addr) (cap : Nat) (l : List Acc) (A' : Option Addr) (cap' : Nat) (m : List Int) (seq p : Int) (w : World) (hl : l.length ≤ 9223372036854775807) (hm : Bytes m)
    (hwf : ∀ a ∈ l, a.Wf) (hA : AccsAt w w.heap.size A l) (hA' : IntsAt w w.heap.size .u8 A' m) (h0 : 0 ≤ p) (h1 : p ≤ 4294967299) (hp : p < m.length) :
    Calls Try.prog 46 #[.slice A l.length cap, .slice A' m.length cap', .int .i64 seq, .int .i64 p] w
      fun e w' => e = .returned (.int .i64 (byteP l m seq p)) ∧ Below w.heap.size w w' := by
  obtain ⟨bA, oA, rfl, hbA, hcA⟩ := hA'.at_ (n := p.toNat) (by omega)
  have cP := hcA p.toNat (by omega)
  clear hcA hA'
  generalize hx : byteP l m seq p = x
  have HB : Hid (byteOf m p (l.foldl (bestStep seq p) none) = x) := Lib.hid hx
  clear hx
  obtain ⟨y0, y1⟩ := hm.getD p.toNat
  generalize hy : m.getD p.toNat 0 = y at cP y0 y1
  have HY := Lib.hid hy
  clear hy
  go_enter Try.func46, Try.ntmps46
  go_wp2_with fail
  go_loopw [9, 10, 11, 12] (fun v9 v10 v11 v12 wr => ∃ (k : Nat) (best : Option Acc), v9 = .int .i64 (byteOf m p best) ∧ v10 = .bool best.isSome ∧ v11 = .int .i64 (seqOf best) ∧ v12 = .int .i64 k ∧ k ≤ l.length ∧ Below w.heap.size w wr ∧ Hid (byteOf m p ((l.drop k).foldl (bestStep seq p) best) = x)) (fun _ _ _ v _ => l.length - (intOf v).toNat)
  case atStart => exact ⟨0, none, by rw [← HY.out, show byteOf m p none = m.getD p.toNat 0 from rfl], rfl, rfl, rfl, by omega, Below.refl _ _, HB⟩
  case round =>
    obtain ⟨k, best, rfl, rfl, rfl, rfl, hk, hbr, HR⟩ := hrel
    have hgb := hbr.size
    by_cases hlt : k < l.length
    · obtain ⟨b, o, a, rfl, hbB, ha, hd, hmem, hcs⟩ := (hA.below hbr).at_ hlt
      have hwa := hwf a hmem
      have HR' : Hid (byteOf m p ((l.drop (k + 1)).foldl (bestStep seq p) (bestStep seq p best a)) = x) := by
        have h := HR.out
        rw [hd, List.foldl_cons] at h
        exact h
      clear hd ha HR
      obtain ⟨d0, d1, d2, d3, d4, d5, d6⟩ := hcs
      have w0 := hwa.at0
      have w1' := hwa.at1
      have w2' := hwa.many0
      by_cases hgo : (a.store && a.known && decide (a.seq < seq) && hasB a p && notNewer a best) = true
      · have HR2 : Hid (byteOf m p ((l.drop (k + 1)).foldl (bestStep seq p) (some a)) = x) := by
          have h := HR'.out
          rw [show bestStep seq p best a = some a by unfold bestStep; rw [if_pos hgo]] at h
          exact h
        clear HR'
        simp only [Bool.and_eq_true] at hgo
        obtain ⟨⟨⟨⟨g1, g2⟩, g3⟩, g4⟩, g5⟩ := hgo
        have z0 := hwa.data0
        have z1 := hwa.data1
        have z3 : p - a.at_ ≤ 3 ∧ a.at_ ≤ p := by
          have l2 := manyI_hi a.many
          have hc1 := g4
          unfold hasB at hc1
          simp only [Bool.and_eq_true, decide_eq_true_eq] at hc1
          omega
        obtain ⟨z3, z4⟩ := z3
        obtain ⟨aq, ast, akn, aat, amn, adt, adn⟩ := a
        dsimp only at d0 d1 d2 d3 d4 d5 d6 g1 g2 g3 w0 w1' w2' z0 z1 z3 z4
        subst g1 g2
        have g3' : decide (seq ≤ aq) = false := by simp at g3 ⊢; exact g3
        clear g3
        obtain ⟨P, hP, P0, P1⟩ : ∃ P : Int, P = ((2 ^ (8 * (p - aat)).toNat : Nat) : Int) ∧ 0 < P ∧ P ≤ 2147483648 := ⟨_, rfl, by have := Nat.two_pow_pos (8 * (p - aat)).toNat; omega, by have : (2 ^ (8 * (p - aat)).toNat : Nat) ≤ 2 ^ 31 := Nat.pow_le_pow_right (by omega) (by omega); omega⟩
        have HP := Lib.hid hP
        have hV : byteOf m p (some ⟨aq, true, true, aat, amn, adt, adn⟩) = adt / P % 256 := by rw [hP, show (8 * (p - aat)).toNat = 8 * (p - aat).toNat by omega]; rfl
        have HV := Lib.hid hV
        clear hP hV
        generalize hvb : byteOf m p best = vb
        clear hvb
        rcases best with _ | c
        · clear g5
          go_wp2_with (go_at_call 66; ((with_reducible refine (refHas_any ⟨aq, true, true, aat, amn, adt, adn⟩ p _ w0 w1' w2').mono ?_); rintro e w2 ⟨rfl, hb2⟩; rw [g4]; have hn2 := ((Blk.new wr _ _).ext hb2).cell; have hz2 : wr.heap.size < w2.heap.size := by (have := hb2.size; simp at this; omega)))
          refine wp_region_below (by kernel_rfl) (by kernel_rfl) ?_
          repeat' (first
            | refine wpMix_plain rfl ?_
            | (refine' wpMixW_quiet _ (fun wq hwq K hK => ?_) ?_ ?_
               rotate_left 1
               · (obtain ⟨hcq, hfq⟩ := bcell hwq
                  go_wp2_with (go_at_call 67; refine (power_int _ _ (by omega) (by omega)).mono ?_; rintro e w3 ⟨rfl, rfl⟩; rw [← HP.out]; exact hK _ hwq)
                  all_goals exact hK _ hwq)
               · rfl)
            | (refine wpMix_guardT rfl rfl rfl ?_ ?_ <;> intro hc <;> first | (cases hc; done) | ((try cases hc); simp only [Act.put, List.setIfInBounds_toArray, List.set_cons_succ, List.set_cons_zero]))
            | (refine wpMix_guardF rfl rfl rfl ?_ ?_ <;> intro hc <;> first | (cases hc; done) | ((try cases hc); simp only [Act.put, List.setIfInBounds_toArray, List.set_cons_succ, List.set_cons_zero]))
            | refine wpMix_guardU rfl rfl rfl ?_)
          all_goals
            refine wpMix_nil ?_
            intro w4 hw4
            go_wp2_with fail
            go_roundw
            case rel => exact ⟨k + 1, some ⟨aq, true, true, aat, amn, adt, adn⟩, by rw [HV.out, Int.tmod_eq_emod_of_nonneg (Int.ediv_nonneg z0 (by omega))], rfl, rfl, by go_num, by omega, ((hbr.alloc hbr.size _).trans (hb2.mono (by simp; omega))).trans (hw4.mono (by omega)), HR2⟩
            case measure => simp [intOf]; omega
        · have g5' : decide (aq < c.seq) = false := by
            have : decide (c.seq ≤ aq) = true := g5
            simp at this ⊢
            exact this
          have g6 : seqOf (some c) = c.seq := rfl
          rw [g6]
          generalize c.seq = cq at g5'
          clear g5 g6
          go_wp2_with (go_at_call 66; ((with_reducible refine (refHas_any ⟨aq, true, true, aat, amn, adt, adn⟩ p _ w0 w1' w2').mono ?_); rintro e w2 ⟨rfl, hb2⟩; rw [g4]; have hn2 := ((Blk.new wr _ _).ext hb2).cell; have hz2 : wr.heap.size < w2.heap.size := by (have := hb2.size; simp at this; omega)))
          refine wp_region_below (by kernel_rfl) (by kernel_rfl) ?_
          repeat' (first
            | refine wpMix_plain rfl ?_
            | (refine' wpMixW_quiet _ (fun wq hwq K hK => ?_) ?_ ?_
               rotate_left 1
               · (obtain ⟨hcq, hfq⟩ := bcell hwq
                  go_wp2_with (go_at_call 67; refine (power_int _ _ (by omega) (by omega)).mono ?_; rintro e w3 ⟨rfl, rfl⟩; rw [← HP.out]; exact hK _ hwq)
                  all_goals exact hK _ hwq)
               · rfl)
            | (refine wpMix_guardT rfl rfl rfl ?_ ?_ <;> intro hc <;> first | (cases hc; done) | ((try cases hc); simp only [Act.put, List.setIfInBounds_toArray, List.set_cons_succ, List.set_cons_zero]))
            | (refine wpMix_guardF rfl rfl rfl ?_ ?_ <;> intro hc <;> first | (cases hc; done) | ((try cases hc); simp only [Act.put, List.setIfInBounds_toArray, List.set_cons_succ, List.set_cons_zero]))
            | refine wpMix_guardU rfl rfl rfl ?_)
          all_goals
            refine wpMix_nil ?_
            intro w4 hw4
            go_wp2_with fail
            go_roundw
            case rel => exact ⟨k + 1, some ⟨aq, true, true, aat, amn, adt, adn⟩, by rw [HV.out, Int.tmod_eq_emod_of_nonneg (Int.ediv_nonneg z0 (by omega))], rfl, rfl, by go_num, by omega, ((hbr.alloc hbr.size _).trans (hb2.mono (by simp; omega))).trans (hw4.mono (by omega)), HR2⟩
            case measure => simp [intOf]; omega
      · have HR2 : Hid (byteOf m p ((l.drop (k + 1)).foldl (bestStep seq p) best) = x) := by
          have h := HR'.out
          rw [show bestStep seq p best a = best by unfold bestStep; rw [if_neg hgo]] at h
          exact h
        clear HR' hwa
        obtain ⟨aq, ast, akn, aat, amn, adt, adn⟩ := a
        dsimp only at d0 d1 d2 d3 d4 d5 d6 hgo w0 w1' w2'
        rcases ast with _ | _
        · clear hgo
          go_wp2_with fail
          go_roundw
          case rel => exact ⟨k + 1, best, rfl, rfl, rfl, by go_num, by omega, hbr.alloc hbr.size _, HR2⟩
          case measure => simp [intOf]; omega
        rcases akn with _ | _
        · clear hgo
          go_wp2_with fail
          go_roundw
          case rel => exact ⟨k + 1, best, rfl, rfl, rfl, by go_num, by omega, hbr.alloc hbr.size _, HR2⟩
          case measure => simp [intOf]; omega
        rcases g3' : decide (seq ≤ aq) with _ | _
        rotate_left 1
        · clear hgo
          go_wp2_with fail
          go_roundw
          case rel => exact ⟨k + 1, best, rfl, rfl, rfl, by go_num, by omega, hbr.alloc hbr.size _, HR2⟩
          case measure => simp [intOf]; omega
        have g3 : decide (aq < seq) = true := by simp at g3' ⊢; exact g3'
        have G3 := Lib.hid g3
        clear g3
        rcases g4 : hasB ⟨aq, true, true, aat, amn, adt, adn⟩ p with _ | _
        · clear hgo
          go_wp2_with (go_at_call 66; ((with_reducible refine (refHas_any ⟨aq, true, true, aat, amn, adt, adn⟩ p _ w0 w1' w2').mono ?_); rintro e w2 ⟨rfl, hb2⟩; rw [g4]; have hn2 := ((Blk.new wr _ _).ext hb2).cell; have hz2 : wr.heap.size < w2.heap.size := by (have := hb2.size; simp at this; omega)))
          go_roundw
          case rel => exact ⟨k + 1, best, rfl, rfl, rfl, by go_num, by omega, (hbr.alloc hbr.size _).trans (hb2.mono (by simp; omega)), HR2⟩
          case measure => simp [intOf]; omega
        rcases best with _ | c
        · simp [G3.out, g4, notNewer] at hgo
        · have g5' : decide (aq < c.seq) = true := by
            simp only [G3.out, g4, notNewer, Bool.and_true, Bool.true_and, Bool.not_eq_true, decide_eq_false_iff_not] at hgo
            simp
            omega
          rw [show seqOf (some c) = c.seq from rfl]
          generalize hcq : c.seq = cq at g5' ⊢
          have HC := Lib.hid (show seqOf (some c) = cq from hcq)
          clear hgo hcq
          go_wp2_with (go_at_call 66; ((with_reducible refine (refHas_any ⟨aq, true, true, aat, amn, adt, adn⟩ p _ w0 w1' w2').mono ?_); rintro e w2 ⟨rfl, hb2⟩; rw [g4]; have hn2 := ((Blk.new wr _ _).ext hb2).cell; have hz2 : wr.heap.size < w2.heap.size := by (have := hb2.size; simp at this; omega)))
          go_roundw
          case rel => exact ⟨k + 1, some c, rfl, rfl, by rw [HC.out], by go_num, by omega, (hbr.alloc hbr.size _).trans (hb2.mono (by simp; omega)), HR2⟩
          case measure => simp [intOf]; omega
    · obtain rfl : k = l.length := by omega
      have HR' : byteOf m p best = x := by
        have h := HR.out
        rw [List.drop_length] at h
        exact h
      clear HR
      rw [HR']
      clear HR'
      go_wp2_with fail
      go_ret
      exact ⟨rfl, hbr⟩
end Go.Proofs.Ytapgojgcmlnbgaa
