/- The walks of the reference of order. -/
import Derived.Test.YtapgojgcmlnbgaaProg
import Derived.Test.YtapgojgcmlnbgaaRegion
import Derived.Test.YtapgojgcmlnbgaaOrderPlain
import Derived.WalkLawsBesides
import Derived.Lib.Hide
namespace Go.Proofs.Ytapgojgcmlnbgaa
open Go.RowKit

theorem hasB_ref (a : Acc) (p : Int) (n : Int) (hn : n = min a.many 4) : hasB a p = (decide (a.at_ ≤ p) && decide (p < a.at_ + n) && decide (p < 4294967296)) := by
  unfold hasB manyI
  by_cases h : a.at_ ≤ p
  · have e : decide (p < a.at_ + min (max a.many 0) 4) = decide (p < a.at_ + n) := by
      by_cases h2 : p < a.at_ + n
      · rw [decide_eq_true h2]; exact decide_eq_true (by omega)
      · rw [decide_eq_false h2]; exact decide_eq_false (by omega)
    rw [e]
  · rw [decide_eq_false h]; rfl

set_option maxRecDepth 100000 in
set_option maxHeartbeats 400000 in
theorem refHas_any (a : Acc) (p : Int) (w : World) (h0 : 0 ≤ a.at_) (h1 : a.at_ ≤ 4294967295) (h2 : -9223372036854775808 ≤ a.many) :
    Calls Try.prog 66 #[.agg #[.int .i64 a.seq, .bool a.store, .bool a.known, .int .u32 a.at_, .int .i64 a.many, .int .u32 a.data, .bool a.done], .int .i64 p] w fun e w' => e = .returned (.bool (hasB a p)) ∧ Below w.heap.size w w' := by
  have hb := (Below.refl w.heap.size w).alloc (Nat.le_refl _) (.cells a.cells 72)
  generalize hx : hasB a p = x
  have Hx := Lib.hid hx
  clear hx
  by_cases hm : a.many > 4
  · have hn := hasB_ref a p 4 (by omega)
    have Hn := Lib.hid hn
    clear hn
    go_enter Try.func66, Try.ntmps66
    go_wp2
    all_goals
      go_ret
      refine ⟨ret_bool ?_, hb⟩
      rw [← Hx.out, Hn.out, Bool.eq_iff_iff]
      first | (simp; done) | (simp; omega)
  · have hn := hasB_ref a p a.many (by omega)
    have Hn := Lib.hid hn
    clear hn
    go_enter Try.func66, Try.ntmps66
    go_wp2
    all_goals
      go_ret
      refine ⟨ret_bool ?_, hb⟩
      rw [← Hx.out, Hn.out, Bool.eq_iff_iff]
      first | (simp; done) | (simp; omega)

set_option maxRecDepth 100000 in
set_option maxHeartbeats 1000000 in
theorem refFirst_any (A : Option Addr) (cap : Nat) (l : List Acc) (s : Acc) (w : World) (hl : l.length ≤ maxLen) (hwf : ∀ a ∈ l, a.Wf) (hws : s.Wf) (hA : AccsAt w w.heap.size A l) :
    Calls Try.prog 43 #[.slice A l.length cap, .agg #[.int .i64 s.seq, .bool s.store, .bool s.known, .int .u32 s.at_, .int .i64 s.many, .int .u32 s.data, .bool s.done]] w
      fun e w' => e = .returned (.tuple #[.int .i64 (l.foldl (wrongStep s) (0, false)).1, .bool (l.foldl (wrongStep s) (0, false)).2]) ∧ Below w.heap.size w w' := by
  unfold maxLen at hl
  generalize hx : l.foldl (wrongStep s) (0, false) = x
  have Hx := Lib.hid hx
  clear hx
  have s0 := hws.at0
  have s1 := hws.at1
  have s2 := hws.many0
  go_enter Try.func43, Try.ntmps43
  go_wp2_with fail
  refine wp_gen ?_
  intro W1 hW1
  have hbs : BlkIs W1 w.heap.size s.cells := by rw [hW1]; exact BlkIs.new _ _ _
  have hb1 : Below w.heap.size w W1 := by rw [hW1]; exact (Below.refl _ _).alloc (Nat.le_refl _) _
  have hz1 : w.heap.size < W1.heap.size := by rw [hW1]; simp
  clear hW1
  go_loopw [6, 7, 8] (fun v6 v7 v8 wr => ∃ (k : Nat) (y : Int × Bool), v6 = .int .i64 y.1 ∧ v7 = .bool y.2 ∧ v8 = .int .i64 k ∧ k ≤ l.length ∧ Below (w.heap.size + 1) W1 wr ∧ Hid ((l.drop k).foldl (wrongStep s) y = x)) (fun _ _ v _ => l.length - (intOf v).toNat)
  case atStart => exact ⟨0, (0, false), rfl, rfl, rfl, by omega, Below.refl _ _, Hx⟩
  case round =>
    obtain ⟨k, ⟨y1, y2⟩, rfl, rfl, rfl, hk, hbr, HR⟩ := hrel
    dsimp only
    have hbw := hb1.trans (hbr.mono (by omega))
    have hzr := hbr.size
    by_cases hlt : k < l.length
    · obtain ⟨b, o, a, rfl, hbB, ha, hd, hmem, hcs⟩ := (hA.below hbw).at_ hlt
      have hwa := hwf a hmem
      have hbs2 := hbs.below hbr (by omega)
      unfold BlkIs at hbs2
      have HR' : Hid ((l.drop (k + 1)).foldl (wrongStep s) (wrongStep s (y1, y2) a) = x) := by
        have h := HR.out
        rw [hd, List.foldl_cons] at h
        exact h
      clear hd ha HR
      obtain ⟨aq, ast, akn, aat, amn, adt, adn⟩ := a
      obtain ⟨d0, d1, d2, d3, d4, d5, d6⟩ := hcs
      dsimp only at d0 d1 d2 d3 d4 d5 d6
      have hbn := hbr.alloc (by omega) (.cells (Acc.cells ⟨aq, ast, akn, aat, amn, adt, adn⟩) 72)
      have hg : w.heap.size < wr.heap.size := by omega
      by_cases hgo : (!ast && akn && adn && decide (s.seq < aq) && (!y2 || decide (aq < y1))) = true
      · obtain ⟨rfl, rfl, rfl, h4, h5⟩ : ast = false ∧ akn = true ∧ adn = true ∧ s.seq < aq ∧ (!y2 || decide (aq < y1)) = true := by
          simp at hgo
          simp [hgo]
        have HR2 : Hid ((l.drop (k + 1)).foldl (wrongStep s) (if meetB s ⟨aq, false, true, aat, amn, adt, true⟩ then (aq, true) else (y1, y2)) = x) := by
          have h := HR'.out
          simp only [wrongStep, decide_eq_true h4, h5, Bool.not_false, Bool.and_true, Bool.true_and] at h
          exact h
        have h6 : y2 = true → aq < y1 := by
          intro h
          rw [h] at h5
          simpa using h5
        clear HR' hgo h5
        rcases y2 with _ | _
        · clear h6
          go_wp2_with fail
          refine wp_gen ?_
          intro W2 hW2
          have hba : BlkIs W2 wr.heap.size (Acc.cells ⟨aq, false, true, aat, amn, adt, true⟩) := fun i => by rw [hW2, World.cell?_alloc_new]
          have hb2 : Below (w.heap.size + 1) W1 W2 := by rw [hW2]; exact hbn
          have hbs3 : BlkIs W2 w.heap.size s.cells := fun i => by rw [hW2, World.cell?_alloc_lt _ _ _ (by simpa using hg)]; exact hbs2 i
          have hz2 := Lib.hid (show W2.heap.size = wr.heap.size + 1 by rw [hW2]; simp)
          clear hW2 hbs2
          generalize wr.heap.size = g at hba hz2 hg hzr ⊢
          have a0 := hwa.at0
          have a1 := hwa.at1
          have a2 := hwa.many0
          dsimp only at a0 a1 a2
          generalize hM : meetB s ⟨aq, false, true, aat, amn, adt, true⟩ = M at HR2
          have HM := Lib.hid hM
          clear hM
          go_loopw [6, 7, 10] (fun v6 v7 v10 w3 => ∃ (t : Nat) (m : Bool), v6 = .int .i64 (if m then aq else y1) ∧ v7 = .bool m ∧ v10 = .int .i64 t ∧ t ≤ 4 ∧ Below (g + 1) W2 w3 ∧ Hid ((m || meetFrom s ⟨aq, false, true, aat, amn, adt, true⟩ (4 - t)) = M)) (fun _ _ v _ => 4 - (intOf v).toNat)
          case atStart => exact ⟨0, false, rfl, rfl, rfl, by omega, Below.refl _ _, by rw [← HM.out]; rfl⟩
          case round =>
            obtain ⟨t, m, rfl, rfl, rfl, ht, hb3, HT⟩ := hrel
            have hbs4 := hbs3.below hb3 (by omega)
            have hba4 := hba.below hb3 (by omega)
            have hz3 := hb3.size
            have hz2' := hz2.out
            have hg3 : g < wr.heap.size := by omega
            clear hz2'
            unfold BlkIs at hbs4 hba4
            by_cases htl : t < 4
            · have hst := meetFrom_step s ⟨aq, false, true, aat, amn, adt, true⟩ t htl
              have HS := Lib.hid hst
              clear hst
              rcases h1 : hasB s (s.at_ + t) with _ | _
              · go_wp2_with (go_at_call 66; ((with_reducible refine (refHas_any s _ _ s0 s1 s2).mono ?_); rintro e w4 ⟨rfl, hb4⟩; rw [h1]))
                go_roundw
                case rel => exact ⟨t + 1, m, rfl, rfl, by go_num, by omega, hb3.trans (hb4.mono (by omega)), by rw [← HT.out, HS.out, h1]; rfl⟩
                case measure => simp [intOf]; omega
              · rcases h2 : hasB ⟨aq, false, true, aat, amn, adt, true⟩ (s.at_ + t) with _ | _
                · go_wp2_with (first
                    | (go_at_call 66; ((with_reducible refine (refHas_any s _ _ s0 s1 s2).mono ?_); rintro e w4 ⟨rfl, hb4⟩; rw [h1]; have hba5 : ∀ i, w4.cell? ⟨g, i, none⟩ = (Acc.cells ⟨aq, false, true, aat, amn, adt, true⟩)[i]? := fun i => by rw [hb4.cell (by simpa using hg3), hba4]))
                    | (go_at_call 66; ((with_reducible refine (refHas_any ⟨aq, false, true, aat, amn, adt, true⟩ _ _ a0 a1 a2).mono ?_); rintro e w5 ⟨rfl, hb5⟩; rw [h2])))
                  go_roundw
                  case rel => exact ⟨t + 1, m, rfl, rfl, by go_num, by omega, (hb3.trans (hb4.mono (by omega))).trans (hb5.mono (by have := hb4.size; omega)), by rw [← HT.out, HS.out, h1, h2]; rfl⟩
                  case measure => simp [intOf]; omega
                · go_wp2_with (first
                    | (go_at_call 66; ((with_reducible refine (refHas_any s _ _ s0 s1 s2).mono ?_); rintro e w4 ⟨rfl, hb4⟩; rw [h1]; have hba5 : ∀ i, w4.cell? ⟨g, i, none⟩ = (Acc.cells ⟨aq, false, true, aat, amn, adt, true⟩)[i]? := fun i => by rw [hb4.cell (by simpa using hg3), hba4]))
                    | (go_at_call 66; ((with_reducible refine (refHas_any ⟨aq, false, true, aat, amn, adt, true⟩ _ _ a0 a1 a2).mono ?_); rintro e w5 ⟨rfl, hb5⟩; rw [h2]; have hba6 : ∀ i, w5.cell? ⟨g, i, none⟩ = (Acc.cells ⟨aq, false, true, aat, amn, adt, true⟩)[i]? := fun i => by rw [hb5.cell (by have := hb4.size; simp; omega), hba5])))
                  go_roundw
                  case rel => exact ⟨t + 1, true, rfl, rfl, by go_num, by omega, (hb3.trans (hb4.mono (by omega))).trans (hb5.mono (by have := hb4.size; omega)), by rw [← HT.out, HS.out, h1, h2]; exact Lib.hid (by simp)⟩
                  case measure => simp [intOf]; omega
            · obtain rfl : t = 4 := by omega
              have hMm : Hid (m = M) := by
                have h := HT.out
                simp only [Nat.sub_self, meetFrom, Bool.or_false] at h
                exact h
              have hfin := hb2.trans (hb3.mono (by omega))
              go_wp2_with fail
              go_roundw
              case rel => exact ⟨k + 1, (if m then (aq, true) else (y1, false)), by cases m <;> rfl, by cases m <;> rfl, by go_num, by omega, hfin, by rw [hMm.out]; exact HR2⟩
              case measure => simp [intOf]; omega
        · have h6 := h6 rfl
          go_wp2_with fail
          refine wp_gen ?_
          intro W2 hW2
          have hba : BlkIs W2 wr.heap.size (Acc.cells ⟨aq, false, true, aat, amn, adt, true⟩) := fun i => by rw [hW2, World.cell?_alloc_new]
          have hb2 : Below (w.heap.size + 1) W1 W2 := by rw [hW2]; exact hbn
          have hbs3 : BlkIs W2 w.heap.size s.cells := fun i => by rw [hW2, World.cell?_alloc_lt _ _ _ (by simpa using hg)]; exact hbs2 i
          have hz2 := Lib.hid (show W2.heap.size = wr.heap.size + 1 by rw [hW2]; simp)
          clear hW2 hbs2
          generalize wr.heap.size = g at hba hz2 hg hzr ⊢
          have a0 := hwa.at0
          have a1 := hwa.at1
          have a2 := hwa.many0
          dsimp only at a0 a1 a2
          generalize hM : meetB s ⟨aq, false, true, aat, amn, adt, true⟩ = M at HR2
          have HM := Lib.hid hM
          clear hM
          go_loopw [6, 7, 10] (fun v6 v7 v10 w3 => ∃ (t : Nat) (m : Bool), v6 = .int .i64 (if m then aq else y1) ∧ v7 = .bool true ∧ v10 = .int .i64 t ∧ t ≤ 4 ∧ Below (g + 1) W2 w3 ∧ Hid ((m || meetFrom s ⟨aq, false, true, aat, amn, adt, true⟩ (4 - t)) = M)) (fun _ _ v _ => 4 - (intOf v).toNat)
          case atStart => exact ⟨0, false, rfl, rfl, rfl, by omega, Below.refl _ _, by rw [← HM.out]; rfl⟩
          case round =>
            obtain ⟨t, m, rfl, rfl, rfl, ht, hb3, HT⟩ := hrel
            have hbs4 := hbs3.below hb3 (by omega)
            have hba4 := hba.below hb3 (by omega)
            have hz3 := hb3.size
            have hz2' := hz2.out
            have hg3 : g < wr.heap.size := by omega
            clear hz2'
            unfold BlkIs at hbs4 hba4
            by_cases htl : t < 4
            · have hst := meetFrom_step s ⟨aq, false, true, aat, amn, adt, true⟩ t htl
              have HS := Lib.hid hst
              clear hst
              rcases h1 : hasB s (s.at_ + t) with _ | _
              · go_wp2_with (go_at_call 66; ((with_reducible refine (refHas_any s _ _ s0 s1 s2).mono ?_); rintro e w4 ⟨rfl, hb4⟩; rw [h1]))
                go_roundw
                case rel => exact ⟨t + 1, m, rfl, rfl, by go_num, by omega, hb3.trans (hb4.mono (by omega)), by rw [← HT.out, HS.out, h1]; rfl⟩
                case measure => simp [intOf]; omega
              · rcases h2 : hasB ⟨aq, false, true, aat, amn, adt, true⟩ (s.at_ + t) with _ | _
                · go_wp2_with (first
                    | (go_at_call 66; ((with_reducible refine (refHas_any s _ _ s0 s1 s2).mono ?_); rintro e w4 ⟨rfl, hb4⟩; rw [h1]; have hba5 : ∀ i, w4.cell? ⟨g, i, none⟩ = (Acc.cells ⟨aq, false, true, aat, amn, adt, true⟩)[i]? := fun i => by rw [hb4.cell (by simpa using hg3), hba4]))
                    | (go_at_call 66; ((with_reducible refine (refHas_any ⟨aq, false, true, aat, amn, adt, true⟩ _ _ a0 a1 a2).mono ?_); rintro e w5 ⟨rfl, hb5⟩; rw [h2])))
                  go_roundw
                  case rel => exact ⟨t + 1, m, rfl, rfl, by go_num, by omega, (hb3.trans (hb4.mono (by omega))).trans (hb5.mono (by have := hb4.size; omega)), by rw [← HT.out, HS.out, h1, h2]; rfl⟩
                  case measure => simp [intOf]; omega
                · go_wp2_with (first
                    | (go_at_call 66; ((with_reducible refine (refHas_any s _ _ s0 s1 s2).mono ?_); rintro e w4 ⟨rfl, hb4⟩; rw [h1]; have hba5 : ∀ i, w4.cell? ⟨g, i, none⟩ = (Acc.cells ⟨aq, false, true, aat, amn, adt, true⟩)[i]? := fun i => by rw [hb4.cell (by simpa using hg3), hba4]))
                    | (go_at_call 66; ((with_reducible refine (refHas_any ⟨aq, false, true, aat, amn, adt, true⟩ _ _ a0 a1 a2).mono ?_); rintro e w5 ⟨rfl, hb5⟩; rw [h2]; have hba6 : ∀ i, w5.cell? ⟨g, i, none⟩ = (Acc.cells ⟨aq, false, true, aat, amn, adt, true⟩)[i]? := fun i => by rw [hb5.cell (by have := hb4.size; simp; omega), hba5])))
                  go_roundw
                  case rel => exact ⟨t + 1, true, rfl, rfl, by go_num, by omega, (hb3.trans (hb4.mono (by omega))).trans (hb5.mono (by have := hb4.size; omega)), by rw [← HT.out, HS.out, h1, h2]; exact Lib.hid (by simp)⟩
                  case measure => simp [intOf]; omega
            · obtain rfl : t = 4 := by omega
              have hMm : Hid (m = M) := by
                have h := HT.out
                simp only [Nat.sub_self, meetFrom, Bool.or_false] at h
                exact h
              have hfin := hb2.trans (hb3.mono (by omega))
              go_wp2_with fail
              go_roundw
              case rel => exact ⟨k + 1, (if m then (aq, true) else (y1, true)), by cases m <;> rfl, by cases m <;> rfl, by go_num, by omega, hfin, by rw [hMm.out]; exact HR2⟩
              case measure => simp [intOf]; omega
      · have HR2 : Hid ((l.drop (k + 1)).foldl (wrongStep s) (y1, y2) = x) := by
          have h := HR'.out
          have e : wrongStep s (y1, y2) ⟨aq, ast, akn, aat, amn, adt, adn⟩ = (y1, y2) := by
            unfold wrongStep
            rw [if_neg]
            intro h2
            apply hgo
            simp at h2 ⊢
            simp [h2]
          rw [e] at h
          exact h
        clear HR'
        have hgo' := hgo
        clear hgo
        rcases ast with _ | _
        · rcases akn with _ | _
          · clear hgo'
            go_wp2_with fail
            go_roundw
            case rel => exact ⟨k + 1, (y1, y2), rfl, rfl, by go_num, by omega, hbn, HR2⟩
            case measure => simp [intOf]; omega
          · rcases adn with _ | _
            · clear hgo'
              go_wp2_with fail
              go_roundw
              case rel => exact ⟨k + 1, (y1, y2), rfl, rfl, by go_num, by omega, hbn, HR2⟩
              case measure => simp [intOf]; omega
            · by_cases h4 : aq ≤ s.seq
              · clear hgo'
                go_wp2_with fail
                go_roundw
                case rel => exact ⟨k + 1, (y1, y2), rfl, rfl, by go_num, by omega, hbn, HR2⟩
                case measure => simp [intOf]; omega
              · obtain ⟨rfl, h6⟩ : y2 = true ∧ y1 ≤ aq := by
                  have h5 : s.seq < aq := by omega
                  simp [h5] at hgo'
                  simp [hgo']
                clear hgo'
                go_wp2_with fail
                go_roundw
                case rel => exact ⟨k + 1, (y1, true), rfl, rfl, by go_num, by omega, hbn, HR2⟩
                case measure => simp [intOf]; omega
        · clear hgo'
          go_wp2_with fail
          go_roundw
          case rel => exact ⟨k + 1, (y1, y2), rfl, rfl, by go_num, by omega, hbn, HR2⟩
          case measure => simp [intOf]; omega
    · have e : x = (y1, y2) := by
        have h := HR.out
        rw [List.drop_eq_nil_of_le (by omega)] at h
        exact h.symm
      go_wp2_with fail
      go_ret2
      rw [e]
      exact ⟨rfl, hbw⟩

set_option maxRecDepth 100000 in
set_option maxHeartbeats 400000 in
theorem refWrong_any (A : Option Addr) (cap : Nat) (l : List Acc) (seq : Int) (w : World) (hl : l.length ≤ maxLen) (hwf : ∀ a ∈ l, a.Wf) (hA : AccsAt w w.heap.size A l) :
    Calls Try.prog 14 #[.slice A l.length cap, .int .i64 seq] w
      fun e w' => e = .returned (.tuple #[.int .i64 (wrongP l seq).1, .bool (wrongP l seq).2]) ∧ Below w.heap.size w w' := by
  have hl0 := hl
  unfold maxLen at hl
  generalize hx : wrongP l seq = x
  have Hx := Lib.hid hx
  clear hx
  have Hl0 := Lib.hid hl0
  clear hl0
  go_enter Try.func14, Try.ntmps14
  go_wp2_with fail
  go_loop [6] (fun v => ∃ k : Nat, v = .int .i64 k ∧ k ≤ l.length ∧ Hid (wrongGo l seq (l.drop k) = x)) (fun v => l.length - (intOf v).toNat)
  case atStart => exact ⟨0, rfl, by omega, Hx⟩
  case round =>
    obtain ⟨k, rfl, hk, HR⟩ := hrel
    by_cases hlt : k < l.length
    · obtain ⟨b, o, s, rfl, hbB, hs, hd, hmem, hcs⟩ := hA.at_ hlt
      obtain ⟨c0, c1, c2, c3, c4, c5, c6⟩ := hcs
      have Hd := Lib.hid hd
      clear hd hs
      by_cases hst : isStore seq s = true
      · have HX : Hid (l.foldl (wrongStep s) (0, false) = x) := by
          have h := HR.out
          rw [Hd.out, wrongGo, if_pos hst] at h
          exact h
        have hws := hwf s hmem
        clear HR
        obtain ⟨sq, st, kn, sat, smn, sdt, sdn⟩ := s
        dsimp only at c0 c1 c2 c3 c4 c5 c6
        obtain ⟨rfl, rfl, rfl⟩ : st = true ∧ kn = true ∧ sq = seq := by
          simp [isStore] at hst
          simp [hst]
        clear hst
        have h3 : (sq == sq) = true := by simp
        go_wp2_with (go_at_call 43; ((with_reducible refine (refFirst_any _ _ l ⟨sq, true, true, sat, smn, sdt, sdn⟩ _ Hl0.out hwf hws hA).mono ?_); rintro e w3 ⟨rfl, hb3⟩; rw [HX.out]))
        go_ret2
        exact ⟨rfl, hb3⟩
      · have HR' : Hid (wrongGo l seq (l.drop (k + 1)) = x) := by
          have h := HR.out
          rw [Hd.out, wrongGo, if_neg hst] at h
          exact h
        clear HR Hd
        obtain ⟨sq, st, kn, sat, smn, sdt, sdn⟩ := s
        dsimp only at c0 c1 c2 c3 c4 c5 c6
        rcases st with _ | _
        · clear hst
          go_wp2_with fail
          go_round
          case rel => exact ⟨k + 1, by go_num, by omega, HR'⟩
          case measure => simp [intOf]; omega
        · rcases kn with _ | _
          · clear hst
            go_wp2_with fail
            go_round
            case rel => exact ⟨k + 1, by go_num, by omega, HR'⟩
            case measure => simp [intOf]; omega
          · have h3 : (sq == seq) = false := by simpa [isStore] using hst
            clear hst
            go_wp2_with fail
            go_round
            case rel => exact ⟨k + 1, by go_num, by omega, HR'⟩
            case measure => simp [intOf]; omega
    · obtain rfl : x = (0, false) := by
        have h := HR.out
        rw [List.drop_eq_nil_of_le (by omega)] at h
        exact h.symm
      go_wp2_with fail
      go_ret2
      exact ⟨rfl, Below.refl _ _⟩
end Go.Proofs.Ytapgojgcmlnbgaa
