/- order.Wrong. -/
import Derived.Test.YtapgojgcmlnbgaaOrder
namespace Go.Proofs.Ytapgojgcmlnbgaa
open Go.RowKit

set_option maxRecDepth 100000 in
set_option maxHeartbeats 400000 in
theorem wrong_any (A : Option Addr) (cap : Nat) (l : List Acc) (seq : Int) (w : World) (hl : l.length ≤ maxLen) (hwf : ∀ a ∈ l, a.Wf) (hA : AccsAt w w.heap.size A l) :
    Calls Try.prog 13 #[.slice A l.length cap, .int .i64 seq] w
      fun e w' => e = .returned (.tuple #[.int .i64 (wrongP l seq).1, .bool (wrongP l seq).2]) ∧ Below w.heap.size w w' := by
  unfold maxLen at hl
  generalize hx : wrongP l seq = x
  have Hx := Lib.hid hx
  clear hx
  go_enter Try.func13, Try.ntmps13
  go_wp2_with fail
  go_loopw [14] (fun v wr => ∃ k : Nat, v = .int .i64 k ∧ k ≤ l.length ∧ Below w.heap.size w wr ∧ Hid (wrongGo l seq (l.drop k) = x)) (fun v _ => l.length - (intOf v).toNat)
  case atStart => exact ⟨0, rfl, by omega, Below.refl _ _, Hx⟩
  case round =>
    obtain ⟨k, rfl, hk, hbr, HR⟩ := hrel
    by_cases hlt : k < l.length
    · obtain ⟨b, o, s, rfl, hbB, hs, hd, hmem, hcs⟩ := (hA.below hbr).at_ hlt
      obtain ⟨c0, c1, c2, c3, c4, c5, c6⟩ := hcs
      have Hd := Lib.hid hd
      have Hs := Lib.hid hs
      clear hd hs
      obtain ⟨sq, st, kn, sat, smn, sdt, sdn⟩ := s
      dsimp only at c0 c1 c2 c3 c4 c5 c6
      by_cases hst : isStore seq ⟨sq, st, kn, sat, smn, sdt, sdn⟩ = true
      · obtain ⟨rfl, rfl, rfl⟩ : st = true ∧ kn = true ∧ sq = seq := by
          simp [isStore] at hst
          simp [hst]
        have HX : Hid (l.foldl (wrongStep ⟨sq, true, true, sat, smn, sdt, sdn⟩) (0, false) = x) := by
          have h := HR.out
          rw [Hd.out, wrongGo, if_pos hst] at h
          exact h
        have hz := hbr.size
        have h3 : (sq != sq) = false := by simp
        clear hst HR Hd Hs
        go_wp2_with fail
        refine wp_gen ?_
        intro W1 hW1
        have hbs : BlkIs W1 wr.heap.size (Acc.cells ⟨sq, true, true, sat, smn, sdt, sdn⟩) := fun i => by rw [hW1, World.cell?_alloc_new]
        have hbr1 : Below w.heap.size w W1 := by rw [hW1]; exact hbr.alloc hbr.size _
        have hz1 := Lib.hid (show W1.heap.size = wr.heap.size + 1 by rw [hW1]; simp)
        clear hW1
        generalize wr.heap.size = g at hbs hz hz1 ⊢
        go_loopw [8, 9, 34] (fun v8 v9 v34 w2 => ∃ (j : Nat) (y : Int × Bool), v8 = .int .i64 y.1 ∧ v9 = .bool y.2 ∧ v34 = .int .i64 j ∧ j ≤ l.length ∧ Below (g + 1) W1 w2 ∧ Hid ((l.drop j).foldl (wrongStep ⟨sq, true, true, sat, smn, sdt, sdn⟩) y = x)) (fun _ _ v _ => l.length - (intOf v).toNat)
        case atStart => exact ⟨0, (0, false), rfl, rfl, rfl, by omega, Below.refl _ _, HX⟩
        case round =>
          obtain ⟨j, ⟨y1, y2⟩, rfl, rfl, rfl, hj, hb2, HR⟩ := hrel
          dsimp only
          have hbr2 := hbr1.trans (hb2.mono (by omega))
          by_cases hjlt : j < l.length
          · obtain ⟨b', o', a, hA', hbB', ha, hda, hmem', hcs'⟩ := ((hA.below hbr1).below (hb2.mono (by omega))).at_ hjlt
            obtain ⟨rfl, rfl⟩ : b = b' ∧ o = o' := by simpa using hA'
            obtain ⟨d0, d1, d2, d3, d4, d5, d6⟩ := hcs'
            have hbs2 := hbs.below hb2 (by omega)
            unfold BlkIs at hbs2
            have hgl : g < wr.heap.size := by have := hb2.size; have := hz1.out; omega
            have hwa := hwf a hmem'
            have hws := hwf _ hmem
            have HR' : Hid ((l.drop (j + 1)).foldl (wrongStep ⟨sq, true, true, sat, smn, sdt, sdn⟩) (wrongStep ⟨sq, true, true, sat, smn, sdt, sdn⟩ (y1, y2) a) = x) := by
              have h := HR.out
              rw [hda, List.foldl_cons] at h
              exact h
            clear hda ha hA' HR
            obtain ⟨aq, ast, akn, aat, amn, adt, adn⟩ := a
            dsimp only at d0 d1 d2 d3 d4 d5 d6
            rcases ast with _ | _
            · rcases akn with _ | _
              · go_wp2_with fail
                go_roundw
                case rel => exact ⟨j + 1, (y1, y2), rfl, rfl, by go_num, by omega, hb2.alloc (by omega) _, HR'⟩
                case measure => simp [intOf]; omega
              · rcases adn with _ | _
                · go_wp2_with fail
                  go_roundw
                  case rel => exact ⟨j + 1, (y1, y2), rfl, rfl, by go_num, by omega, hb2.alloc (by omega) _, HR'⟩
                  case measure => simp [intOf]; omega
                · by_cases hsa : sq < aq
                  · have hbn := hb2.alloc (by omega) (.cells (Acc.cells ⟨aq, false, true, aat, amn, adt, true⟩) 72)
                    rcases hm : meetB ⟨sq, true, true, sat, smn, sdt, sdn⟩ ⟨aq, false, true, aat, amn, adt, true⟩ with _ | _
                    · go_wp2_with (go_at_call 42; ((with_reducible refine (meet_any ⟨sq, true, true, sat, smn, sdt, sdn⟩ ⟨aq, false, true, aat, amn, adt, true⟩ _ hws hwa).mono ?_); rintro e w3 ⟨rfl, hb3⟩; rw [hm]))
                      go_roundw
                      case rel => exact ⟨j + 1, (y1, y2), rfl, rfl, by go_num, by omega, hbn.trans (hb3.mono (by simp; omega)), by
                        have h := HR'.out
                        simp only [wrongStep, hm, Bool.and_false, Bool.false_and] at h
                        exact h⟩
                      case measure => simp [intOf]; omega
                    · have key : ∀ b : Bool, (!y2 || decide (aq < y1)) = b → Hid ((l.drop (j + 1)).foldl (wrongStep ⟨sq, true, true, sat, smn, sdt, sdn⟩) (if b then (aq, true) else (y1, y2)) = x) := fun b hb => by
                        have h := HR'.out
                        simp only [wrongStep, hm, decide_eq_true hsa, Bool.not_false, Bool.and_true, Bool.true_and, hb] at h
                        exact h
                      have Key := Lib.hid key
                      clear key HR'
                      rcases y2 with _ | _
                      · go_wp2_with (go_at_call 42; ((with_reducible refine (meet_any ⟨sq, true, true, sat, smn, sdt, sdn⟩ ⟨aq, false, true, aat, amn, adt, true⟩ _ hws hwa).mono ?_); rintro e w3 ⟨rfl, hb3⟩; rw [hm]; have hf3 : ∀ i, w3.cell? ⟨wr.heap.size, i, none⟩ = (Acc.cells ⟨aq, false, true, aat, amn, adt, true⟩)[i]? := fun i => by rw [hb3.cell (by simp), World.cell?_alloc_new]))
                        go_roundw
                        case rel => exact ⟨j + 1, (aq, true), rfl, rfl, by go_num, by omega, hbn.trans (hb3.mono (by simp; omega)), Key.out true rfl⟩
                        case measure => simp [intOf]; omega
                      · by_cases hlq : aq < y1
                        · go_wp2_with (go_at_call 42; ((with_reducible refine (meet_any ⟨sq, true, true, sat, smn, sdt, sdn⟩ ⟨aq, false, true, aat, amn, adt, true⟩ _ hws hwa).mono ?_); rintro e w3 ⟨rfl, hb3⟩; rw [hm]; have hf3 : ∀ i, w3.cell? ⟨wr.heap.size, i, none⟩ = (Acc.cells ⟨aq, false, true, aat, amn, adt, true⟩)[i]? := fun i => by rw [hb3.cell (by simp), World.cell?_alloc_new]))
                          go_roundw
                          case rel => exact ⟨j + 1, (aq, true), rfl, rfl, by go_num, by omega, hbn.trans (hb3.mono (by simp; omega)), Key.out true (by simp [hlq])⟩
                          case measure => simp [intOf]; omega
                        · go_wp2_with (go_at_call 42; ((with_reducible refine (meet_any ⟨sq, true, true, sat, smn, sdt, sdn⟩ ⟨aq, false, true, aat, amn, adt, true⟩ _ hws hwa).mono ?_); rintro e w3 ⟨rfl, hb3⟩; rw [hm]; have hf3 : ∀ i, w3.cell? ⟨wr.heap.size, i, none⟩ = (Acc.cells ⟨aq, false, true, aat, amn, adt, true⟩)[i]? := fun i => by rw [hb3.cell (by simp), World.cell?_alloc_new]))
                          go_roundw
                          case rel => exact ⟨j + 1, (y1, true), rfl, rfl, by go_num, by omega, hbn.trans (hb3.mono (by simp; omega)), Key.out false (by simp [hlq])⟩
                          case measure => simp [intOf]; omega
                  · go_wp2_with fail
                    go_roundw
                    case rel => exact ⟨j + 1, (y1, y2), rfl, rfl, by go_num, by omega, hb2.alloc (by omega) _, by
                      have h := HR'.out
                      simp only [wrongStep, decide_eq_false hsa, Bool.and_false, Bool.false_and] at h
                      exact h⟩
                    case measure => simp [intOf]; omega
            · go_wp2_with fail
              go_roundw
              case rel => exact ⟨j + 1, (y1, y2), rfl, rfl, by go_num, by omega, hb2.alloc (by omega) _, HR'⟩
              case measure => simp [intOf]; omega
          · have e : x = (y1, y2) := by
              have h := HR.out
              rw [List.drop_eq_nil_of_le (by omega)] at h
              exact h.symm
            go_wp2_with fail
            go_ret2
            rw [e]
            exact ⟨rfl, hbr2⟩
      · have HR' : Hid (wrongGo l seq (l.drop (k + 1)) = x) := by
          have h := HR.out
          rw [Hd.out, wrongGo, if_neg hst] at h
          exact h
        have hb3 := hbr.alloc hbr.size (.cells (Acc.cells ⟨sq, st, kn, sat, smn, sdt, sdn⟩) 72)
        clear HR Hd Hs
        rcases st with _ | _
        · clear hst
          go_wp2_with fail
          go_roundw
          case rel => exact ⟨k + 1, by go_num, by omega, hb3, HR'⟩
          case measure => simp [intOf]; omega
        · rcases kn with _ | _
          · clear hst
            go_wp2_with fail
            go_roundw
            case rel => exact ⟨k + 1, by go_num, by omega, hb3, HR'⟩
            case measure => simp [intOf]; omega
          · have h3 : (sq != seq) = true := by simpa [isStore] using hst
            clear hst
            go_wp2_with fail
            go_roundw
            case rel => exact ⟨k + 1, by go_num, by omega, hb3, HR'⟩
            case measure => simp [intOf]; omega
    · have e : x = (0, false) := by
        have h := HR.out
        rw [List.drop_eq_nil_of_le (by omega)] at h
        exact h.symm
      go_wp2_with fail
      go_ret2
      rw [e]
      exact ⟨rfl, hbr⟩
end Go.Proofs.Ytapgojgcmlnbgaa
