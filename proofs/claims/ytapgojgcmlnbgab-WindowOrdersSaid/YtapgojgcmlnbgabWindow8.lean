/- humpyardref8.Pop. -/
import Derived.Test.YtapgojgcmlnbgabWindow7
namespace Go.Proofs.Ytapgojgcmlnbgab
open Go.RowKit

theorem SlotsAt.dropped {w : World} {B b o : Nat} : ∀ {l : List Slt} (k : Nat), SlotsAt w B (some ⟨b, o, none⟩) l → SlotsAt w B (some ⟨b, o + k * 2, none⟩) (l.drop k)
  | l, 0, h => by simpa using h
  | [], k + 1, _ => fun h => absurd rfl h
  | s :: l, k + 1, h => by
    have := SlotsAt.dropped k h.tail
    rw [List.drop_succ_cons, show o + (k + 1) * 2 = o + 2 + k * 2 by omega]
    exact this
theorem slice_news {w : World} {B b o : Nat} {x : Addr} {l : List Slt} (hS : SlotsAt w B (some ⟨b, o, none⟩) l) {c : Prop} [Decidable c] (h0 : c → l = []) : ∀ ad, (if c then some x else some (⟨b, o, none⟩ : Addr)) = some ad → ∀ j u, (slotsV l)[j]? = some u → w.cell? (ad.add j) = some u := by
  intro ad hd j u hu
  split at hd
  · rename_i hc
    rw [h0 hc] at hu
    cases hu
  · exact hS.cells ad hd j u hu
set_option maxRecDepth 100000 in
set_option maxHeartbeats 2000000 in
theorem rpop_any (A : Option Addr) (cap : Nat) (l : List Slt) (most : Int) (w : World) (hl : l.length * 16 ≤ 140737488351232) (hcap : l.length ≤ cap) (hcm : cap ≤ 9223372036854775807) (hA : SlotsAt w w.heap.size A l) (hnil : A = none → l = [] ∧ cap = 0) :
    Calls Try.prog 21 #[.slice A l.length cap, .int .i64 most] w (PopPost w l most) := by
  obtain ⟨N, hN⟩ : ∃ N, N = l.length := ⟨_, rfl⟩
  have HN := Lib.hid hN
  rw [← hN] at hl hcap ⊢
  have HA := Lib.hid hA
  have Hnil := Lib.hid hnil
  have H0 : Hid (popK l most = 0 + popK (l.drop 0) (most - (0 : Nat))) := Lib.hid (by simp)
  clear hA hnil hN
  obtain ⟨i0, hi, hz0, hz1, hz2⟩ := info_parts ints_info8
  obtain ⟨j0, hj, hy0, hy1, hy2⟩ := info_parts cloneSlots_any_info
  go_enter Try.func21, Try.ntmps21
  go_upto_region 3 with (fail)
  go_loopw [6, 7] (fun v6 v7 wr => ∃ (k : Nat) (AI : Option Addr) (cI : Nat), v6 = .slice AI k cI ∧ v7 = .int .i64 k ∧ k ≤ N ∧ Below w.heap.size w wr ∧ wr.ownsRow w.heap.size 3 1 (.slice AI k cI) k (((l.take k).map (·.seq)).map (Value.int .i64)) ∧ Hid (popK l most = k + popK (l.drop k) (most - k))) (fun _ v7 _ => N + 1 - (intOf v7).toNat)
  case atStart => exact ⟨0, none, 0, rfl, rfl, Nat.zero_le _, Below.refl _ _, by simpa using World.ownsRow_nil _ _ _ _, H0⟩
  case round =>
    clear H0
    obtain ⟨k, AI, cI, rfl, rfl, hk, hb, hI, Hrel⟩ := hrel
    have hp := Hrel.out
    clear Hrel
    by_cases hlt : k < N ∧ (k : Int) < most
    · have hk' : k < l.length := by rw [← HN.out]; exact hlt.1
      obtain ⟨b, o, hAe, hgB, c0, c1⟩ := (HA.out.below hb).at_ hk'
      have hq := popK_drop l hk' (most - k)
      have htk : (l.take (k + 1)).map (·.seq) = (l.take k).map (·.seq) ++ [(l[k]'hk').seq] := by rw [List.take_succ_eq_append_getElem hk', List.map_append]; rfl
      generalize l[k]'hk' = s at *
      obtain ⟨sq, dn⟩ := s
      dsimp only at c0 c1 hq htk
      have e1 : decide ((k : Int) < most) = true := decide_eq_true hlt.2
      have e2 : decide ((k : Int) < (N : Int)) = true := decide_eq_true (by omega)
      have b1 : k < N := hlt.1
      cases dn with
      | true =>
        have HQ : Hid (popK l most = (k + 1 : Nat) + popK (l.drop (k + 1)) (most - ((k + 1 : Nat) : Int))) := Lib.hid (by
          rw [hp, hq, if_pos ⟨by omega, rfl⟩, show most - (k : Int) - 1 = most - ((k + 1 : Nat) : Int) by omega]
          omega)
        have HT := Lib.hid htk
        clear hp hq htk hlt
        subst hAe
        go_wp2_with (at_builtin; refine wpList_append_any rfl (.tmp 24) (.tmp 30) 27 rfl w.heap.size 3 i0 _ 1 8 Try.underlying27 hi hz0 hz1 hz2 rfl (by decide) (.slice AI k cI) k _ rfl (hI.alloc _) (some ⟨wr.heap.size, 0, none⟩) 1 1 [.int .i64 sq] rfl rfl (fun h => by cases h) (lit_one wr _ _) (by simp; rfl) (by unfold maxLen; omega) (by omega) (by have := hb.size; simp; omega) ?_; intro v7 w7 hown7 hg7; obtain ⟨A7, c7, rfl⟩ := own_value hown7)
        have hb7 : Below w.heap.size w w7 := (hb.alloc hb.size _).grown hg7 (by have := hb.size; simp; omega) (fun j hj => (hI.lt j hj).1)
        have hown8 : w7.ownsRow w.heap.size 3 1 (.slice A7 (k + 1) c7) (k + 1) (((l.take (k + 1)).map (·.seq)).map (Value.int .i64)) := by
          rw [HT.out, List.map_append]
          exact hown7
        go_roundw
        case rel => exact ⟨k + 1, A7, c7, rfl, by go_num, by omega, hb7, hown8, HQ⟩
        case measure => simp [intOf]; omega
      | false =>
        have hp0 : popK l most = k := by rw [hp, hq, if_neg (by simp)]; omega
        clear hq htk hlt
        subst hAe
        go_upto_region 6 with (fail)
        try go_simp
        clear e1 e2 c0 c1 b1
        obtain ⟨A, hAA⟩ : ∃ A, A = some (⟨b, o, none⟩ : Addr) := ⟨_, rfl⟩
        rw [← hAA] at HA Hnil ⊢
        clear hAA
        have HP := Lib.hid hp0
        clear hp0 hp
        have hown0 := World.ownsRow_lit (base := w.heap.size) (e := 34) (size := 2) wr #[] 0 hb.size (by unfold maxLen; omega) rfl
        have hSl : Hid ((slotsV (l.drop k)).length = (N - k) * 2) := Lib.hid (by rw [slotsV_len, List.length_drop, ← HN.out])
        rcases Nat.eq_zero_or_pos N with h0 | h0
        · subst h0
          obtain rfl : k = 0 := by omega
          have hl9 : Hid (slotsV (l.drop 0) = []) := Lib.hid (by rw [List.eq_nil_of_length_eq_zero HN.out.symm]; rfl)
          rcases A with _ | ad
          · have hc0 := (Hnil.out rfl).2
            subst hc0
            clear Hnil
            go_wp2_with (at_builtin; refine wpList_append_any rfl (.tmp 34) (.tmp 37) 22 rfl w.heap.size 34 j0 _ 2 16 Try.underlying22 hj hy0 hy1 hy2 rfl (by decide) _ 0 [] rfl hown0 none 0 0 [] rfl rfl (fun _ => ⟨rfl, rfl⟩) (fun ad hd => by cases hd) (fun u hu => by cases hu) (by unfold maxLen; omega) (by omega) (by have := hb.size; simp; omega) ?_; intro v5 w5 hown5 hg5)
            go_ret2
            have hb5 : Below wr.heap.size wr w5 := ((Below.refl _ _).alloc (Nat.le_refl _) _).grown hg5 (by simp) (fun k hk => by cases hk; exact Nat.le_refl _)
            refine ⟨hb.trans (hb5.mono hb.size), v5, .slice AI 0 cI, rfl, ?_, ?_⟩
            · unfold SlotsPost
              rw [HP.out, List.length_drop, ← HN.out, hl9.out]
              simpa using hown5
            · rw [HP.out]
              exact hI.keptBelow hb5 (fun j hj => (hI.lt j hj).2)
          · go_wp2_with (at_builtin; refine wpList_append_any rfl (.tmp 34) (.tmp 37) 22 rfl w.heap.size 34 j0 _ 2 16 Try.underlying22 hj hy0 hy1 hy2 rfl (by decide) _ 0 [] rfl hown0 _ _ _ [] rfl (by simp) (fun e => by first | cases e | (split at e <;> cases e)) (fun ad hd j u hu => by cases hu) (fun u hu => by cases hu) (by unfold maxLen; omega) (by omega) (by have := hb.size; simp; omega) ?_; intro v5 w5 hown5 hg5)
            go_ret2
            have hb5 : Below wr.heap.size wr w5 := ((Below.refl _ _).alloc (Nat.le_refl _) _).grown hg5 (by simp) (fun k hk => by cases hk; exact Nat.le_refl _)
            refine ⟨hb.trans (hb5.mono hb.size), v5, .slice AI 0 cI, rfl, ?_, ?_⟩
            · unfold SlotsPost
              rw [HP.out, List.length_drop, ← HN.out, hl9.out]
              simpa using hown5
            · rw [HP.out]
              exact hI.keptBelow hb5 (fun j hj => (hI.lt j hj).2)
        · obtain ⟨b, o, hAe, _⟩ := HA.out.at_ (k := 0) (by rw [← HN.out]; exact h0)
          have hS2 : SlotsAt wr wr.heap.size (some ⟨b, o + k * 2, none⟩) (l.drop k) := by
            have h1 := (HA.out.below hb).mono hb.size
            rw [hAe] at h1
            exact h1.dropped k
          have Hc := Lib.hid hS2
          have Hz : Hid (cap ≤ k → l.drop k = []) := Lib.hid (fun h => List.drop_eq_nil_of_le (by rw [← HN.out]; omega))
          subst hAe
          have g1 : k ≤ cap := by omega
          go_wp2_with (first | (at_builtin; refine wpList_append_any rfl (.tmp 34) (.tmp 37) 22 rfl w.heap.size 34 j0 _ 2 16 Try.underlying22 hj hy0 hy1 hy2 rfl (by decide) _ 0 [] rfl hown0 _ _ _ (slotsV (l.drop k)) rfl hSl.out (fun e => by split at e <;> cases e) (fun ad hd j u hu => (World.cell?_alloc_lt _ _ _ (World.block_lt_of_cell? _ _ (slice_news Hc.out (fun h => Hz.out (by omega)) ad hd j u hu))).trans (slice_news Hc.out (fun h => Hz.out (by omega)) ad hd j u hu)) (slotsV_oneCell _) (by unfold maxLen; omega) (by omega) (by have := hb.size; simp; omega) ?_; intro v5 w5 hown5 hg5) | (at_builtin; refine wpList_append_any rfl (.tmp 34) (.tmp 37) 22 rfl w.heap.size 34 j0 _ 2 16 Try.underlying22 hj hy0 hy1 hy2 rfl (by decide) _ 0 [] rfl hown0 _ _ _ (slotsV (l.drop k)) rfl hSl.out (fun e => by cases e) (fun ad hd j u hu => (World.cell?_alloc_lt _ _ _ (World.block_lt_of_cell? _ _ (Hc.out.cells ad hd j u hu))).trans (Hc.out.cells ad hd j u hu)) (slotsV_oneCell _) (by unfold maxLen; omega) (by omega) (by have := hb.size; simp; omega) ?_; intro v5 w5 hown5 hg5))
          all_goals
            go_ret2
            have hb5 : Below wr.heap.size wr w5 := ((Below.refl _ _).alloc (Nat.le_refl _) _).grown hg5 (by simp) (fun k hk => by cases hk; exact Nat.le_refl _)
            refine ⟨hb.trans (hb5.mono hb.size), v5, .slice AI k cI, rfl, ?_, ?_⟩
            · unfold SlotsPost
              rw [HP.out, List.length_drop, ← HN.out]
              simpa using hown5
            · rw [HP.out]
              exact hI.keptBelow hb5 (fun j hj => (hI.lt j hj).2)
    · by_cases hm : (k : Int) < most
      · have hkN : k = N := by omega
        have hp0 : popK l most = k := by
          rw [hp, List.drop_eq_nil_of_le (by rw [← HN.out]; omega)]
          rfl
        have e1 : decide ((k : Int) < most) = true := decide_eq_true hm
        have e2 : ¬ k < N := by omega
        clear hlt hm hkN
        go_upto_region 6 with (fail)
        all_goals
          try go_simp
          clear e1 e2
          have HP := Lib.hid hp0
          clear hp0 hp
          have hown0 := World.ownsRow_lit (base := w.heap.size) (e := 34) (size := 2) wr #[] 0 hb.size (by unfold maxLen; omega) rfl
          have hSl : Hid ((slotsV (l.drop k)).length = (N - k) * 2) := Lib.hid (by rw [slotsV_len, List.length_drop, ← HN.out])
          rcases Nat.eq_zero_or_pos N with h0 | h0
          · subst h0
            obtain rfl : k = 0 := by omega
            have hl9 : Hid (slotsV (l.drop 0) = []) := Lib.hid (by rw [List.eq_nil_of_length_eq_zero HN.out.symm]; rfl)
            rcases A with _ | ad
            · have hc0 := (Hnil.out rfl).2
              subst hc0
              clear Hnil
              go_wp2_with (at_builtin; refine wpList_append_any rfl (.tmp 34) (.tmp 37) 22 rfl w.heap.size 34 j0 _ 2 16 Try.underlying22 hj hy0 hy1 hy2 rfl (by decide) _ 0 [] rfl hown0 none 0 0 [] rfl rfl (fun _ => ⟨rfl, rfl⟩) (fun ad hd => by cases hd) (fun u hu => by cases hu) (by unfold maxLen; omega) (by omega) (by have := hb.size; simp; omega) ?_; intro v5 w5 hown5 hg5)
              go_ret2
              have hb5 : Below wr.heap.size wr w5 := ((Below.refl _ _).alloc (Nat.le_refl _) _).grown hg5 (by simp) (fun k hk => by cases hk; exact Nat.le_refl _)
              refine ⟨hb.trans (hb5.mono hb.size), v5, .slice AI 0 cI, rfl, ?_, ?_⟩
              · unfold SlotsPost
                rw [HP.out, List.length_drop, ← HN.out, hl9.out]
                simpa using hown5
              · rw [HP.out]
                exact hI.keptBelow hb5 (fun j hj => (hI.lt j hj).2)
            · go_wp2_with (at_builtin; refine wpList_append_any rfl (.tmp 34) (.tmp 37) 22 rfl w.heap.size 34 j0 _ 2 16 Try.underlying22 hj hy0 hy1 hy2 rfl (by decide) _ 0 [] rfl hown0 _ _ _ [] rfl (by simp) (fun e => by first | cases e | (split at e <;> cases e)) (fun ad hd j u hu => by cases hu) (fun u hu => by cases hu) (by unfold maxLen; omega) (by omega) (by have := hb.size; simp; omega) ?_; intro v5 w5 hown5 hg5)
              go_ret2
              have hb5 : Below wr.heap.size wr w5 := ((Below.refl _ _).alloc (Nat.le_refl _) _).grown hg5 (by simp) (fun k hk => by cases hk; exact Nat.le_refl _)
              refine ⟨hb.trans (hb5.mono hb.size), v5, .slice AI 0 cI, rfl, ?_, ?_⟩
              · unfold SlotsPost
                rw [HP.out, List.length_drop, ← HN.out, hl9.out]
                simpa using hown5
              · rw [HP.out]
                exact hI.keptBelow hb5 (fun j hj => (hI.lt j hj).2)
          · obtain ⟨b, o, hAe, _⟩ := HA.out.at_ (k := 0) (by rw [← HN.out]; exact h0)
            have hS2 : SlotsAt wr wr.heap.size (some ⟨b, o + k * 2, none⟩) (l.drop k) := by
              have h1 := (HA.out.below hb).mono hb.size
              rw [hAe] at h1
              exact h1.dropped k
            have Hc := Lib.hid hS2
            have Hz : Hid (cap ≤ k → l.drop k = []) := Lib.hid (fun h => List.drop_eq_nil_of_le (by rw [← HN.out]; omega))
            subst hAe
            have g1 : k ≤ cap := by omega
            go_wp2_with (first | (at_builtin; refine wpList_append_any rfl (.tmp 34) (.tmp 37) 22 rfl w.heap.size 34 j0 _ 2 16 Try.underlying22 hj hy0 hy1 hy2 rfl (by decide) _ 0 [] rfl hown0 _ _ _ (slotsV (l.drop k)) rfl hSl.out (fun e => by split at e <;> cases e) (fun ad hd j u hu => (World.cell?_alloc_lt _ _ _ (World.block_lt_of_cell? _ _ (slice_news Hc.out (fun h => Hz.out (by omega)) ad hd j u hu))).trans (slice_news Hc.out (fun h => Hz.out (by omega)) ad hd j u hu)) (slotsV_oneCell _) (by unfold maxLen; omega) (by omega) (by have := hb.size; simp; omega) ?_; intro v5 w5 hown5 hg5) | (at_builtin; refine wpList_append_any rfl (.tmp 34) (.tmp 37) 22 rfl w.heap.size 34 j0 _ 2 16 Try.underlying22 hj hy0 hy1 hy2 rfl (by decide) _ 0 [] rfl hown0 _ _ _ (slotsV (l.drop k)) rfl hSl.out (fun e => by cases e) (fun ad hd j u hu => (World.cell?_alloc_lt _ _ _ (World.block_lt_of_cell? _ _ (Hc.out.cells ad hd j u hu))).trans (Hc.out.cells ad hd j u hu)) (slotsV_oneCell _) (by unfold maxLen; omega) (by omega) (by have := hb.size; simp; omega) ?_; intro v5 w5 hown5 hg5))
            all_goals
              go_ret2
              have hb5 : Below wr.heap.size wr w5 := ((Below.refl _ _).alloc (Nat.le_refl _) _).grown hg5 (by simp) (fun k hk => by cases hk; exact Nat.le_refl _)
              refine ⟨hb.trans (hb5.mono hb.size), v5, .slice AI k cI, rfl, ?_, ?_⟩
              · unfold SlotsPost
                rw [HP.out, List.length_drop, ← HN.out]
                simpa using hown5
              · rw [HP.out]
                exact hI.keptBelow hb5 (fun j hj => (hI.lt j hj).2)
      · have hp0 : popK l most = k := by rw [hp, popK_neg _ (by omega)]; omega
        have e1 : decide ((k : Int) < most) = false := decide_eq_false hm
        clear hlt hm
        go_upto_region 6 with (fail)
        all_goals
          try go_simp
          clear e1
          have HP := Lib.hid hp0
          clear hp0 hp
          have hown0 := World.ownsRow_lit (base := w.heap.size) (e := 34) (size := 2) wr #[] 0 hb.size (by unfold maxLen; omega) rfl
          have hSl : Hid ((slotsV (l.drop k)).length = (N - k) * 2) := Lib.hid (by rw [slotsV_len, List.length_drop, ← HN.out])
          rcases Nat.eq_zero_or_pos N with h0 | h0
          · subst h0
            obtain rfl : k = 0 := by omega
            have hl9 : Hid (slotsV (l.drop 0) = []) := Lib.hid (by rw [List.eq_nil_of_length_eq_zero HN.out.symm]; rfl)
            rcases A with _ | ad
            · have hc0 := (Hnil.out rfl).2
              subst hc0
              clear Hnil
              go_wp2_with (at_builtin; refine wpList_append_any rfl (.tmp 34) (.tmp 37) 22 rfl w.heap.size 34 j0 _ 2 16 Try.underlying22 hj hy0 hy1 hy2 rfl (by decide) _ 0 [] rfl hown0 none 0 0 [] rfl rfl (fun _ => ⟨rfl, rfl⟩) (fun ad hd => by cases hd) (fun u hu => by cases hu) (by unfold maxLen; omega) (by omega) (by have := hb.size; simp; omega) ?_; intro v5 w5 hown5 hg5)
              go_ret2
              have hb5 : Below wr.heap.size wr w5 := ((Below.refl _ _).alloc (Nat.le_refl _) _).grown hg5 (by simp) (fun k hk => by cases hk; exact Nat.le_refl _)
              refine ⟨hb.trans (hb5.mono hb.size), v5, .slice AI 0 cI, rfl, ?_, ?_⟩
              · unfold SlotsPost
                rw [HP.out, List.length_drop, ← HN.out, hl9.out]
                simpa using hown5
              · rw [HP.out]
                exact hI.keptBelow hb5 (fun j hj => (hI.lt j hj).2)
            · go_wp2_with (at_builtin; refine wpList_append_any rfl (.tmp 34) (.tmp 37) 22 rfl w.heap.size 34 j0 _ 2 16 Try.underlying22 hj hy0 hy1 hy2 rfl (by decide) _ 0 [] rfl hown0 _ _ _ [] rfl (by simp) (fun e => by first | cases e | (split at e <;> cases e)) (fun ad hd j u hu => by cases hu) (fun u hu => by cases hu) (by unfold maxLen; omega) (by omega) (by have := hb.size; simp; omega) ?_; intro v5 w5 hown5 hg5)
              go_ret2
              have hb5 : Below wr.heap.size wr w5 := ((Below.refl _ _).alloc (Nat.le_refl _) _).grown hg5 (by simp) (fun k hk => by cases hk; exact Nat.le_refl _)
              refine ⟨hb.trans (hb5.mono hb.size), v5, .slice AI 0 cI, rfl, ?_, ?_⟩
              · unfold SlotsPost
                rw [HP.out, List.length_drop, ← HN.out, hl9.out]
                simpa using hown5
              · rw [HP.out]
                exact hI.keptBelow hb5 (fun j hj => (hI.lt j hj).2)
          · obtain ⟨b, o, hAe, _⟩ := HA.out.at_ (k := 0) (by rw [← HN.out]; exact h0)
            have hS2 : SlotsAt wr wr.heap.size (some ⟨b, o + k * 2, none⟩) (l.drop k) := by
              have h1 := (HA.out.below hb).mono hb.size
              rw [hAe] at h1
              exact h1.dropped k
            have Hc := Lib.hid hS2
            have Hz : Hid (cap ≤ k → l.drop k = []) := Lib.hid (fun h => List.drop_eq_nil_of_le (by rw [← HN.out]; omega))
            subst hAe
            have g1 : k ≤ cap := by omega
            go_wp2_with (first | (at_builtin; refine wpList_append_any rfl (.tmp 34) (.tmp 37) 22 rfl w.heap.size 34 j0 _ 2 16 Try.underlying22 hj hy0 hy1 hy2 rfl (by decide) _ 0 [] rfl hown0 _ _ _ (slotsV (l.drop k)) rfl hSl.out (fun e => by split at e <;> cases e) (fun ad hd j u hu => (World.cell?_alloc_lt _ _ _ (World.block_lt_of_cell? _ _ (slice_news Hc.out (fun h => Hz.out (by omega)) ad hd j u hu))).trans (slice_news Hc.out (fun h => Hz.out (by omega)) ad hd j u hu)) (slotsV_oneCell _) (by unfold maxLen; omega) (by omega) (by have := hb.size; simp; omega) ?_; intro v5 w5 hown5 hg5) | (at_builtin; refine wpList_append_any rfl (.tmp 34) (.tmp 37) 22 rfl w.heap.size 34 j0 _ 2 16 Try.underlying22 hj hy0 hy1 hy2 rfl (by decide) _ 0 [] rfl hown0 _ _ _ (slotsV (l.drop k)) rfl hSl.out (fun e => by cases e) (fun ad hd j u hu => (World.cell?_alloc_lt _ _ _ (World.block_lt_of_cell? _ _ (Hc.out.cells ad hd j u hu))).trans (Hc.out.cells ad hd j u hu)) (slotsV_oneCell _) (by unfold maxLen; omega) (by omega) (by have := hb.size; simp; omega) ?_; intro v5 w5 hown5 hg5))
            all_goals
              go_ret2
              have hb5 : Below wr.heap.size wr w5 := ((Below.refl _ _).alloc (Nat.le_refl _) _).grown hg5 (by simp) (fun k hk => by cases hk; exact Nat.le_refl _)
              refine ⟨hb.trans (hb5.mono hb.size), v5, .slice AI k cI, rfl, ?_, ?_⟩
              · unfold SlotsPost
                rw [HP.out, List.length_drop, ← HN.out]
                simpa using hown5
              · rw [HP.out]
                exact hI.keptBelow hb5 (fun j hj => (hI.lt j hj).2)
end Go.Proofs.Ytapgojgcmlnbgab
