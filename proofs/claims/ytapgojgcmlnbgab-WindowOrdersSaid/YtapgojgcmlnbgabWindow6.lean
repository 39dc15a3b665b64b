/- humpyardref8.Done. -/
import Derived.Test.YtapgojgcmlnbgabWindow5
namespace Go.Proofs.Ytapgojgcmlnbgab
open Go.RowKit

set_option maxRecDepth 100000 in
set_option maxHeartbeats 2000000 in
theorem rdone_any (A : Option Addr) (cap : Nat) (l : List Slt) (seq : Int) (w : World) (hl : l.length * 16 ≤ 140737488351232) (hA : SlotsAt w w.heap.size A l) (hnil : A = none → l = [] ∧ cap = 0) :
    Calls Try.prog 18 #[.slice A l.length cap, .int .i64 seq] w fun e w' => DonePost w l seq e w' := by
  have hx := doneP_isS l seq
  obtain ⟨X, hX⟩ : ∃ X, idxP (isS seq) l 0 = X := ⟨_, rfl⟩
  rw [hX] at hx
  have HX : Hid (idxP (isS seq) (l.drop 0) ((0 : Nat) : Int) = X) := Lib.hid (by simpa using hX)
  have HD := Lib.hid hx
  obtain ⟨N, hN⟩ : ∃ N, N = l.length := ⟨_, rfl⟩
  rw [← hN] at hl ⊢
  have HN := Lib.hid hN
  have Hnil := Lib.hid hnil
  have Hc := Lib.hid hA.cells
  have hcl : Hid ((slotsV l).length = N * 2) := Lib.hid (by rw [slotsV_len, hN])
  clear hx hX hN hnil hA
  obtain ⟨i0, hi, hz0, hz1, hz2⟩ := info_parts cloneSlots_any_info
  have hown0 := World.ownsRow_lit (base := w.heap.size) (e := 34) (size := 2) w #[] 0 (Nat.le_refl _) (by unfold maxLen; omega) rfl
  go_enter Try.func18, Try.ntmps18
  go_upto_region 2 with (at_builtin; refine wpList_append_any rfl (.tmp 8) (.tmp 9) 22 rfl w.heap.size 34 i0 _ 2 16 Try.underlying22 hi hz0 hz1 hz2 rfl (by decide) _ 0 [] rfl hown0 A N cap (slotsV l) rfl hcl.out (fun hn => by obtain ⟨e1, e2⟩ := Hnil.out hn; exact ⟨by rw [HN.out, e1]; rfl, e2⟩) (fun ad hd j u hu => (World.cell?_alloc_lt _ _ _ (World.block_lt_of_cell? _ _ (Hc.out ad hd j u hu))).trans (Hc.out ad hd j u hu)) (slotsV_oneCell _) (by unfold maxLen; omega) (by omega) (by simp) ?_; intro v5 w5 hown5 hg5; have hb5 : Below w.heap.size w w5 := ((Below.refl _ _).alloc (Nat.le_refl _) _).grown hg5 (by simp) (fun k hk => by cases hk; exact Nat.le_refl _))
  try go_simp
  replace hown5 : w5.ownsRow w.heap.size 34 2 v5 N (slotsV l) := by simpa using hown5
  obtain ⟨A5, c5, rfl⟩ := own_value hown5
  have Hown := Lib.hid hown5
  have HA5 := Lib.hid (SlotsAt.own hown5)
  clear hown5 hg5 hown0
  go_upto_region 3 with (fail)
  go_loopw [7] (fun v wr => ∃ k : Nat, v = .int .i64 k ∧ k ≤ N ∧ wr = w5 ∧ Hid (idxP (isS seq) (l.drop k) k = X)) (fun v _ => N + 1 - (intOf v).toNat)
  case atStart => exact ⟨0, rfl, Nat.zero_le _, rfl, HX⟩
  case round =>
    clear HX
    obtain ⟨k, rfl, hk, rfl, Hk⟩ := hrel
    by_cases hlt : k < N
    · have hk' : k < l.length := by rw [← HN.out]; exact hlt
      obtain ⟨b, o, hAe, hgB, c0, c1⟩ := HA5.out.at_ hk'
      have hd := idxP_drop (isS seq) l hk' (k : Int)
      have hge : l[k]? = some (l[k]'hk') := List.getElem?_eq_getElem hk'
      generalize l[k]'hk' = s at *
      obtain ⟨sq, dn⟩ := s
      dsimp only at c0 c1
      by_cases hs : isS seq ⟨sq, dn⟩ = true
      · obtain ⟨rfl, rfl⟩ : sq = seq ∧ dn = false := by unfold isS at hs; simpa using hs
        have Hd : Hid ((k : Int) = X) := Lib.hid (by rw [if_pos hs] at hd; rw [← Hk.out, hd])
        have hset := Lib.hid (slotsV_set l k sq hge)
        have e1 : (sq == sq) = true := by simp
        clear hd Hk hs hge
        obtain ⟨g, c3, hv, hgb, hgl⟩ := Hown.out.form (by omega)
        injection hv with hv1 hv2 hv3
        rw [hv1] at hAe
        injection hAe with hAe
        injection hAe with h1 h2
        subst hv1 h1 h2 hv3
        simp only [Nat.zero_add] at c0 c1
        have hfz := Hown.out.frozenAt (k * 2 + 1)
        go_wp2
        try go_ret2
        have e1 := Hown.out.stored (k * 2 + 1) (.bool true)
        have hb9 := hb5.setCell (p := ⟨g, k * 2 + 1, none⟩) (by simpa using hgb) (.bool true)
        refine ⟨hb9, ?_⟩
        rw [HD.out, ← Hd.out, if_neg (by omega), Int.toNat_natCast]
        refine ⟨.slice (some ⟨g, 0, none⟩) N c5, rfl, ?_⟩
        unfold SlotsPost
        rw [hset.out, List.length_set, ← HN.out]
        exact e1.1
      · have Hd : Hid (idxP (isS seq) (l.drop (k + 1)) ((k + 1 : Nat) : Int) = X) := Lib.hid (by rw [if_neg hs] at hd; rw [← Hk.out, hd]; rfl)
        have hne : sq = seq → dn = true := fun e => by
          subst e
          cases dn with
          | true => rfl
          | false => exact absurd (by unfold isS; simp) hs
        clear hd Hk hs hge
        subst hAe
        by_cases hq : sq = seq
        · obtain rfl := hne hq
          subst hq
          clear hne
          have e1 : (sq == sq) = true := by simp
          go_wp2
          go_roundw
          case rel => exact ⟨k + 1, by go_num, by omega, by first | rfl | trivial, Hd⟩
          case measure => simp [intOf]; omega
        · have e1 : (sq == seq) = false := by simp; omega
          clear hne hq
          go_wp2
          go_roundw
          case rel => exact ⟨k + 1, by go_num, by omega, by first | rfl | trivial, Hd⟩
          case measure => simp [intOf]; omega
    · obtain rfl : k = N := by omega
      have e1 : decide ((k : Int) < k) = false := by simp
      have Hd : Hid ((-1 : Int) = X) := Lib.hid (by rw [← Hk.out, HN.out, List.drop_length]; rfl)
      clear Hk
      go_wp2
      try go_ret2
      refine ⟨hb5, ?_⟩
      rw [HD.out, ← Hd.out, if_pos (by omega)]
      rfl
end Go.Proofs.Ytapgojgcmlnbgab
