/- window.Cut. -/
import Derived.Test.YtapgojgcmlnbgabWindow10
import Derived.Test.YtapgojgcmlnbgabReverse
import Derived.Lib.OwnBridge
namespace Go.Proofs.Ytapgojgcmlnbgab
open Go.RowKit

/-- The numbers that go, of the first k. -/
def goneF (l : List Slt) (seq : Int) (k : Nat) : List Int := ((l.take k).filter fun s => decide (seq ≤ s.seq)).map (·.seq)
theorem goneF_succ (l : List Slt) (seq : Int) {k : Nat} (hk : k < l.length) : goneF l seq (k + 1) = if (l[k]'hk).seq < seq then goneF l seq k else goneF l seq k ++ [(l[k]'hk).seq] := by
  unfold goneF
  rw [List.take_succ_eq_append_getElem hk, List.filter_append, List.map_append]
  by_cases h : (l[k]'hk).seq < seq
  · rw [if_pos h]; simp [h]
  · rw [if_neg h]; simp [show seq ≤ (l[k]'hk).seq by omega]
theorem goneF_all (l : List Slt) (seq : Int) : (goneF l seq l.length).reverse = cutO l seq := by
  unfold goneF cutO
  rw [List.take_length]
/-- What Reverse leaves of a row of the call's own. -/
theorem reverse_own {w : World} {base : Nat} {v : Value} {n : Nat} {zs : List Int} (h : w.ownsRow base 3 1 v n (zs.map (Value.int .i64))) (hn : n ≤ 9223372036854775807) :
    Calls Try.prog 47 #[v] w fun e w' => e = .returned (.tuple #[]) ∧ w'.ownsRow base 3 1 v n (zs.reverse.map (Value.int .i64)) ∧ w.grownBy w' v.ownBlock := by
  by_cases hv : v = .slice none 0 0
  · subst hv
    have h0 : n = 0 := by
      rcases h.2 with ⟨_, h0⟩ | ⟨g, c, cur, e, _⟩
      · exact h0
      · cases e
    subst h0
    have hz : zs = [] := List.eq_nil_of_length_eq_zero (by simpa using h.1)
    subst hz
    refine (reverse_none none 0 w).mono ?_
    rintro e w' ⟨rfl, rfl⟩
    exact ⟨rfl, World.ownsRow_nil _ _ _ _, ⟨rfl, rfl, rfl, Nat.le_refl _, fun _ _ _ => rfl⟩⟩
  · obtain ⟨g, cap, rfl, hbg, _, _, _, hlen, hH⟩ := Lib.holds_of_ownsRow h hv
    have hrev := reverse_any g 0 cap zs w hH (by omega)
    rw [hlen] at hrev
    refine hrev.mono ?_
    rintro e w' ⟨rfl, q, rfl⟩
    have hy : zs.reverse.length = n := by simpa using hlen
    have h1 := Lib.ownsRow_putRow (q := q) (ys := zs.reverse) h hy (Nat.le_refl n)
    rw [List.take_of_length_le (Nat.le_of_eq hy)] at h1
    refine ⟨rfl, h1, ⟨rfl, rfl, rfl, by simp [Sort.putRow, Sort.mapBlock, Sort.ahead], fun k _ hk => ?_⟩⟩
    have hgk : g ≠ k := fun e => hk (by subst e; rfl)
    simp [Sort.putRow, Sort.mapBlock, Sort.ahead, Array.getElem?_modify, hgk]
set_option maxRecDepth 100000 in
set_option maxHeartbeats 4000000 in
theorem cut_any (A : Option Addr) (cap : Nat) (l : List Slt) (seq : Int) (w : World) (hl : l.length * 16 ≤ 140737488351232) (hA : SlotsAt w w.heap.size A l) :
    Calls Try.prog 22 #[.slice A l.length cap, .int .i64 seq] w (CutPost w l seq) := by
  obtain ⟨N, hN⟩ : ∃ N, N = l.length := ⟨_, rfl⟩
  have HN := Lib.hid hN
  rw [← hN] at hl ⊢
  have HA := Lib.hid hA
  clear hA hN
  obtain ⟨i0, hi, hz0, hz1, hz2⟩ := info_parts ints_info8
  obtain ⟨j0, hj, hy0, hy1, hy2⟩ := info_parts cloneSlots_any_info
  go_enter Try.func22, Try.ntmps22
  go_upto_region 4 with (fail)
  go_loopw [6, 7, 12] (fun v6 v7 v8 wr => ∃ (k nl no : Nat) (xl xo : List Value) (AL : Option Addr) (cL : Nat) (AO : Option Addr) (cO : Nat), v6 = .slice AL nl cL ∧ v7 = .slice AO no cO ∧ v8 = .int .i64 k ∧ k ≤ N ∧ nl ≤ k ∧ no ≤ k ∧ Below w.heap.size w wr ∧ wr.ownsRow w.heap.size 34 2 (.slice AL nl cL) nl xl ∧ wr.ownsRow w.heap.size 3 1 (.slice AO no cO) no xo ∧ Hid (xl = slotsV (cutL (l.take k) seq)) ∧ Hid (xo = (goneF l seq k).map (Value.int .i64))) (fun _ _ v8 _ => N + 1 - (intOf v8).toNat)
  case atStart => exact ⟨0, 0, 0, [], [], none, 0, none, 0, rfl, rfl, rfl, Nat.zero_le _, Nat.le_refl _, Nat.le_refl _, Below.refl _ _, World.ownsRow_nil _ _ _ _, World.ownsRow_nil _ _ _ _, Lib.hid rfl, Lib.hid rfl⟩
  case round =>
    obtain ⟨k, nl, no, xl, xo, AL, cL, AO, cO, rfl, rfl, rfl, hk, hnl, hno, hb, hL, hO, Hxl, Hxo⟩ := hrel
    by_cases hlt : k < N
    · have hk' : k < l.length := by rw [← HN.out]; exact hlt
      obtain ⟨b, o, hAe, hgB, c0, c1⟩ := (HA.out.below hb).at_ hk'
      have hcl := cutL_take l seq hk'
      have hgk := goneF_succ l seq hk'
      generalize l[k]'hk' = s at *
      obtain ⟨sq, dn⟩ := s
      dsimp only at c0 c1 hcl hgk
      subst hAe
      clear hk'
      go_upto_region 6 with (fail)
      try go_simp
      refine wp_gen fun wa hq => ?_
      have hB : Blk wa wr.heap.size 34 #[.int .i64 sq, .bool dn] := by rw [hq]; exact Blk.new wr _ _
      have hbl : Below wr.heap.size wr wa := by rw [hq]; exact (Below.refl _ _).alloc (Nat.le_refl _) _
      clear hq c0 c1
      have hLa := hL.keptBelow hbl (fun j hj => (hL.lt j hj).2)
      have hOa := hO.keptBelow hbl (fun j hj => (hO.lt j hj).2)
      have hba : Below w.heap.size w wa := hb.trans (hbl.mono hb.size)
      have c0 : wa.cell? ⟨wr.heap.size, 0, none⟩ = some (.int .i64 sq) := hB.cell 0
      have c1 : wa.cell? ⟨wr.heap.size, 1, none⟩ = some (.bool dn) := hB.cell 1
      clear hB hbl hL hO
      by_cases h1 : sq < seq
      · rw [if_pos h1] at hcl hgk
        have e1 : decide (sq < seq) = true := decide_eq_true h1
        have HL1 := Lib.hid hcl
        have HO1 := Lib.hid hgk
        clear hcl hgk h1
        go_wp2_with (at_builtin; refine wpList_append_any rfl (.tmp 20) (.tmp 22) 22 rfl w.heap.size 34 j0 _ 2 16 Try.underlying22 hj hy0 hy1 hy2 rfl (by decide) (.slice AL nl cL) nl xl rfl (hLa.alloc _) (some ⟨wa.heap.size, 0, none⟩) 1 1 (slotsV [⟨sq, dn⟩]) rfl rfl (fun h => by cases h) (lit_slt wa sq dn _) (slotsV_oneCell _) (by unfold maxLen; omega) (by omega) (by have := hba.size; simp; omega) ?_; intro v6' w6 hL6 hg6; obtain ⟨AL6, cL6, rfl⟩ := own_value hL6)
        have hb6 : Below w.heap.size w w6 := (hba.alloc hba.size _).grown hg6 (by have := hba.size; simp; omega) (fun j hj => (hLa.lt j hj).1)
        have hO6 := (hOa.alloc _).kept hg6 (own_apart hOa hLa slotInt_ne.symm)
        go_roundw
        case rel => exact ⟨k + 1, nl + 1, no, xl ++ slotsV [⟨sq, dn⟩], xo, AL6, cL6, AO, cO, rfl, rfl, by go_num, by omega, by omega, by omega, hb6, hL6, hO6, Lib.hid (by rw [HL1.out, Hxl.out, slotsV_append]), Lib.hid (by rw [HO1.out, Hxo.out])⟩
        case measure => simp [intOf]; omega
      · rw [if_neg h1] at hcl hgk
        have e1 : decide (sq < seq) = false := decide_eq_false h1
        have HL1 := Lib.hid hcl
        have HO1 := Lib.hid hgk
        clear hcl hgk h1
        go_wp2_with (at_builtin; refine wpList_append_any rfl (.tmp 24) (.tmp 27) 27 rfl w.heap.size 3 i0 _ 1 8 Try.underlying27 hi hz0 hz1 hz2 rfl (by decide) (.slice AO no cO) no xo rfl (hOa.alloc _) (some ⟨wa.heap.size, 0, none⟩) 1 1 [.int .i64 sq] rfl rfl (fun h => by cases h) (lit_one wa _ _) (by simp; rfl) (by unfold maxLen; omega) (by omega) (by have := hba.size; simp; omega) ?_; intro v7' w7 hO7 hg7; obtain ⟨AO7, cO7, rfl⟩ := own_value hO7)
        have hb7 : Below w.heap.size w w7 := (hba.alloc hba.size _).grown hg7 (by have := hba.size; simp; omega) (fun j hj => (hOa.lt j hj).1)
        have hL7 := (hLa.alloc _).kept hg7 (own_apart hLa hOa slotInt_ne)
        go_roundw
        case rel => exact ⟨k + 1, nl, no + 1, xl, xo ++ [.int .i64 sq], AL, cL, AO7, cO7, rfl, rfl, by go_num, by omega, by omega, by omega, hb7, hL7, hO7, Lib.hid (by rw [HL1.out, Hxl.out]), Lib.hid (by rw [HO1.out, Hxo.out, List.map_append]; rfl)⟩
        case measure => simp [intOf]; omega
    · obtain rfl : k = N := by omega
      have e1 : ¬ k < k := by omega
      have Q1 : Hid (xl = slotsV (cutL l seq)) := Lib.hid (by rw [Hxl.out, HN.out, List.take_length])
      have hO2 : wr.ownsRow w.heap.size 3 1 (.slice AO no cO) no ((goneF l seq k).map (Value.int .i64)) := by rw [← Hxo.out]; exact hO
      have hrev := reverse_own hO2 (by omega)
      clear Hxl Hxo
      go_wp2_with (with_reducible refine hrev.mono ?_; rintro e w2 ⟨rfl, hO9, hg9⟩; have hL9 := hL.kept hg9 (own_apart hL hO slotInt_ne); have hb9 := hb.grown hg9 hb.size (fun j hj => (hO.lt j hj).1); clear hg9)
      rw [HN.out, goneF_all] at hO9
      go_ret2
      refine ⟨hb9, .slice AL nl cL, .slice AO no cO, rfl, ?_, ?_⟩
      · unfold SlotsPost
        have hn : nl = (cutL l seq).length := by have := hL9.1; rw [Q1.out, slotsV_len] at this; omega
        rw [← hn, ← Q1.out]
        exact hL9
      · have hn : no = (cutO l seq).length := by have := hO9.1; rw [List.length_map] at this; omega
        rw [← hn]
        exact hO9
end Go.Proofs.Ytapgojgcmlnbgab
