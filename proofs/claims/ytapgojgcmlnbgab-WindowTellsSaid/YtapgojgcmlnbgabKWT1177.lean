/- slices.Reverse at []int: lines of the kit's own walk of it, turned to this dump. -/
import Derived.Test.YtapgojgcmlnbgabProg
import Derived.WalkKit
import Derived.Deep.LoopGhost
import Derived.Lib.Walk
import Derived.Sort.Row
import Derived.Lib.SlicesMore
import Derived.BigRegion
import Derived.RegionCalls
import Derived.Test.YtapgojgcmlnbgabKWT1176
import Derived.Lib.OwnBridge
set_option linter.unusedSimpArgs false
set_option linter.unusedVariables false

namespace Go.Proofs.Ytapgojgcmlnbgab
open Go.RowKit Go.Sort Go.Lib

theorem swapped {w wr : World} {n blk off : Nat} {dk : Array Int} {i j : Nat} (hi : i < dk.size) (hj : j < dk.size) (hwr : wr = putRow (Value.int .i64) (Sort.ahead w n) blk off dk)
    {x y : Value} (hx : x = Value.int .i64 dk[j]!) (hy : y = Value.int .i64 dk[i]!) : ((wr.setCell ⟨blk, off + i, none⟩ x).setCell ⟨blk, off + j, none⟩ y).drew = putRow (Value.int .i64) (Sort.ahead w (n + 1)) blk off (swp dk i j) := by
  subst hwr; subst hx; subst hy
  rw [putRow_swp (Value.int .i64) _ blk off dk i j hi hj, ← ahead_drew]
  rfl
set_option maxHeartbeats 1600000 in
set_option maxRecDepth 1000000 in
theorem reverse_arr (blk off cap : Nat) (d : Array Int) (w : World) (hH : Holds (Value.int .i64) w blk off d) (hsz : d.size ≤ 9223372036854775807) :
    Calls Try.prog 47 #[.slice (some ⟨blk, off, none⟩) d.size cap] w fun e w' => e = .returned (.tuple #[]) ∧ ∃ n, w' = putRow (Value.int .i64) (Sort.ahead w n) blk off d.reverse := by
  go_enter Try.func47, Try.ntmps47
  go_wp2
  go_loopg [2, 3] d.size (fun k s2 s3 wr => ∃ (i jn : Nat) (jz : Int) (dk : Array Int) (n : Nat), s2 = .int .i64 i ∧ s3 = .int .i64 jz ∧ ((i : Int) < jz → jz = jn ∧ jn < d.size) ∧ (¬ (i : Int) < jz → ¬ i < jn) ∧ jn - i ≤ k ∧
    dk.size = d.size ∧ wr = putRow (Value.int .i64) (Sort.ahead w n) blk off dk ∧ reverseLoop i jn dk = reverseLoop 0 (d.size - 1) d)
  case atStart => exact ⟨0, d.size - 1, (d.size : Int) - 1, d, 0, rfl, rfl, fun h => ⟨by omega, by omega⟩, fun h => by omega, by omega, rfl, (putRow_self (Value.int .i64) w blk off d hH).symm, rfl⟩
  case round =>
    obtain ⟨i, jn, jz, dk, n, rfl, rfl, h1, h2, hk, hds, hwr, heq⟩ := hrel
    by_cases hlt : (i : Int) < jz
    · obtain ⟨rfl, hjn⟩ := h1 hlt
      have hij : i < jn := by omega
      have hHk : Holds (Value.int .i64) wr blk off dk := by rw [hwr]; exact holds_putRow (Value.int .i64) _ blk off d dk (holds_ahead (Value.int .i64) w n blk off d hH) hds
      obtain ⟨ci, fi⟩ := hHk i (by omega)
      obtain ⟨cj, fj⟩ := hHk jn (by omega)
      have A : Aside (wr = putRow (Value.int .i64) (Sort.ahead w n) blk off dk) := hwr
      clear hwr hHk hH h1 h2
      go_wp2_with fail
      go_region
      go_wp2
      go_roundg (jn - 1 - (i + 1))
      case measure => omega
      case rel =>
        rw [reverseLoop, if_pos hij] at heq
        exact ⟨i + 1, jn - 1, (jn : Int) - 1, swp dk i jn, n + 1, by simp, rfl, fun h => ⟨by omega, by omega⟩, fun h => by omega, Nat.le_refl _, by rw [size_swp]; exact hds,
          swapped (by omega) (by omega) A.out (by first | rfl | simp [getElem!_pos, show jn < dk.size by omega]) (by first | rfl | simp [getElem!_pos, show i < dk.size by omega]), heq⟩
    · have hnot := h2 hlt
      go_wp2
      go_end0
      refine ⟨rfl, n, ?_⟩
      rw [reverseLoop, if_neg hnot] at heq
      rw [← Lib.reverseLoop_reverse, ← heq]
theorem reverse_any (blk off cap : Nat) (zs : List Int) (w : World) (hH : Holds (Value.int .i64) w blk off zs.toArray) (hsz : zs.length ≤ 9223372036854775807) :
    Calls Try.prog 47 #[.slice (some ⟨blk, off, none⟩) zs.length cap] w fun e w' => e = .returned (.tuple #[]) ∧ ∃ n, w' = putRow (Value.int .i64) (Sort.ahead w n) blk off zs.reverse.toArray := by
  have h := reverse_arr blk off cap zs.toArray w hH (by simpa using hsz)
  simpa using h
set_option maxHeartbeats 1000000 in
theorem reverse_none (a : Option Addr) (cap : Nat) (w : World) :
    Calls Try.prog 47 #[.slice a 0 cap] w fun e w' => e = .returned (.tuple #[]) ∧ w' = w := by
  go_enter Try.func47, Try.ntmps47
  go_wp2
  go_loopg [2, 3] 0 (fun _ s2 s3 wr => s2 = .int .i64 0 ∧ s3 = .int .i64 (-1) ∧ wr = w)
  case atStart => exact ⟨rfl, rfl, rfl⟩
  case round =>
    obtain ⟨rfl, rfl, rfl⟩ := hrel
    go_wp2
    go_end0
    exact ⟨rfl, rfl⟩
end Go.Proofs.Ytapgojgcmlnbgab

/- window.Cut. -/
namespace Go.Proofs.Ytapgojgcmlnbgab
open Go.RowKit

/-- The numbers that go, of the first k. -/
def goneF (l : List Slt) (seq : Int) (k : Nat) : List Int := ((l.take k).filter fun s => decide (seq ≤ s.seq)).map (·.seq)
theorem goneF_succ (l : List Slt) (seq : Int) {k : Nat} (hk : k < l.length) : goneF l seq (k + 1) = if (l[k]'hk).seq < seq then goneF l seq k else goneF l seq k ++ [(l[k]'hk).seq] := by
  unfold goneF
  rw [List.take_succ_eq_append_getElem hk, List.filter_append, List.map_append]
  by_cases h : (l[k]'hk).seq < seq
  · rw [if_pos h]; simp [h]
  · rw [if_neg h]; simp [show seq ≤ (l[k]'hk).seq by omega]
theorem goneF_all (l : List Slt) (seq : Int) : (goneF l seq l.length).reverse = cutO l seq := by
  unfold goneF cutO
  rw [List.take_length]
/-- What Reverse leaves of a row of the call's own. -/
theorem reverse_own {w : World} {base : Nat} {v : Value} {n : Nat} {zs : List Int} (h : w.ownsRow base 3 1 v n (zs.map (Value.int .i64))) (hn : n ≤ 9223372036854775807) :
    Calls Try.prog 47 #[v] w fun e w' => e = .returned (.tuple #[]) ∧ w'.ownsRow base 3 1 v n (zs.reverse.map (Value.int .i64)) ∧ w.grownBy w' v.ownBlock := by
  by_cases hv : v = .slice none 0 0
  · subst hv
    have h0 : n = 0 := by
      rcases h.2 with ⟨_, h0⟩ | ⟨g, c, cur, e, _⟩
      · exact h0
      · cases e
    subst h0
    have hz : zs = [] := List.eq_nil_of_length_eq_zero (by simpa using h.1)
    subst hz
    refine (reverse_none none 0 w).mono ?_
    rintro e w' ⟨rfl, rfl⟩
    exact ⟨rfl, World.ownsRow_nil _ _ _ _, ⟨rfl, rfl, rfl, Nat.le_refl _, fun _ _ _ => rfl⟩⟩
  · obtain ⟨g, cap, rfl, hbg, _, _, _, hlen, hH⟩ := Lib.holds_of_ownsRow h hv
    have hrev := reverse_any g 0 cap zs w hH (by omega)
    rw [hlen] at hrev
    refine hrev.mono ?_
    rintro e w' ⟨rfl, q, rfl⟩
    have hy : zs.reverse.length = n := by simpa using hlen
    have h1 := Lib.ownsRow_putRow (q := q) (ys := zs.reverse) h hy (Nat.le_refl n)
    rw [List.take_of_length_le (Nat.le_of_eq hy)] at h1
    refine ⟨rfl, h1, ⟨rfl, rfl, rfl, by simp [Sort.putRow, Sort.mapBlock, Sort.ahead], fun k _ hk => ?_⟩⟩
    have hgk : g ≠ k := fun e => hk (by subst e; rfl)
    simp [Sort.putRow, Sort.mapBlock, Sort.ahead, Array.getElem?_modify, hgk]
set_option maxRecDepth 100000 in
set_option maxHeartbeats 4000000 in
theorem cut_any (A : Option Addr) (cap : Nat) (l : List Slt) (seq : Int) (w : World) (hl : l.length * 16 ≤ 140737488351232) (hA : SlotsAt w w.heap.size A l) :
    Calls Try.prog 22 #[.slice A l.length cap, .int .i64 seq] w (CutPost w l seq) := by
  obtain ⟨N, hN⟩ : ∃ N, N = l.length := ⟨_, rfl⟩
  have HN := Lib.hid hN
  rw [← hN] at hl ⊢
  have HA := Lib.hid hA
  clear hA hN
  obtain ⟨i0, hi, hz0, hz1, hz2⟩ := info_parts ints_info8
  obtain ⟨j0, hj, hy0, hy1, hy2⟩ := info_parts cloneSlots_any_info
  go_enter Try.func22, Try.ntmps22
  go_upto_region 4 with (fail)
  go_loopw [6, 7, 12] (fun v6 v7 v8 wr => ∃ (k nl no : Nat) (xl xo : List Value) (AL : Option Addr) (cL : Nat) (AO : Option Addr) (cO : Nat), v6 = .slice AL nl cL ∧ v7 = .slice AO no cO ∧ v8 = .int .i64 k ∧ k ≤ N ∧ nl ≤ k ∧ no ≤ k ∧ Below w.heap.size w wr ∧ wr.ownsRow w.heap.size 34 2 (.slice AL nl cL) nl xl ∧ wr.ownsRow w.heap.size 3 1 (.slice AO no cO) no xo ∧ Hid (xl = slotsV (cutL (l.take k) seq)) ∧ Hid (xo = (goneF l seq k).map (Value.int .i64))) (fun _ _ v8 _ => N + 1 - (intOf v8).toNat)
  case atStart => exact ⟨0, 0, 0, [], [], none, 0, none, 0, rfl, rfl, rfl, Nat.zero_le _, Nat.le_refl _, Nat.le_refl _, Below.refl _ _, World.ownsRow_nil _ _ _ _, World.ownsRow_nil _ _ _ _, Lib.hid rfl, Lib.hid rfl⟩
  case round =>
    obtain ⟨k, nl, no, xl, xo, AL, cL, AO, cO, rfl, rfl, rfl, hk, hnl, hno, hb, hL, hO, Hxl, Hxo⟩ := hrel
    by_cases hlt : k < N
    · have hk' : k < l.length := by rw [← HN.out]; exact hlt
      obtain ⟨b, o, hAe, hgB, c0, c1⟩ := (HA.out.below hb).at_ hk'
      have hcl := cutL_take l seq hk'
      have hgk := goneF_succ l seq hk'
      generalize l[k]'hk' = s at *
      obtain ⟨sq, dn⟩ := s
      dsimp only at c0 c1 hcl hgk
      subst hAe
      clear hk'
      go_upto_region 6 with (fail)
      try go_simp
      refine wp_gen fun wa hq => ?_
      have hB : Blk wa wr.heap.size 34 #[.int .i64 sq, .bool dn] := by rw [hq]; exact Blk.new wr _ _
      have hbl : Below wr.heap.size wr wa := by rw [hq]; exact (Below.refl _ _).alloc (Nat.le_refl _) _
      clear hq c0 c1
      have hLa := hL.keptBelow hbl (fun j hj => (hL.lt j hj).2)
      have hOa := hO.keptBelow hbl (fun j hj => (hO.lt j hj).2)
      have hba : Below w.heap.size w wa := hb.trans (hbl.mono hb.size)
      have c0 : wa.cell? ⟨wr.heap.size, 0, none⟩ = some (.int .i64 sq) := hB.cell 0
      have c1 : wa.cell? ⟨wr.heap.size, 1, none⟩ = some (.bool dn) := hB.cell 1
      clear hB hbl hL hO
      by_cases h1 : sq < seq
      · rw [if_pos h1] at hcl hgk
        have e1 : decide (sq < seq) = true := decide_eq_true h1
        have HL1 := Lib.hid hcl
        have HO1 := Lib.hid hgk
        clear hcl hgk h1
        go_wp2_with (at_builtin; refine wpList_append_any rfl (.tmp 20) (.tmp 22) 22 rfl w.heap.size 34 j0 _ 2 16 Try.underlying22 hj hy0 hy1 hy2 rfl (by decide) (.slice AL nl cL) nl xl rfl (hLa.alloc _) (some ⟨wa.heap.size, 0, none⟩) 1 1 (slotsV [⟨sq, dn⟩]) rfl rfl (fun h => by cases h) (lit_slt wa sq dn _) (slotsV_oneCell _) (by unfold maxLen; omega) (by omega) (by have := hba.size; simp; omega) ?_; intro v6' w6 hL6 hg6; obtain ⟨AL6, cL6, rfl⟩ := own_value hL6)
        have hb6 : Below w.heap.size w w6 := (hba.alloc hba.size _).grown hg6 (by have := hba.size; simp; omega) (fun j hj => (hLa.lt j hj).1)
        have hO6 := (hOa.alloc _).kept hg6 (own_apart hOa hLa slotInt_ne.symm)
        go_roundw
        case rel => exact ⟨k + 1, nl + 1, no, xl ++ slotsV [⟨sq, dn⟩], xo, AL6, cL6, AO, cO, rfl, rfl, by go_num, by omega, by omega, by omega, hb6, hL6, hO6, Lib.hid (by rw [HL1.out, Hxl.out, slotsV_append]), Lib.hid (by rw [HO1.out, Hxo.out])⟩
        case measure => simp [intOf]; omega
      · rw [if_neg h1] at hcl hgk
        have e1 : decide (sq < seq) = false := decide_eq_false h1
        have HL1 := Lib.hid hcl
        have HO1 := Lib.hid hgk
        clear hcl hgk h1
        go_wp2_with (at_builtin; refine wpList_append_any rfl (.tmp 24) (.tmp 27) 27 rfl w.heap.size 3 i0 _ 1 8 Try.underlying27 hi hz0 hz1 hz2 rfl (by decide) (.slice AO no cO) no xo rfl (hOa.alloc _) (some ⟨wa.heap.size, 0, none⟩) 1 1 [.int .i64 sq] rfl rfl (fun h => by cases h) (lit_one wa _ _) (by simp; rfl) (by unfold maxLen; omega) (by omega) (by have := hba.size; simp; omega) ?_; intro v7' w7 hO7 hg7; obtain ⟨AO7, cO7, rfl⟩ := own_value hO7)
        have hb7 : Below w.heap.size w w7 := (hba.alloc hba.size _).grown hg7 (by have := hba.size; simp; omega) (fun j hj => (hOa.lt j hj).1)
        have hL7 := (hLa.alloc _).kept hg7 (own_apart hLa hOa slotInt_ne)
        go_roundw
        case rel => exact ⟨k + 1, nl, no + 1, xl, xo ++ [.int .i64 sq], AL, cL, AO7, cO7, rfl, rfl, by go_num, by omega, by omega, by omega, hb7, hL7, hO7, Lib.hid (by rw [HL1.out, Hxl.out]), Lib.hid (by rw [HO1.out, Hxo.out, List.map_append]; rfl)⟩
        case measure => simp [intOf]; omega
    · obtain rfl : k = N := by omega
      have e1 : ¬ k < k := by omega
      have Q1 : Hid (xl = slotsV (cutL l seq)) := Lib.hid (by rw [Hxl.out, HN.out, List.take_length])
      have hO2 : wr.ownsRow w.heap.size 3 1 (.slice AO no cO) no ((goneF l seq k).map (Value.int .i64)) := by rw [← Hxo.out]; exact hO
      have hrev := reverse_own hO2 (by omega)
      clear Hxl Hxo
      go_wp2_with (with_reducible refine hrev.mono ?_; rintro e w2 ⟨rfl, hO9, hg9⟩; have hL9 := hL.kept hg9 (own_apart hL hO slotInt_ne); have hb9 := hb.grown hg9 hb.size (fun j hj => (hO.lt j hj).1); clear hg9)
      rw [HN.out, goneF_all] at hO9
      go_ret2
      refine ⟨hb9, .slice AL nl cL, .slice AO no cO, rfl, ?_, ?_⟩
      · unfold SlotsPost
        have hn : nl = (cutL l seq).length := by have := hL9.1; rw [Q1.out, slotsV_len] at this; omega
        rw [← hn, ← Q1.out]
        exact hL9
      · have hn : no = (cutO l seq).length := by have := hO9.1; rw [List.length_map] at this; omega
        rw [← hn]
        exact hO9
end Go.Proofs.Ytapgojgcmlnbgab
