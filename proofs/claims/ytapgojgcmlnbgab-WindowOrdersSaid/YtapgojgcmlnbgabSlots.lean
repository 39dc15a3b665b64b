/- Rows of slots; slices.Clone of them; the document's two comparisons. -/
import Derived.Test.YtapgojgcmlnbgabWindowPlain
import Derived.Test.YtapgojgcmlnbgabData
import Derived.Test.YtapgojgcmlnbgabRegion
import Derived.Test.YtapgojgcmlnbgabAppend
import Derived.Test.YtapgojgcmlnbgabProg
import Derived.WalkLawsBesides
import Derived.WalkSpells
import Derived.Lib.Hide
import Derived.Outline
import Derived.Deep.Cut
namespace Go.Proofs.Ytapgojgcmlnbgab
open Go.RowKit

/-- The cells of a row of slots. -/
def slotsV (l : List Slt) : List Value := l.flatMap fun s => [.int .i64 s.seq, .bool s.done]
theorem slotsV_len : ∀ l : List Slt, (slotsV l).length = l.length * 2
  | [] => rfl
  | s :: l => by
    have ih := slotsV_len l
    unfold slotsV at ih ⊢
    rw [List.flatMap_cons, List.length_append, ih, List.length_cons]
    simp
    omega
theorem slotsV_append (l k : List Slt) : slotsV (l ++ k) = slotsV l ++ slotsV k := by unfold slotsV; rw [List.flatMap_append]
theorem slotsV_at : ∀ (l : List Slt) (k : Nat) (s : Slt), l[k]? = some s → (slotsV l)[k * 2]? = some (.int .i64 s.seq) ∧ (slotsV l)[k * 2 + 1]? = some (.bool s.done)
  | [], _, _, h => by cases h
  | d :: l, 0, s, h => by cases h; exact ⟨rfl, rfl⟩
  | d :: l, k + 1, s, h => by
    have e : slotsV (d :: l) = .int .i64 d.seq :: .bool d.done :: slotsV l := rfl
    rw [e, show (k + 1) * 2 = k * 2 + 1 + 1 by omega, List.getElem?_cons_succ, List.getElem?_cons_succ, List.getElem?_cons_succ, List.getElem?_cons_succ]
    exact slotsV_at l k s (by simpa using h)
theorem slotsV_oneCell (l : List Slt) : ∀ u ∈ slotsV l, u.oneCell' = true := by
  intro u hu
  unfold slotsV at hu
  obtain ⟨s, _, hs⟩ := List.mem_flatMap.1 hu
  simp at hs
  rcases hs with rfl | rfl <;> rfl
/-- A row of slots that reads, below a place. -/
def SlotsAt (w : World) (B : Nat) (A : Option Addr) (l : List Slt) : Prop :=
  l ≠ [] → ∃ b o, A = some ⟨b, o, none⟩ ∧ b < B ∧ ∀ j u, (slotsV l)[j]? = some u → w.cell? ⟨b, o + j, none⟩ = some u
theorem SlotsAt.below {w w' : World} {B : Nat} {A : Option Addr} {l : List Slt} (h : SlotsAt w B A l) (hb : Below B w w') : SlotsAt w' B A l := fun hne => by
  obtain ⟨b, o, hA, hB, hc⟩ := h hne
  exact ⟨b, o, hA, hB, fun j u hj => (hb.cell (p := ⟨b, o + j, none⟩) hB).trans (hc j u hj)⟩
theorem SlotsAt.mono {w : World} {B B' : Nat} {A : Option Addr} {l : List Slt} (h : SlotsAt w B A l) (hB : B ≤ B') : SlotsAt w B' A l := fun hne => by
  obtain ⟨b, o, hA, hb, hc⟩ := h hne
  exact ⟨b, o, hA, by omega, hc⟩
theorem SlotsAt.at_ {w : World} {B : Nat} {A : Option Addr} {l : List Slt} (h : SlotsAt w B A l) {k : Nat} (hk : k < l.length) :
    ∃ b o, A = some ⟨b, o, none⟩ ∧ b < B ∧ w.cell? ⟨b, o + k * 2, none⟩ = some (.int .i64 (l[k]'hk).seq) ∧ w.cell? ⟨b, o + k * 2 + 1, none⟩ = some (.bool (l[k]'hk).done) := by
  have hne : l ≠ [] := by intro e; subst e; simp at hk
  obtain ⟨b, o, hA, hb, hc⟩ := h hne
  obtain ⟨h1, h2⟩ := slotsV_at l k _ (List.getElem?_eq_getElem hk)
  exact ⟨b, o, hA, hb, hc _ _ h1, by rw [Nat.add_assoc]; exact hc _ _ h2⟩
theorem SlotsAt.cells {w : World} {B : Nat} {A : Option Addr} {l : List Slt} (h : SlotsAt w B A l) : ∀ ad, A = some ad → ∀ j u, (slotsV l)[j]? = some u → w.cell? (ad.add j) = some u := by
  intro ad hA j u hu
  have hne : l ≠ [] := by intro e; subst e; cases hu
  obtain ⟨b, o, h1, _, hc⟩ := h hne
  rw [h1] at hA
  cases hA
  rw [Addr.add_lit]
  exact hc j u hu
theorem SlotsAt.own {w : World} {base : Nat} {A : Option Addr} {cap n : Nat} {l : List Slt} (h : w.ownsRow base 34 2 (.slice A n cap) n (slotsV l)) : SlotsAt w w.heap.size A l := fun hne => by
  have hn : n = l.length := by have := h.1; rw [slotsV_len] at this; omega
  have h0 : 0 < l.length := List.length_pos_iff.2 hne
  subst hn
  have hcell := fun (g : Nat) (hg : (Value.slice A l.length cap).ownBlock = some g) => h.cells (g := g) hg
  rcases h.2 with ⟨_, h2⟩ | ⟨g, c, cur, hv, _, hh, _⟩
  · omega
  · injection hv with hv1 hv2 hv3
    subst hv1
    refine ⟨g, 0, rfl, (Array.getElem?_eq_some_iff.1 hh).1, fun j u hj => ?_⟩
    have := hcell g rfl j u hj
    rwa [Addr.add_lit] at this
theorem cloneSlots_any_info : (Try.prog.info? 34).map (fun i => (i.zero, i.size, i.bytes)) = some (some (.agg #[.int .i64 0, .bool false]), 2, 16) := by kernel_rfl
set_option maxRecDepth 100000 in
set_option maxHeartbeats 400000 in
theorem cloneSlots_any (A : Option Addr) (n cap : Nat) (cs : List Value) (w : World) (hl : n * 16 ≤ 140737488355328) (hlen : cs.length = n * 2) (h1 : ∀ u ∈ cs, u.oneCell' = true)
    (hc : ∀ ad, A = some ad → ∀ j u, cs[j]? = some u → w.cell? (ad.add j) = some u) (hnil : A = none → n = 0) :
    Calls Try.prog 45 #[.slice A n cap] w fun e w' => ∃ v, e = .returned v ∧ w'.ownsRow w.heap.size 34 2 v n cs ∧ Below w.heap.size w w' := by
  rcases A with _ | ad
  · obtain rfl := hnil rfl
    obtain rfl : cs = [] := List.eq_nil_of_length_eq_zero (by simpa using hlen)
    have hn := Lib.run_eql_slice_nil (P := Try.prog) w 22 34 none 0 cap 0 0 Try.underlying22
    go_enter Try.func45, Try.ntmps45
    go_wp2
    go_ret
    exact ⟨_, rfl, World.ownsRow_nil _ _ _ _, Below.refl _ _⟩
  · have hn := Lib.run_eql_slice_nil (P := Try.prog) w 22 34 (some ad) n cap 0 0 Try.underlying22
    obtain ⟨i0, hi, hz0, hz1, hz2⟩ := info_parts cloneSlots_any_info
    have Hc := Lib.hid (hc ad rfl)
    clear hc hnil
    have hown0 := World.ownsRow_lit (base := w.heap.size) (e := 34) (size := 2) w #[] 0 (Nat.le_refl _) (by unfold maxLen; omega) rfl
    go_enter Try.func45, Try.ntmps45
    go_wp2_with (at_builtin; refine wpList_append_own _ rfl (.tmp 5) (.tmp 6) 22 rfl w.heap.size 34 i0 _ 2 16 Try.underlying22 hi hz0 hz1 hz2 rfl (by decide) _ 0 [] rfl hown0 ad n cap cs rfl hlen (fun j u hu => (World.cell?_alloc_lt _ _ _ (World.block_lt_of_cell? _ _ (Hc.out j u hu))).trans (Hc.out j u hu)) h1 (by unfold maxLen; omega) (by omega) (by simp) ?_; intro v1 w1 hown1 hg1 hat1)
    go_ret
    refine ⟨v1, rfl, by simpa using hown1, ((Below.refl _ _).alloc (Nat.le_refl _) _).grown hg1 (by simp) (fun k hk => ?_)⟩
    cases hk
    exact Nat.le_refl _

set_option maxRecDepth 100000 in
set_option maxHeartbeats 1000000 in
theorem wslots_any (A A' : Option Addr) (cap cap' : Nat) (l : List Slt) (w : World) (hl : l.length ≤ 9223372036854775807) (hA : SlotsAt w w.heap.size A l) (hA' : SlotsAt w w.heap.size A' l) :
    Calls Try.prog 19 #[.slice A l.length cap, .slice A' l.length cap'] w fun e w' => e = .returned (.bool true) ∧ Below w.heap.size w w' := by
  obtain ⟨N, hN⟩ : ∃ N, N = l.length := ⟨_, rfl⟩
  rw [← hN] at hl ⊢
  have HA := Lib.hid hA
  have HA' := Lib.hid hA'
  have HN := Lib.hid hN
  clear hA hA' hN
  have e0 : ((N : Int) != (N : Int)) = false := by simp
  go_enter Try.func19, Try.ntmps19
  go_upto_region 4 with (fail)
  clear e0
  go_loopw [5] (fun v wr => ∃ k : Nat, v = .int .i64 k ∧ k ≤ N ∧ Below w.heap.size w wr) (fun v _ => N + 1 - (intOf v).toNat)
  case atStart => exact ⟨0, rfl, Nat.zero_le _, Below.refl _ _⟩
  case round =>
    obtain ⟨k, rfl, hk, hb⟩ := hrel
    by_cases hlt : k < N
    · have hk' : k < l.length := by rw [← HN.out]; exact hlt
      obtain ⟨g, o, rfl, hgB, c0, c1⟩ := (HA.out.below hb).at_ hk'
      obtain ⟨g', o', rfl, hgB', c0', c1'⟩ := (HA'.out.below hb).at_ hk'
      generalize (l[k]'hk').seq = sq at *
      generalize (l[k]'hk').done = dn at *
      have z1 : g < wr.heap.size := Nat.lt_of_lt_of_le hgB hb.size
      have z2 : g' < wr.heap.size := Nat.lt_of_lt_of_le hgB' hb.size
      have e1 : (sq != sq) = false := by simp
      have e2 : (dn != dn) = false := by simp
      go_upto_region 6 with (fail)
      refine wp_region_below (by kernel_rfl) (by kernel_rfl) ?_
      repeat' (first
        | refine wpMix_plain rfl ?_
        | (refine' wpMixW_quiet _ (fun wq hwq K hK => ?_) ?_ ?_
           rotate_left 1
           · (have k0 := (hwq.cell (p := ⟨g, o + k * 2, none⟩) z1).trans c0; have k1 := (hwq.cell (p := ⟨g, o + k * 2 + 1, none⟩) z1).trans c1; have k2 := (hwq.cell (p := ⟨g', o' + k * 2, none⟩) z2).trans c0'; have k3 := (hwq.cell (p := ⟨g', o' + k * 2 + 1, none⟩) z2).trans c1'
              go_wp2_with (fail)
              all_goals exact hK _ hwq)
           · rfl)
        | (refine wpMix_guardT rfl rfl rfl ?_ ?_ <;> intro hc <;> first | (cases hc; done) | ((try cases hc); simp only [Act.put, List.setIfInBounds_toArray, List.set_cons_succ, List.set_cons_zero]))
        | (refine wpMix_guardF rfl rfl rfl ?_ ?_ <;> intro hc <;> first | (cases hc; done) | ((try cases hc); simp only [Act.put, List.setIfInBounds_toArray, List.set_cons_succ, List.set_cons_zero]))
        | refine wpMix_guardU rfl rfl rfl ?_)
      all_goals
        refine wpMix_nil ?_
        intro w9 hw9
        have hb9 := hb.trans (hw9.mono hb.size)
        go_wp2
        go_roundw
        case rel => exact ⟨k + 1, by go_num, by omega, hb9⟩
        case measure => simp [intOf]; omega
    · obtain rfl : k = N := by omega
      have e1 : decide ((k : Int) < k) = false := by simp
      go_wp2
      go_ret
      exact ⟨rfl, hb⟩
set_option maxRecDepth 100000 in
set_option maxHeartbeats 1000000 in
theorem wints_any (A A' : Option Addr) (cap cap' : Nat) (l : List Int) (w : World) (hl : l.length ≤ 9223372036854775807) (hA : IntsAt w w.heap.size .i64 A l) (hA' : IntsAt w w.heap.size .i64 A' l) :
    Calls Try.prog 24 #[.slice A l.length cap, .slice A' l.length cap'] w fun e w' => e = .returned (.bool true) ∧ Below w.heap.size w w' := by
  obtain ⟨N, hN⟩ : ∃ N, N = l.length := ⟨_, rfl⟩
  rw [← hN] at hl ⊢
  have HA := Lib.hid hA
  have HA' := Lib.hid hA'
  have HN := Lib.hid hN
  clear hA hA' hN
  have e0 : ((N : Int) != (N : Int)) = false := by simp
  go_enter Try.func24, Try.ntmps24
  go_upto_region 4 with (fail)
  clear e0
  go_loopw [5] (fun v wr => ∃ k : Nat, v = .int .i64 k ∧ k ≤ N ∧ Below w.heap.size w wr) (fun v _ => N + 1 - (intOf v).toNat)
  case atStart => exact ⟨0, rfl, Nat.zero_le _, Below.refl _ _⟩
  case round =>
    obtain ⟨k, rfl, hk, hb⟩ := hrel
    by_cases hlt : k < N
    · have hk' : k < l.length := by rw [← HN.out]; exact hlt
      obtain ⟨g, o, rfl, hgB, c0⟩ := (HA.out.below hb).at_ hk'
      obtain ⟨g', o', rfl, hgB', c0'⟩ := (HA'.out.below hb).at_ hk'
      replace c0 := c0 k hk'
      replace c0' := c0' k hk'
      generalize l.getD k 0 = sq at *
      have z1 : g < wr.heap.size := Nat.lt_of_lt_of_le hgB hb.size
      have z2 : g' < wr.heap.size := Nat.lt_of_lt_of_le hgB' hb.size
      have e1 : (sq != sq) = false := by simp
      go_upto_region 6 with (fail)
      refine wp_region_below (by kernel_rfl) (by kernel_rfl) ?_
      repeat' (first
        | refine wpMix_plain rfl ?_
        | (refine' wpMixW_quiet _ (fun wq hwq K hK => ?_) ?_ ?_
           rotate_left 1
           · (have k0 := (hwq.cell (p := ⟨g, o + k, none⟩) z1).trans c0; have k2 := (hwq.cell (p := ⟨g', o' + k, none⟩) z2).trans c0'
              go_wp2_with (fail)
              all_goals exact hK _ hwq)
           · rfl)
        | (refine wpMix_guardT rfl rfl rfl ?_ ?_ <;> intro hc <;> first | (cases hc; done) | ((try cases hc); simp only [Act.put, List.setIfInBounds_toArray, List.set_cons_succ, List.set_cons_zero]))
        | (refine wpMix_guardF rfl rfl rfl ?_ ?_ <;> intro hc <;> first | (cases hc; done) | ((try cases hc); simp only [Act.put, List.setIfInBounds_toArray, List.set_cons_succ, List.set_cons_zero]))
        | refine wpMix_guardU rfl rfl rfl ?_)
      all_goals
        refine wpMix_nil ?_
        intro w9 hw9
        have hb9 := hb.trans (hw9.mono hb.size)
        go_wp2
        go_roundw
        case rel => exact ⟨k + 1, by go_num, by omega, hb9⟩
        case measure => simp [intOf]; omega
    · obtain rfl : k = N := by omega
      have e1 : decide ((k : Int) < k) = false := by simp
      go_wp2
      go_ret
      exact ⟨rfl, hb⟩
end Go.Proofs.Ytapgojgcmlnbgab
