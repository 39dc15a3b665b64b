/- window.Push, and the document's. -/
import Derived.Test.YtapgojgcmlnbgabWindow1
import Derived.Deep.RegionWith
import Derived.Deep.RegionLaw
namespace Go.Proofs.Ytapgojgcmlnbgab
open Go.RowKit

/-- What a new row of slots is handed back as. -/
def SlotsPost (w : World) (l : List Slt) (v : Value) (w' : World) : Prop :=
  w'.ownsRow w.heap.size 34 2 v l.length (slotsV l)
theorem lit_slot (w : World) (seq : Int) (t : TypeId) : ∀ ad, some (⟨w.heap.size, 0, none⟩ : Addr) = some ad → ∀ j v, (slotsV [⟨seq, false⟩])[j]? = some v → (w.alloc (.cells #[.int .i64 seq, .bool false] t)).cell? (ad.add j) = some v := by
  intro ad h j v hj
  cases h
  rw [Addr.add_lit, Nat.zero_add, World.cell?_alloc_new]
  have e : slotsV [⟨seq, false⟩] = [.int .i64 seq, .bool false] := rfl
  rw [e] at hj
  simpa using hj
theorem own_low {w : World} {base base' : Nat} {e : TypeId} {size : Nat} {v : Value} {n : Nat} {xs : List Value} (h : w.ownsRow base e size v n xs) (hb : base' ≤ base) : w.ownsRow base' e size v n xs :=
  ⟨h.1, h.2.imp id fun ⟨g, cap, cur, e, l, r⟩ => ⟨g, cap, cur, e, Nat.le_trans hb l, r⟩⟩
theorem step_of {P : Program} {ops : Array Oper} {o : Oper} {a : Act} {w : World} {K : Act → World → Prop} {Q : Exit → Act → World → Prop} {E : Prop} (hg : o.guard = none) (h : o.wp P a w K Q) : if Region.wanted o (yielded ops a.tmps) = true then Oper.wp P o a w K Q else E := by
  have hw : Region.wanted o (yielded ops a.tmps) = true := by simp [Region.wanted, hg]
  rw [if_pos hw]
  exact h
theorem lit_slot_kept {W w5 : World} {w : World} {seq : Int} {t : TypeId} (hW : W = w.alloc (.cells #[.int .i64 seq, .bool false] t)) (hb : Below W.heap.size W w5) : ∀ ad, some (⟨w.heap.size, 0, none⟩ : Addr) = some ad → ∀ j v, (slotsV [⟨seq, false⟩])[j]? = some v → w5.cell? (ad.add j) = some v := by
  intro ad h j v hj
  have h1 := lit_slot w seq t ad h j v hj
  rw [← hW] at h1
  have h2 := World.block_lt_of_cell? _ _ h1
  exact (hb.cell h2).trans h1
set_option maxRecDepth 100000 in
set_option maxHeartbeats 2000000 in
theorem push_any (A : Option Addr) (cap : Nat) (l : List Slt) (room seq : Int) (w : World) (hl : l.length * 16 ≤ 140737488351232) (hA : SlotsAt w w.heap.size A l) (hnil : A = none → l = [] ∧ cap = 0) :
    Calls Try.prog 15 #[.slice A l.length cap, .int .i64 room, .int .i64 seq] w fun e w' => Below w.heap.size w w' ∧ match pushP l room seq with
      | none => e = .returned (.tuple #[.slice none 0 0, .bool false])
      | some k => ∃ v, e = .returned (.tuple #[v, .bool true]) ∧ SlotsPost w k v w' := by
  have hx : pushP l room seq = if room ≤ l.length ∨ (l.any fun s => decide (seq ≤ s.seq)) = true then none else some (l ++ [⟨seq, false⟩]) := rfl
  by_cases hr : room ≤ (l.length : Int)
  · rw [hx, if_pos (Or.inl hr)]
    have t1 : decide (room ≤ (l.length : Int)) = true := decide_eq_true hr
    generalize l.length = N at *
    clear hx hr hA hnil
    go_enter Try.func15, Try.ntmps15
    go_upto_region 1 with (fail)
    go_simp
    refine wp_gen fun wa hq => ?_
    have hbl : Below w.heap.size w wa := by rw [hq]; exact (Below.refl _ _).alloc (Nat.le_refl _) _
    clear hq
    go_wp2
    go_ret2
    exact ⟨hbl, rfl⟩
  · have t1 : decide (room ≤ (l.length : Int)) = false := decide_eq_false hr
    have CC := Lib.hid (fun W hW hg hgl => containsFunc_any A cap l seq w.heap.size W (by omega) hW hg hgl)
    rcases hany : (l.any fun s => decide (seq ≤ s.seq)) with _ | _
    · rw [hany] at CC
      rw [hx, hany, if_neg (by simp; omega)]
      clear hx hr hany
      have CL := Lib.hid (fun W hW => cloneSlots_any A l.length cap (slotsV l) W (by omega) (slotsV_len l) (slotsV_oneCell l) hW (fun e => by rw [(hnil e).1]; rfl))
      obtain ⟨i0, hi, hz0, hz1, hz2⟩ := info_parts cloneSlots_any_info
      go_enter Try.func15, Try.ntmps15
      go_upto_region 1 with (fail)
      go_simp
      refine wp_gen fun wa hq => ?_
      have hB : Blk wa w.heap.size 3 #[.int .i64 seq] := by rw [hq]; exact Blk.new w _ _
      have hbl : Below w.heap.size w wa := by rw [hq]; exact (Below.refl _ _).alloc (Nat.le_refl _) _
      clear hq
      have hAa := (hA.below hbl).mono hbl.size
      have c0 : wa.cell? ⟨w.heap.size, 0, none⟩ = some (.int .i64 seq) := hB.cell 0
      have zB := hB.lt
      go_upto_region 3 with (go_at_call 43; (with_reducible refine (CC.out _ hAa c0 zB).mono ?_); rintro e w2 ⟨rfl, hb2⟩)
      try go_simp
      replace hbl := hbl.trans (hb2.mono hbl.size)
      replace hB := hB.ext hb2
      have hA2 := (hAa.below hb2).mono hb2.size
      clear hAa hb2 CC t1 c0 zB
      have CLg : Hid (∀ W, Below w2.heap.size w2 W → Calls Try.prog 45 #[.slice A l.length cap] W fun e w' => ∃ v, e = .returned v ∧ w'.ownsRow w2.heap.size 34 2 v l.length (slotsV l) ∧ Below w2.heap.size w2 w' ∧ Below W.heap.size W w') := Lib.hid (fun W hb => by
        refine (CL.out W ((hA2.below hb).cells)).mono ?_
        rintro e w' ⟨v, rfl, ho, hb'⟩
        refine ⟨v, rfl, ?_, hb.trans (hb'.mono hb.size), hb'⟩
        exact ⟨ho.1, ho.2.imp id fun ⟨g, cap, cur, e, l, r⟩ => ⟨g, cap, cur, e, Nat.le_trans hb.size l, r⟩⟩)
      have hseq : w2.cell? ⟨w.heap.size, 0, none⟩ = some (.int .i64 seq) := hB.cell 0
      have zB := hB.lt
      clear CL
      go_region_law (refine step_of rfl ?_; first
        | (refine wp_append_any (.tmp 18) (.tmp 21) 22 rfl w2.heap.size 34 i0 _ 2 16 Try.underlying22 hi hz0 hz1 hz2 rfl (by decide) (.slice A5 l.length c5) l.length (slotsV l) rfl (hown5.alloc _) (some ⟨w5.heap.size, 0, none⟩) 1 1 (slotsV [⟨seq, false⟩]) rfl rfl (fun h => by cases h) (lit_slot w5 seq _) (slotsV_oneCell _) (by unfold maxLen; omega) (by omega) (by have := hb5.size; simp; omega) ?_; intro v6 w6 hown6 hg6)
        | (refine wp_append_any (.tmp 18) (.tmp 21) 22 rfl w2.heap.size 34 i0 _ 2 16 Try.underlying22 hi hz0 hz1 hz2 rfl (by decide) (.slice A5 l.length c5) l.length (slotsV l) rfl hown5 (some ⟨w2.drew.heap.size, 0, none⟩) 1 1 (slotsV [⟨seq, false⟩]) rfl rfl (fun h => by cases h) (lit_slot_kept rfl hb6) (slotsV_oneCell _) (by unfold maxLen; omega) (by omega) (by have := hb5.size; simp; omega) ?_; intro v6 w6 hown6 hg6)
        | (go_wp2_with (go_at_call 45; refine (CLg.out _ (by first | exact (Below.refl _ _).drew | exact ((Below.refl _ _).drew.alloc (Nat.le_refl _) _))).mono ?_; rintro e w5 ⟨v5, rfl, hown5, hb5, hb6⟩; have hseq5 := (hb5.cell (p := ⟨w.heap.size, 0, none⟩) zB).trans hseq; obtain ⟨A5, c5, rfl⟩ := own_value hown5)))
      all_goals
        have hb9 : Below w2.heap.size w2 w6 := by
          first
          | exact hb5.grown hg6 (by have := hb5.size; omega) (fun k hk => (hown5.lt k hk).1)
          | exact (hb5.alloc hb5.size _).grown hg6 (by have := hb5.size; simp; omega) (fun k hk => (hown5.lt k hk).1)
        go_wp2
        go_ret2
        refine ⟨hbl.trans (hb9.mono hbl.size), v6, rfl, ?_⟩
        unfold SlotsPost
        rw [slotsV_append, List.length_append]
        exact own_low hown6 hbl.size
    · rw [hany] at CC
      rw [hx, hany, if_pos (Or.inr rfl)]
      clear hx hr hany
      go_enter Try.func15, Try.ntmps15
      go_upto_region 1 with (fail)
      go_simp
      refine wp_gen fun wa hq => ?_
      have hB : Blk wa w.heap.size 3 #[.int .i64 seq] := by rw [hq]; exact Blk.new w _ _
      have hbl : Below w.heap.size w wa := by rw [hq]; exact (Below.refl _ _).alloc (Nat.le_refl _) _
      clear hq
      have hAa := (hA.below hbl).mono hbl.size
      have c0 : wa.cell? ⟨w.heap.size, 0, none⟩ = some (.int .i64 seq) := hB.cell 0
      have zB := hB.lt
      go_wp2_with (go_at_call 43; (with_reducible refine (CC.out _ hAa c0 zB).mono ?_); rintro e w2 ⟨rfl, hb2⟩)
      go_ret2
      exact ⟨hbl.trans (hb2.mono hbl.size), rfl⟩
end Go.Proofs.Ytapgojgcmlnbgab
