/- How a slice of slots reads. -/
import Derived.Test.YtapgojgcmlnbgabKWT1171
import Derived.Test.YtapgojgcmlnbgabKHS900
import Derived.ProofKit
import Derived.OpenShut
import Derived.Deep.Slices
import Derived.Deep.Fields
import Derived.Test.YtapgojgcmlnbgabKHS916
import Derived.Deep.RegionWith
import Derived.Deep.RegionLaw
set_option linter.unusedSimpArgs false
set_option linter.unusedVariables false

namespace Go.Proofs.Ytapgojgcmlnbgab
open Go.ChangeShapes Go.WideShapes Go.RowKit Go.Deep

theorem slotCells : Try.prog.cellsOf 34 = 2 := by kernel_rfl
def slotKinds : List (Option IntKind) := [some .i64, none]
theorem fits_slot {cs : List Value} (h : Fits slotKinds cs) : ∃ s : Slt, cs = [.int .i64 s.seq, .bool s.done] := by
  have hl := h.length
  obtain ⟨a, b, hc⟩ : ∃ a b, cs = [a, b] := by
    match cs, hl with
    | [a, b], _ => exact ⟨a, b, rfl⟩
  subst hc
  obtain ⟨⟨n, rfl, _⟩, ⟨d, rfl⟩, _⟩ := h
  exact ⟨⟨n, d⟩, rfl⟩
theorem slotsV_inv : ∀ (l : List Slt) (j : Nat) (u : Value), (slotsV l)[j]? = some u → ∃ k s, l[k]? = some s ∧ ((j = k * 2 ∧ u = .int .i64 s.seq) ∨ (j = k * 2 + 1 ∧ u = .bool s.done))
  | [], _, _, h => by cases h
  | s :: l, 0, u, h => by cases h; exact ⟨0, s, rfl, Or.inl ⟨rfl, rfl⟩⟩
  | s :: l, 1, u, h => by cases h; exact ⟨0, s, rfl, Or.inr ⟨rfl, rfl⟩⟩
  | s :: l, j + 2, u, h => by
    have e : slotsV (s :: l) = .int .i64 s.seq :: .bool s.done :: slotsV l := rfl
    rw [e, List.getElem?_cons_succ, List.getElem?_cons_succ] at h
    obtain ⟨k, t, h1, h2⟩ := slotsV_inv l j u h
    refine ⟨k + 1, t, by simpa using h1, ?_⟩
    rcases h2 with ⟨h2, h3⟩ | ⟨h2, h3⟩
    · exact Or.inl ⟨by omega, h3⟩
    · exact Or.inr ⟨by omega, h3⟩
section
variable {H : Type} {enc : TypeId × Value → H} {w : World} {base : Nat} {spare : Nat → Bool} {held : Bool}
theorem trod_slot {fuel : Nat} {cs : List Value} {x : DataW H × List MemPlace} (h : DataW.trod enc Try.prog w base spare held fuel 34 cs = some x) : ∃ s : Slt, cs = [.int .i64 s.seq, .bool s.done] :=
  fits_slot (trod_fits 20 34 slotKinds fuel _ _ (by kernel_rfl) h)
theorem open_slots {fuel : Nat} {a : Option Addr} {len cap : Nat} {x : DataW H × List MemPlace} (h : DataW.trod enc Try.prog w base spare held fuel 22 [.slice a len cap] = some x) :
    ∃ l : List Slt, l.length = len ∧ SlotsAt w w.heap.size a l ∧ (a = none → l = [] ∧ cap = 0) ∧ len ≤ cap ∧ cap ≤ maxLen ∧ (x.1 = .nil ∧ len = 0 ∨ ∃ es sp, x.1 = .slice es sp ∧ es.length = len) := by
  rcases open_slice Try.underlying22 h with ⟨hcs, hx⟩ | ⟨ad, len', cap', m, n, D, Pl, hcs, hb, hl, hm, hmm, hx, hi⟩
  · simp at hcs
    obtain ⟨rfl, rfl, rfl⟩ := hcs
    exact ⟨[], rfl, fun h => absurd rfl h, fun _ => ⟨rfl, rfl⟩, Nat.le_refl _, Nat.zero_le _, .inl ⟨by rw [hx], rfl⟩⟩
  · simp at hcs
    obtain ⟨rfl, rfl, rfl⟩ := hcs
    have hlm : len ≤ m := by rw [hmm]; split <;> omega
    have hex : ∀ i, i < len → ∃ s : Slt, w.cells? base (ad.add (i * 2)) 2 = some [.int .i64 s.seq, .bool s.done] := by
      intro i him
      obtain ⟨cs', hc, ht⟩ := hi i (by omega)
      rw [slotCells] at hc
      obtain ⟨s, rfl⟩ := trod_slot ht
      exact ⟨s, hc⟩
    obtain ⟨F, hF⟩ := choose_lt hex
    refine ⟨(List.range len).map F, by simp, ?_, fun h => (by cases h), hl, hm, .inr ⟨_, _, by rw [hx], by simp⟩⟩
    intro hne
    have hlen : 0 < len := by
      rcases Nat.eq_zero_or_pos len with h0 | h0
      · subst h0; simp at hne
      · exact h0
    obtain ⟨b, o, s⟩ := ad
    have hc0 := (World.cells?_some (hF 0 hlen)).2.2 0 (by omega)
    have hc0' : w.cell? ⟨b, o, s⟩ = some (.int .i64 (F 0).seq) := by simpa [Addr.add] using hc0
    have hs : s = none := World.cell?_spot hc0'
    subst hs
    refine ⟨b, o, rfl, World.block_lt_of_cell? w _ hc0', ?_⟩
    intro j u hj
    obtain ⟨k, t, hk, hju⟩ := slotsV_inv _ j u hj
    have hkl : k < len := by
      have := (List.getElem?_eq_some_iff.1 hk).1
      simpa using this
    have ht : F k = t := by simpa [hkl] using hk
    have hcs := (World.cells?_some (hF k hkl)).2.2
    rw [ht] at hcs
    have hadd : ∀ j, ((⟨b, o, none⟩ : Addr).add (k * 2)).add j = ⟨b, o + (k * 2 + j), none⟩ := fun j => by
      rw [add_add]
      unfold Addr.add
      by_cases h0 : k * 2 + j = 0
      · rw [if_pos h0, h0, Nat.add_zero]
      · rw [if_neg h0]
    have g := fun j (hj : j < 2) => (congrArg w.cell? (hadd j)).symm.trans (hcs j hj)
    rcases hju with ⟨rfl, rfl⟩ | ⟨rfl, rfl⟩
    · exact g 0 (by omega)
    · exact g 1 (by omega)
end
end Go.Proofs.Ytapgojgcmlnbgab

/- window.Push and what it calls. -/
namespace Go.Proofs.Ytapgojgcmlnbgab
open Go.RowKit

set_option maxRecDepth 100000 in
theorem pushLit_any (s : Slt) (seq : Int) (g : Nat) (w : World) (hg : w.cell? ⟨g, 0, none⟩ = some (.int .i64 seq)) (hgl : g < w.heap.size) :
    Calls Try.prog 44 #[.agg #[.int .i64 s.seq, .bool s.done], .pointer (some ⟨g, 0, none⟩)] w fun e w' => e = .returned (.bool (decide (seq ≤ s.seq))) ∧ Below w.heap.size w w' := by
  obtain ⟨sq, dn⟩ := s
  dsimp only
  go_enter Try.func44, Try.ntmps44
  go_upto_region 1 with (fail)
  go_simp
  refine wp_gen fun wa hq => ?_
  have hB : Blk wa w.heap.size 34 #[.int .i64 sq, .bool dn] := by rw [hq]; exact Blk.new w _ _
  have hbl : Below w.heap.size w wa := by rw [hq]; exact (Below.refl _ _).alloc (Nat.le_refl _) _
  clear hq
  have c0 : wa.cell? ⟨w.heap.size, 0, none⟩ = some (.int .i64 sq) := hB.cell 0
  have c1 := (hbl.cell (p := ⟨g, 0, none⟩) hgl).trans hg
  go_wp2
  go_ret
  exact ⟨rfl, hbl⟩
theorem idxP_any {α : Type} (p : α → Bool) (l : List α) : decide (0 ≤ idxP p l 0) = l.any p := by
  rcases idxP_cases p l 0 with ⟨h1, h2⟩ | ⟨j, x, h1, h2, h3, _⟩
  · have h1' : idxP p l 0 = -1 := h1
    rw [h1']
    have : l.any p = false := by rw [List.any_eq_false]; intro x hx; rw [h2 x hx]; simp
    rw [this]
    rfl
  · have h1' : idxP p l 0 = j := by simpa using h1
    rw [h1']
    have : l.any p = true := List.any_eq_true.2 ⟨x, List.mem_of_getElem? h2, h3⟩
    rw [this]
    exact decide_eq_true (by omega)
theorem idxP_drop {α : Type} (p : α → Bool) (l : List α) {k : Nat} (hk : k < l.length) (z : Int) : idxP p (l.drop k) z = if p (l[k]'hk) = true then z else idxP p (l.drop (k + 1)) (z + 1) := by
  rw [List.drop_eq_getElem_cons hk]
  rfl
set_option maxRecDepth 100000 in
set_option maxHeartbeats 1000000 in
theorem indexFunc_any (A : Option Addr) (cap : Nat) (l : List Slt) (seq : Int) (g : Nat) (w : World) (hl : l.length ≤ 140737488355328) (hA : SlotsAt w w.heap.size A l) (hg : w.cell? ⟨g, 0, none⟩ = some (.int .i64 seq)) (hgl : g < w.heap.size) :
    Calls Try.prog 75 #[.slice A l.length cap, .func (.func 44) #[] #[.pointer (some ⟨g, 0, none⟩)]] w fun e w' => e = .returned (.int .i64 (idxP (fun s => decide (seq ≤ s.seq)) l 0)) ∧ Below w.heap.size w w' := by
  obtain ⟨X, hX⟩ : ∃ X, idxP (fun s : Slt => decide (seq ≤ s.seq)) l 0 = X := ⟨_, rfl⟩
  rw [hX]
  obtain ⟨N, hN⟩ : ∃ N, N = l.length := ⟨_, rfl⟩
  rw [← hN] at hl ⊢
  have HA := Lib.hid hA
  have HN := Lib.hid hN
  have HX : Hid (idxP (fun s : Slt => decide (seq ≤ s.seq)) (l.drop 0) ((0 : Nat) : Int) = X) := Lib.hid (by simpa using hX)
  have HG := Lib.hid hg
  clear hA hN hX hg
  go_enter Try.func75, Try.ntmps75
  go_upto_region 2 with (fail)
  go_loopw [8] (fun v wr => ∃ k : Nat, v = .int .i64 k ∧ k ≤ N ∧ Below w.heap.size w wr ∧ Hid (idxP (fun s : Slt => decide (seq ≤ s.seq)) (l.drop k) k = X)) (fun v _ => N + 1 - (intOf v).toNat)
  case atStart => exact ⟨0, rfl, Nat.zero_le _, Below.refl _ _, HX⟩
  case round =>
    clear HX
    obtain ⟨k, rfl, hk, hb, Hk⟩ := hrel
    by_cases hlt : k < N
    · have hk' : k < l.length := by rw [← HN.out]; exact hlt
      obtain ⟨b, o, rfl, hgB, c0, c1⟩ := (HA.out.below hb).at_ hk'
      have hd := idxP_drop (fun s : Slt => decide (seq ≤ s.seq)) l hk' (k : Int)
      have CP := Lib.hid (fun W h1 h2 => pushLit_any (l[k]'hk') seq g W h1 h2)
      generalize l[k]'hk' = s at *
      obtain ⟨sq, dn⟩ := s
      dsimp only at c0 c1 hd
      have hgr := (hb.cell (p := ⟨g, 0, none⟩) hgl).trans HG.out
      have hglr : g < wr.heap.size := Nat.lt_of_lt_of_le hgl hb.size
      have HGR := Lib.hid hgr
      clear hgr
      by_cases hs : seq ≤ sq
      · have Hd : Hid ((k : Int) = X) := Lib.hid (by rw [if_pos (by simpa using hs)] at hd; rw [← Hk.out, hd])
        have t1 : decide (seq ≤ sq) = true := decide_eq_true hs
        clear hd Hk hs
        go_wp2_with (go_at_call 44; (with_reducible refine (CP.out _ HGR.out hglr).mono ?_); rintro e w2 ⟨rfl, hb2⟩)
        go_ret
        exact ⟨by rw [← Hd.out]; rfl, hb.trans (hb2.mono hb.size)⟩
      · have Hd : Hid (idxP (fun s : Slt => decide (seq ≤ s.seq)) (l.drop (k + 1)) ((k + 1 : Nat) : Int) = X) := Lib.hid (by rw [if_neg (by simpa using hs)] at hd; rw [← Hk.out, hd]; rfl)
        have t1 : decide (seq ≤ sq) = false := decide_eq_false hs
        clear hd Hk hs
        go_wp2_with (go_at_call 44; (with_reducible refine (CP.out _ HGR.out hglr).mono ?_); rintro e w2 ⟨rfl, hb2⟩)
        go_roundw
        case rel => exact ⟨k + 1, by go_num, by omega, hb.trans (hb2.mono hb.size), Hd⟩
        case measure => simp [intOf]; omega
    · obtain rfl : k = N := by omega
      have e1 : decide ((k : Int) < k) = false := by simp
      have Hd : Hid ((-1 : Int) = X) := Lib.hid (by rw [← Hk.out, HN.out, List.drop_length]; rfl)
      clear Hk
      go_wp2
      go_ret
      exact ⟨by rw [← Hd.out]; rfl, hb⟩
set_option maxRecDepth 100000 in
theorem containsFunc_any (A : Option Addr) (cap : Nat) (l : List Slt) (seq : Int) (g : Nat) (w : World) (hl : l.length ≤ 140737488355328) (hA : SlotsAt w w.heap.size A l) (hg : w.cell? ⟨g, 0, none⟩ = some (.int .i64 seq)) (hgl : g < w.heap.size) :
    Calls Try.prog 43 #[.slice A l.length cap, .func (.func 44) #[] #[.pointer (some ⟨g, 0, none⟩)]] w fun e w' => e = .returned (.bool (l.any fun s => decide (seq ≤ s.seq))) ∧ Below w.heap.size w w' := by
  have CI := Lib.hid (indexFunc_any A cap l seq g w hl hA hg hgl)
  have hx := idxP_any (fun s : Slt => decide (seq ≤ s.seq)) l
  generalize idxP (fun s : Slt => decide (seq ≤ s.seq)) l 0 = X at *
  generalize (l.any fun s => decide (seq ≤ s.seq)) = Y at *
  generalize l.length = N at *
  clear hA hg
  go_enter Try.func43, Try.ntmps43
  go_wp2_with (go_at_call 75; (with_reducible refine CI.out.mono ?_); rintro e w2 ⟨rfl, hb2⟩)
  go_ret
  refine ⟨?_, hb2⟩
  first | rfl | (rw [← hx]; rfl) | (rw [hx])
end Go.Proofs.Ytapgojgcmlnbgab

/- window.Push, and the document's. -/
namespace Go.Proofs.Ytapgojgcmlnbgab
open Go.RowKit

/-- What a new row of slots is handed back as. -/
def SlotsPost (w : World) (l : List Slt) (v : Value) (w' : World) : Prop :=
  w'.ownsRow w.heap.size 34 2 v l.length (slotsV l)
theorem lit_slot (w : World) (seq : Int) (t : TypeId) : ∀ ad, some (⟨w.heap.size, 0, none⟩ : Addr) = some ad → ∀ j v, (slotsV [⟨seq, false⟩])[j]? = some v → (w.alloc (.cells #[.int .i64 seq, .bool false] t)).cell? (ad.add j) = some v := by
  intro ad h j v hj
  cases h
  rw [Addr.add_lit, Nat.zero_add, World.cell?_alloc_new]
  have e : slotsV [⟨seq, false⟩] = [.int .i64 seq, .bool false] := rfl
  rw [e] at hj
  simpa using hj
theorem own_low {w : World} {base base' : Nat} {e : TypeId} {size : Nat} {v : Value} {n : Nat} {xs : List Value} (h : w.ownsRow base e size v n xs) (hb : base' ≤ base) : w.ownsRow base' e size v n xs :=
  ⟨h.1, h.2.imp id fun ⟨g, cap, cur, e, l, r⟩ => ⟨g, cap, cur, e, Nat.le_trans hb l, r⟩⟩
theorem step_of {P : Program} {ops : Array Oper} {o : Oper} {a : Act} {w : World} {K : Act → World → Prop} {Q : Exit → Act → World → Prop} {E : Prop} (hg : o.guard = none) (h : o.wp P a w K Q) : if Region.wanted o (yielded ops a.tmps) = true then Oper.wp P o a w K Q else E := by
  have hw : Region.wanted o (yielded ops a.tmps) = true := by simp [Region.wanted, hg]
  rw [if_pos hw]
  exact h
theorem lit_slot_kept {W w5 : World} {w : World} {seq : Int} {t : TypeId} (hW : W = w.alloc (.cells #[.int .i64 seq, .bool false] t)) (hb : Below W.heap.size W w5) : ∀ ad, some (⟨w.heap.size, 0, none⟩ : Addr) = some ad → ∀ j v, (slotsV [⟨seq, false⟩])[j]? = some v → w5.cell? (ad.add j) = some v := by
  intro ad h j v hj
  have h1 := lit_slot w seq t ad h j v hj
  rw [← hW] at h1
  have h2 := World.block_lt_of_cell? _ _ h1
  exact (hb.cell h2).trans h1
set_option maxRecDepth 100000 in
set_option maxHeartbeats 2000000 in
theorem push_any (A : Option Addr) (cap : Nat) (l : List Slt) (room seq : Int) (w : World) (hl : l.length * 16 ≤ 140737488351232) (hA : SlotsAt w w.heap.size A l) (hnil : A = none → l = [] ∧ cap = 0) :
    Calls Try.prog 15 #[.slice A l.length cap, .int .i64 room, .int .i64 seq] w fun e w' => Below w.heap.size w w' ∧ match pushP l room seq with
      | none => e = .returned (.tuple #[.slice none 0 0, .bool false])
      | some k => ∃ v, e = .returned (.tuple #[v, .bool true]) ∧ SlotsPost w k v w' := by
  have hx : pushP l room seq = if room ≤ l.length ∨ (l.any fun s => decide (seq ≤ s.seq)) = true then none else some (l ++ [⟨seq, false⟩]) := rfl
  by_cases hr : room ≤ (l.length : Int)
  · rw [hx, if_pos (Or.inl hr)]
    have t1 : decide (room ≤ (l.length : Int)) = true := decide_eq_true hr
    generalize l.length = N at *
    clear hx hr hA hnil
    go_enter Try.func15, Try.ntmps15
    go_upto_region 1 with (fail)
    go_simp
    refine wp_gen fun wa hq => ?_
    have hbl : Below w.heap.size w wa := by rw [hq]; exact (Below.refl _ _).alloc (Nat.le_refl _) _
    clear hq
    go_wp2
    go_ret2
    exact ⟨hbl, rfl⟩
  · have t1 : decide (room ≤ (l.length : Int)) = false := decide_eq_false hr
    have CC := Lib.hid (fun W hW hg hgl => containsFunc_any A cap l seq w.heap.size W (by omega) hW hg hgl)
    rcases hany : (l.any fun s => decide (seq ≤ s.seq)) with _ | _
    · rw [hany] at CC
      rw [hx, hany, if_neg (by simp; omega)]
      clear hx hr hany
      have CL := Lib.hid (fun W hW => cloneSlots_any A l.length cap (slotsV l) W (by omega) (slotsV_len l) (slotsV_oneCell l) hW (fun e => by rw [(hnil e).1]; rfl))
      obtain ⟨i0, hi, hz0, hz1, hz2⟩ := info_parts cloneSlots_any_info
      go_enter Try.func15, Try.ntmps15
      go_upto_region 1 with (fail)
      go_simp
      refine wp_gen fun wa hq => ?_
      have hB : Blk wa w.heap.size 3 #[.int .i64 seq] := by rw [hq]; exact Blk.new w _ _
      have hbl : Below w.heap.size w wa := by rw [hq]; exact (Below.refl _ _).alloc (Nat.le_refl _) _
      clear hq
      have hAa := (hA.below hbl).mono hbl.size
      have c0 : wa.cell? ⟨w.heap.size, 0, none⟩ = some (.int .i64 seq) := hB.cell 0
      have zB := hB.lt
      go_upto_region 3 with (go_at_call 43; (with_reducible refine (CC.out _ hAa c0 zB).mono ?_); rintro e w2 ⟨rfl, hb2⟩)
      try go_simp
      replace hbl := hbl.trans (hb2.mono hbl.size)
      replace hB := hB.ext hb2
      have hA2 := (hAa.below hb2).mono hb2.size
      clear hAa hb2 CC t1 c0 zB
      have CLg : Hid (∀ W, Below w2.heap.size w2 W → Calls Try.prog 45 #[.slice A l.length cap] W fun e w' => ∃ v, e = .returned v ∧ w'.ownsRow w2.heap.size 34 2 v l.length (slotsV l) ∧ Below w2.heap.size w2 w' ∧ Below W.heap.size W w') := Lib.hid (fun W hb => by
        refine (CL.out W ((hA2.below hb).cells)).mono ?_
        rintro e w' ⟨v, rfl, ho, hb'⟩
        refine ⟨v, rfl, ?_, hb.trans (hb'.mono hb.size), hb'⟩
        exact ⟨ho.1, ho.2.imp id fun ⟨g, cap, cur, e, l, r⟩ => ⟨g, cap, cur, e, Nat.le_trans hb.size l, r⟩⟩)
      have hseq : w2.cell? ⟨w.heap.size, 0, none⟩ = some (.int .i64 seq) := hB.cell 0
      have zB := hB.lt
      clear CL
      go_region_law (refine step_of rfl ?_; first
        | (refine wp_append_any (.tmp 18) (.tmp 21) 22 rfl w2.heap.size 34 i0 _ 2 16 Try.underlying22 hi hz0 hz1 hz2 rfl (by decide) (.slice A5 l.length c5) l.length (slotsV l) rfl (hown5.alloc _) (some ⟨w5.heap.size, 0, none⟩) 1 1 (slotsV [⟨seq, false⟩]) rfl rfl (fun h => by cases h) (lit_slot w5 seq _) (slotsV_oneCell _) (by unfold maxLen; omega) (by omega) (by have := hb5.size; simp; omega) ?_; intro v6 w6 hown6 hg6)
        | (refine wp_append_any (.tmp 18) (.tmp 21) 22 rfl w2.heap.size 34 i0 _ 2 16 Try.underlying22 hi hz0 hz1 hz2 rfl (by decide) (.slice A5 l.length c5) l.length (slotsV l) rfl hown5 (some ⟨w2.drew.heap.size, 0, none⟩) 1 1 (slotsV [⟨seq, false⟩]) rfl rfl (fun h => by cases h) (lit_slot_kept rfl hb6) (slotsV_oneCell _) (by unfold maxLen; omega) (by omega) (by have := hb5.size; simp; omega) ?_; intro v6 w6 hown6 hg6)
        | (go_wp2_with (go_at_call 45; refine (CLg.out _ (by first | exact (Below.refl _ _).drew | exact ((Below.refl _ _).drew.alloc (Nat.le_refl _) _))).mono ?_; rintro e w5 ⟨v5, rfl, hown5, hb5, hb6⟩; have hseq5 := (hb5.cell (p := ⟨w.heap.size, 0, none⟩) zB).trans hseq; obtain ⟨A5, c5, rfl⟩ := own_value hown5)))
      all_goals
        have hb9 : Below w2.heap.size w2 w6 := by
          first
          | exact hb5.grown hg6 (by have := hb5.size; omega) (fun k hk => (hown5.lt k hk).1)
          | exact (hb5.alloc hb5.size _).grown hg6 (by have := hb5.size; simp; omega) (fun k hk => (hown5.lt k hk).1)
        go_wp2
        go_ret2
        refine ⟨hbl.trans (hb9.mono hbl.size), v6, rfl, ?_⟩
        unfold SlotsPost
        rw [slotsV_append, List.length_append]
        exact own_low hown6 hbl.size
    · rw [hany] at CC
      rw [hx, hany, if_pos (Or.inr rfl)]
      clear hx hr hany
      go_enter Try.func15, Try.ntmps15
      go_upto_region 1 with (fail)
      go_simp
      refine wp_gen fun wa hq => ?_
      have hB : Blk wa w.heap.size 3 #[.int .i64 seq] := by rw [hq]; exact Blk.new w _ _
      have hbl : Below w.heap.size w wa := by rw [hq]; exact (Below.refl _ _).alloc (Nat.le_refl _) _
      clear hq
      have hAa := (hA.below hbl).mono hbl.size
      have c0 : wa.cell? ⟨w.heap.size, 0, none⟩ = some (.int .i64 seq) := hB.cell 0
      have zB := hB.lt
      go_wp2_with (go_at_call 43; (with_reducible refine (CC.out _ hAa c0 zB).mono ?_); rintro e w2 ⟨rfl, hb2⟩)
      go_ret2
      exact ⟨hbl.trans (hb2.mono hbl.size), rfl⟩
end Go.Proofs.Ytapgojgcmlnbgab

/- humpyardref8.Push. -/
namespace Go.Proofs.Ytapgojgcmlnbgab
open Go.RowKit

/-- What both Push hand back. -/
def PushPost (w : World) (l : List Slt) (room seq : Int) (e : Ending) (w' : World) : Prop :=
  Below w.heap.size w w' ∧ match pushP l room seq with
      | none => e = .returned (.tuple #[.slice none 0 0, .bool false])
      | some k => ∃ v, e = .returned (.tuple #[v, .bool true]) ∧ SlotsPost w k v w'
theorem any_drop {α : Type} (p : α → Bool) (l : List α) {k : Nat} (hk : k < l.length) : (l.drop k).any p = (p (l[k]'hk) || (l.drop (k + 1)).any p) := by
  rw [List.drop_eq_getElem_cons hk, List.any_cons]
set_option maxRecDepth 100000 in
set_option maxHeartbeats 2000000 in
theorem rpush_any (A : Option Addr) (cap : Nat) (l : List Slt) (room seq : Int) (w : World) (hl : l.length * 16 ≤ 140737488351232) (hA : SlotsAt w w.heap.size A l) (hnil : A = none → l = [] ∧ cap = 0) :
    Calls Try.prog 16 #[.slice A l.length cap, .int .i64 room, .int .i64 seq] w (PushPost w l room seq) := by
  obtain ⟨N, hN⟩ : ∃ N, N = l.length := ⟨_, rfl⟩
  have hP : PushPost w l room seq = PushPost w l room seq := rfl
  obtain ⟨PP, hPP⟩ : ∃ PP, PP = PushPost w l room seq := ⟨_, rfl⟩
  rw [← hPP]
  have HPP := Lib.hid hPP
  rw [← hN] at hl ⊢
  have HA := Lib.hid hA
  have HN := Lib.hid hN
  have Hnil := Lib.hid hnil
  obtain ⟨X, hX⟩ : ∃ X, (l.any fun s => decide (seq ≤ s.seq)) = X := ⟨_, rfl⟩
  have HX0 := Lib.hid hX
  have HX : Hid (((l.drop 0).any fun s => decide (seq ≤ s.seq)) = X) := Lib.hid (by simpa using hX)
  clear hA hN hX hnil hP hPP
  obtain ⟨i0, hi, hz0, hz1, hz2⟩ := info_parts cloneSlots_any_info
  go_enter Try.func16, Try.ntmps16
  go_upto_region 2 with (fail)
  go_loopw [8] (fun v wr => ∃ k : Nat, v = .int .i64 k ∧ k ≤ N ∧ wr = w ∧ Hid (((l.drop k).any fun s => decide (seq ≤ s.seq)) = X)) (fun v _ => N + 1 - (intOf v).toNat)
  case atStart => exact ⟨0, rfl, Nat.zero_le _, rfl, HX⟩
  case round =>
    clear HX
    obtain ⟨k, rfl, hk, rfl, Hk⟩ := hrel
    by_cases hlt : k < N
    · have hk' : k < l.length := by rw [← HN.out]; exact hlt
      obtain ⟨b, o, rfl, hgB, c0, c1⟩ := HA.out.at_ hk'
      have hd := any_drop (fun s : Slt => decide (seq ≤ s.seq)) l hk'
      rw [Hk.out] at hd
      generalize (l[k]'hk').seq = sq at *
      by_cases hs : seq ≤ sq
      · have t1 : decide (seq ≤ sq) = true := decide_eq_true hs
        have Hd : Hid (X = true) := Lib.hid (by rw [hd, t1]; rfl)
        clear hd Hk hs c1
        go_wp2
        try go_ret2
        rw [HPP.out]
        refine ⟨Below.refl _ _, ?_⟩
        have : pushP l room seq = none := by unfold pushP; rw [HX0.out, Hd.out, if_pos (Or.inr rfl)]
        rw [this]
        rfl
      · have t1 : decide (seq ≤ sq) = false := decide_eq_false hs
        have Hd : Hid (((l.drop (k + 1)).any fun s => decide (seq ≤ s.seq)) = X) := Lib.hid (by rw [hd, t1]; rfl)
        clear hd Hk hs c1
        go_wp2
        go_roundw
        case rel => exact ⟨k + 1, by go_num, by omega, by first | rfl | trivial, Hd⟩
        case measure => simp [intOf]; omega
    · obtain rfl : k = N := by omega
      have e1 : decide ((k : Int) < k) = false := by simp
      have Hd : Hid (X = false) := Lib.hid (by rw [← Hk.out, HN.out, List.drop_length]; rfl)
      clear Hk
      by_cases hr : room ≤ (k : Int)
      · have t1 : decide (room ≤ (k : Int)) = true := decide_eq_true hr
        have HR := Lib.hid hr
        clear hr
        go_wp2
        try go_ret2
        rw [HPP.out]
        refine ⟨Below.refl _ _, ?_⟩
        have : pushP l room seq = none := by unfold pushP; rw [if_pos (Or.inl (by rw [← HN.out]; exact HR.out))]
        rw [this]
        rfl
      · have t1 : decide (room ≤ (k : Int)) = false := decide_eq_false hr
        have HR := Lib.hid hr
        have hown0 := World.ownsRow_lit (base := wr.heap.size) (e := 34) (size := 2) wr #[] 0 (Nat.le_refl _) (by unfold maxLen; omega) rfl
        have hcl : Hid ((slotsV l).length = k * 2) := Lib.hid (by rw [slotsV_len, HN.out])
        have Hc := Lib.hid HA.out.cells
        clear hr
        go_wp2_with (first
          | (at_builtin; refine wpList_append_any rfl (.tmp 27) (.tmp 28) 22 rfl wr.heap.size 34 i0 _ 2 16 Try.underlying22 hi hz0 hz1 hz2 rfl (by decide) _ 0 [] rfl hown0 A k cap (slotsV l) rfl hcl.out (fun hn => by obtain ⟨e1, e2⟩ := Hnil.out hn; exact ⟨by rw [HN.out, e1]; rfl, e2⟩) (fun ad hd j u hu => (World.cell?_alloc_lt _ _ _ (World.block_lt_of_cell? _ _ (Hc.out ad hd j u hu))).trans (Hc.out ad hd j u hu)) (slotsV_oneCell _) (by unfold maxLen; omega) (by omega) (by simp) ?_; intro v5 w5 hown5 hg5; have hb5 : Below wr.heap.size wr w5 := ((Below.refl _ _).alloc (Nat.le_refl _) _).grown hg5 (by simp) (fun k hk => by cases hk; exact Nat.le_refl _))
          | (at_builtin; refine wpList_append_any rfl (.tmp 30) (.tmp 33) 22 rfl wr.heap.size 34 i0 _ 2 16 Try.underlying22 hi hz0 hz1 hz2 rfl (by decide) v5 (0 + k) ([] ++ slotsV l) rfl (hown5.alloc _) (some ⟨w5.heap.size, 0, none⟩) 1 1 (slotsV [⟨seq, false⟩]) rfl rfl (fun h => by cases h) (lit_slot w5 seq _) (slotsV_oneCell _) (by unfold maxLen; omega) (by omega) (by have := hb5.size; simp; omega) ?_; intro v6 w6 hown6 hg6))
        try go_ret2
        rw [HPP.out]
        have hb9 : Below wr.heap.size wr w6 := (hb5.alloc hb5.size _).grown hg6 (by have := hb5.size; simp; omega) (fun k hk => (hown5.lt k hk).1)
        refine ⟨hb9, ?_⟩
        have : pushP l room seq = some (l ++ [⟨seq, false⟩]) := by
          unfold pushP
          rw [HX0.out, Hd.out, if_neg (by rw [← HN.out]; have := HR.out; simp; omega)]
        rw [this]
        refine ⟨v6, rfl, ?_⟩
        unfold SlotsPost
        rw [slotsV_append, List.length_append, ← HN.out]
        simpa using hown6
end Go.Proofs.Ytapgojgcmlnbgab

/- window.Done and slices.Index. -/
namespace Go.Proofs.Ytapgojgcmlnbgab
open Go.RowKit

def isS (seq : Int) (s : Slt) : Bool := decide (s = ⟨seq, false⟩)
theorem slotsV_set (l : List Slt) (j : Nat) (seq : Int) (h : l[j]? = some ⟨seq, false⟩) : slotsV (l.set j ⟨seq, true⟩) = (slotsV l).set (j * 2 + 1) (.bool true) := by
  induction l generalizing j with
  | nil => cases h
  | cons s l ih =>
    have e : ∀ (s : Slt) (l : List Slt), slotsV (s :: l) = .int .i64 s.seq :: .bool s.done :: slotsV l := fun _ _ => rfl
    cases j with
    | zero =>
      cases h
      rfl
    | succ j =>
      rw [List.set_cons_succ, e, e, ih j (by simpa using h), show (j + 1) * 2 + 1 = j * 2 + 1 + 1 + 1 by omega]
      rfl
set_option maxRecDepth 100000 in
set_option maxHeartbeats 1000000 in
theorem index_any (A : Option Addr) (cap : Nat) (l : List Slt) (seq : Int) (w : World) (hl : l.length ≤ 140737488355328) (hA : SlotsAt w w.heap.size A l) :
    Calls Try.prog 46 #[.slice A l.length cap, .agg #[.int .i64 seq, .bool false]] w fun e w' => e = .returned (.int .i64 (idxP (isS seq) l 0)) ∧ Below w.heap.size w w' := by
  obtain ⟨X, hX⟩ : ∃ X, idxP (isS seq) l 0 = X := ⟨_, rfl⟩
  rw [hX]
  obtain ⟨N, hN⟩ : ∃ N, N = l.length := ⟨_, rfl⟩
  rw [← hN] at hl ⊢
  have HA := Lib.hid hA
  have HN := Lib.hid hN
  have HX : Hid (idxP (isS seq) (l.drop 0) ((0 : Nat) : Int) = X) := Lib.hid (by simpa using hX)
  clear hA hN hX
  go_enter Try.func46, Try.ntmps46
  go_upto_region 1 with (fail)
  go_simp
  refine wp_gen fun wa hq => ?_
  have hB : Blk wa w.heap.size 34 #[.int .i64 seq, .bool false] := by rw [hq]; exact Blk.new w _ _
  have hbl : Below w.heap.size w wa := by rw [hq]; exact (Below.refl _ _).alloc (Nat.le_refl _) _
  clear hq
  have hA0 := Lib.hid ((HA.out.below hbl).mono hbl.size)
  go_upto_region 2 with (fail)
  go_loopw [8] (fun v wr => ∃ k : Nat, v = .int .i64 k ∧ k ≤ N ∧ Below wa.heap.size wa wr ∧ Hid (idxP (isS seq) (l.drop k) k = X)) (fun v _ => N + 1 - (intOf v).toNat)
  case atStart => exact ⟨0, rfl, Nat.zero_le _, Below.refl _ _, HX⟩
  case round =>
    clear HX
    obtain ⟨k, rfl, hk, hb, Hk⟩ := hrel
    by_cases hlt : k < N
    · have hk' : k < l.length := by rw [← HN.out]; exact hlt
      obtain ⟨b, o, rfl, hgB, c0, c1⟩ := (hA0.out.below hb).at_ hk'
      have hd := idxP_drop (isS seq) l hk' (k : Int)
      have hBr := hB.ext hb
      generalize l[k]'hk' = s at *
      obtain ⟨sq, dn⟩ := s
      dsimp only at c0 c1
      have z1 : b < wr.heap.size := Nat.lt_of_lt_of_le hgB hb.size
      by_cases hs : isS seq ⟨sq, dn⟩ = true
      · obtain ⟨rfl, rfl⟩ : sq = seq ∧ dn = false := by unfold isS at hs; simpa using hs
        have Hd : Hid ((k : Int) = X) := Lib.hid (by rw [if_pos hs] at hd; rw [← Hk.out, hd])
        have e1 : (sq == sq) = true := by simp
        clear hd Hk hs
        go_upto_region 4 with (fail)
        refine wp_region_below (by kernel_rfl) (by kernel_rfl) ?_
        repeat' (first
          | refine wpMix_plain rfl ?_
          | (refine' wpMixW_quiet _ (fun wq hwq K hK => ?_) ?_ ?_
             rotate_left 1
             · (have k0 := (hwq.cell (p := ⟨b, o + k * 2, none⟩) z1).trans c0; have k1 := (hwq.cell (p := ⟨b, o + k * 2 + 1, none⟩) z1).trans c1; have q0 : wq.cell? ⟨w.heap.size, 0, none⟩ = some (.int .i64 sq) := (hBr.ext hwq).cell 0; have q1 : wq.cell? ⟨w.heap.size, 1, none⟩ = some (.bool false) := (hBr.ext hwq).cell 1
                go_wp2_with (fail)
                all_goals exact hK _ hwq)
             · rfl)
          | (refine wpMix_guardT rfl rfl rfl ?_ ?_ <;> intro hc <;> first | (cases hc; done) | ((try cases hc); simp only [Act.put, List.setIfInBounds_toArray, List.set_cons_succ, List.set_cons_zero]))
          | (refine wpMix_guardF rfl rfl rfl ?_ ?_ <;> intro hc <;> first | (cases hc; done) | ((try cases hc); simp only [Act.put, List.setIfInBounds_toArray, List.set_cons_succ, List.set_cons_zero]))
          | refine wpMix_guardU rfl rfl rfl ?_)
        all_goals
          refine wpMix_nil ?_
          intro w9 hw9
          go_wp2
          go_ret
          exact ⟨by rw [← Hd.out]; rfl, hbl.trans ((hb.trans (hw9.mono hb.size)).mono hbl.size)⟩
      · have Hd : Hid (idxP (isS seq) (l.drop (k + 1)) ((k + 1 : Nat) : Int) = X) := Lib.hid (by rw [if_neg hs] at hd; rw [← Hk.out, hd]; rfl)
        have hne : sq = seq → dn = true := fun e => by
          subst e
          cases dn with
          | true => rfl
          | false => exact absurd (by unfold isS; simp) hs
        clear hd Hk hs
        by_cases hq : sq = seq
        · obtain rfl := hne hq
          subst hq
          clear hne
          have e1 : (sq == sq) = true := by simp
          go_upto_region 4 with (fail)
          refine wp_region_below (by kernel_rfl) (by kernel_rfl) ?_
          repeat' (first
            | refine wpMix_plain rfl ?_
            | (refine' wpMixW_quiet _ (fun wq hwq K hK => ?_) ?_ ?_
               rotate_left 1
               · (have k0 := (hwq.cell (p := ⟨b, o + k * 2, none⟩) z1).trans c0; have k1 := (hwq.cell (p := ⟨b, o + k * 2 + 1, none⟩) z1).trans c1; have q0 : wq.cell? ⟨w.heap.size, 0, none⟩ = some (.int .i64 sq) := (hBr.ext hwq).cell 0; have q1 : wq.cell? ⟨w.heap.size, 1, none⟩ = some (.bool false) := (hBr.ext hwq).cell 1
                  go_wp2_with (fail)
                  all_goals exact hK _ hwq)
               · rfl)
            | (refine wpMix_guardT rfl rfl rfl ?_ ?_ <;> intro hc <;> first | (cases hc; done) | ((try cases hc); simp only [Act.put, List.setIfInBounds_toArray, List.set_cons_succ, List.set_cons_zero]))
            | (refine wpMix_guardF rfl rfl rfl ?_ ?_ <;> intro hc <;> first | (cases hc; done) | ((try cases hc); simp only [Act.put, List.setIfInBounds_toArray, List.set_cons_succ, List.set_cons_zero]))
            | refine wpMix_guardU rfl rfl rfl ?_)
          all_goals
            refine wpMix_nil ?_
            intro w9 hw9
            go_wp2
            go_roundw
            case rel => exact ⟨k + 1, by go_num, by omega, hb.trans (hw9.mono hb.size), Hd⟩
            case measure => simp [intOf]; omega
        · have e1 : (seq == sq) = false := by simp; omega
          clear hne hq
          go_upto_region 4 with (fail)
          refine wp_region_below (by kernel_rfl) (by kernel_rfl) ?_
          repeat' (first
            | refine wpMix_plain rfl ?_
            | (refine' wpMixW_quiet _ (fun wq hwq K hK => ?_) ?_ ?_
               rotate_left 1
               · (have k0 := (hwq.cell (p := ⟨b, o + k * 2, none⟩) z1).trans c0; have k1 := (hwq.cell (p := ⟨b, o + k * 2 + 1, none⟩) z1).trans c1; have q0 : wq.cell? ⟨w.heap.size, 0, none⟩ = some (.int .i64 seq) := (hBr.ext hwq).cell 0; have q1 : wq.cell? ⟨w.heap.size, 1, none⟩ = some (.bool false) := (hBr.ext hwq).cell 1
                  go_wp2_with (fail)
                  all_goals exact hK _ hwq)
               · rfl)
            | (refine wpMix_guardT rfl rfl rfl ?_ ?_ <;> intro hc <;> first | (cases hc; done) | ((try cases hc); simp only [Act.put, List.setIfInBounds_toArray, List.set_cons_succ, List.set_cons_zero]))
            | (refine wpMix_guardF rfl rfl rfl ?_ ?_ <;> intro hc <;> first | (cases hc; done) | ((try cases hc); simp only [Act.put, List.setIfInBounds_toArray, List.set_cons_succ, List.set_cons_zero]))
            | refine wpMix_guardU rfl rfl rfl ?_)
          all_goals
            refine wpMix_nil ?_
            intro w9 hw9
            go_wp2
            go_roundw
            case rel => exact ⟨k + 1, by go_num, by omega, hb.trans (hw9.mono hb.size), Hd⟩
            case measure => simp [intOf]; omega
    · obtain rfl : k = N := by omega
      have e1 : decide ((k : Int) < k) = false := by simp
      have Hd : Hid ((-1 : Int) = X) := Lib.hid (by rw [← Hk.out, HN.out, List.drop_length]; rfl)
      clear Hk
      go_wp2
      go_ret
      exact ⟨by rw [← Hd.out]; rfl, hbl.trans (hb.mono hbl.size)⟩
end Go.Proofs.Ytapgojgcmlnbgab

/- window.Done, and the document's. -/
namespace Go.Proofs.Ytapgojgcmlnbgab
open Go.RowKit

/-- What both Done hand back. -/
def DonePost (w : World) (l : List Slt) (seq : Int) (e : Ending) (w' : World) : Prop :=
  Below w.heap.size w w' ∧ match doneP l seq with
      | none => e = .returned (.tuple #[.slice none 0 0, .bool false])
      | some k => ∃ v, e = .returned (.tuple #[v, .bool true]) ∧ SlotsPost w k v w'
theorem doneP_isS (l : List Slt) (seq : Int) : doneP l seq = (if idxP (isS seq) l 0 < 0 then none else some (l.set (idxP (isS seq) l 0).toNat ⟨seq, true⟩)) := doneP_idx l seq
set_option maxRecDepth 100000 in
set_option maxHeartbeats 1000000 in
theorem done_any (A : Option Addr) (cap : Nat) (l : List Slt) (seq : Int) (w : World) (hl : l.length * 16 ≤ 140737488351232) (hA : SlotsAt w w.heap.size A l) (hnil : A = none → l = [] ∧ cap = 0) :
    Calls Try.prog 17 #[.slice A l.length cap, .int .i64 seq] w (DonePost w l seq) := by
  have CI := Lib.hid (fun W hW => index_any A cap l seq W (by omega) hW)
  have hx := doneP_isS l seq
  rcases idxP_cases (isS seq) l 0 with ⟨h1, _⟩ | ⟨j, s, h1, h2, h3, _⟩
  · have h1' : idxP (isS seq) l 0 = -1 := h1
    rw [h1'] at CI hx
    rw [if_pos (by omega)] at hx
    have HX := Lib.hid hx
    clear hx h1 h1'
    generalize l.length = N at *
    go_enter Try.func17, Try.ntmps17
    go_wp2_with (go_at_call 46; (with_reducible refine (CI.out _ hA).mono ?_); rintro e w2 ⟨rfl, hb2⟩)
    go_ret2
    refine ⟨hb2, ?_⟩
    rw [HX.out]
    rfl
  · have h1' : idxP (isS seq) l 0 = (j : Int) := by simpa using h1
    rw [h1'] at CI hx
    rw [if_neg (by omega), Int.toNat_natCast] at hx
    obtain rfl : s = ⟨seq, false⟩ := by unfold isS at h3; simpa using h3
    have hj : j < l.length := (List.getElem?_eq_some_iff.1 h2).1
    have hset := slotsV_set l j seq h2
    have HX := Lib.hid hx
    have HS := Lib.hid hset
    have CL := Lib.hid (fun W (hW : SlotsAt W W.heap.size A l) => cloneSlots_any A l.length cap (slotsV l) W (by omega) (slotsV_len l) (slotsV_oneCell l) hW.cells (fun e => by rw [(hnil e).1]; rfl))
    have hlen : (l.set j ⟨seq, true⟩).length = l.length := List.length_set
    have HL := Lib.hid hlen
    have hcv := (slotsV_at l j _ h2).2
    clear hx h1 h1' hset h2 h3 hlen
    generalize hN : l.length = N at *
    go_enter Try.func17, Try.ntmps17
    go_upto_region 4 with (go_at_call 46; (with_reducible refine (CI.out _ hA).mono ?_); rintro e w2 ⟨rfl, hb2⟩)
    try go_simp
    have hA2 := (hA.below hb2).mono hb2.size
    go_upto_region 5 with (go_at_call 45; (with_reducible refine (CL.out _ hA2).mono ?_); rintro e w3 ⟨v3, rfl, hown3, hb3⟩)
    try go_simp
    obtain ⟨g, c3, hv, hgb, hgl⟩ := hown3.form (by omega)
    subst hv
    have hc : w3.cell? ⟨g, j * 2 + 1, none⟩ = some (.bool false) := (hown3.cellAt (j * 2 + 1) (by omega)).trans hcv
    have hfz := hown3.frozenAt (j * 2 + 1)
    have Hown := Lib.hid hown3
    clear hown3
    go_wp2
    go_ret2
    have e1 := Hown.out.stored (j * 2 + 1) (.bool true)
    have hb9 := (hb2.trans (hb3.mono hb2.size)).setCell (p := ⟨g, j * 2 + 1, none⟩) (by have := hb2.size; simp; omega) (.bool true)
    refine ⟨hb9, ?_⟩
    rw [HX.out]
    refine ⟨.slice (some ⟨g, 0, none⟩) N c3, rfl, ?_⟩
    unfold SlotsPost
    rw [HS.out, HL.out]
    exact own_low e1.1 hb2.size
end Go.Proofs.Ytapgojgcmlnbgab

/- humpyardref8.Done. -/
namespace Go.Proofs.Ytapgojgcmlnbgab
open Go.RowKit

set_option maxRecDepth 100000 in
set_option maxHeartbeats 2000000 in
theorem rdone_any (A : Option Addr) (cap : Nat) (l : List Slt) (seq : Int) (w : World) (hl : l.length * 16 ≤ 140737488351232) (hA : SlotsAt w w.heap.size A l) (hnil : A = none → l = [] ∧ cap = 0) :
    Calls Try.prog 18 #[.slice A l.length cap, .int .i64 seq] w fun e w' => DonePost w l seq e w' := by
  have hx := doneP_isS l seq
  obtain ⟨X, hX⟩ : ∃ X, idxP (isS seq) l 0 = X := ⟨_, rfl⟩
  rw [hX] at hx
  have HX : Hid (idxP (isS seq) (l.drop 0) ((0 : Nat) : Int) = X) := Lib.hid (by simpa using hX)
  have HD := Lib.hid hx
  obtain ⟨N, hN⟩ : ∃ N, N = l.length := ⟨_, rfl⟩
  rw [← hN] at hl ⊢
  have HN := Lib.hid hN
  have Hnil := Lib.hid hnil
  have Hc := Lib.hid hA.cells
  have hcl : Hid ((slotsV l).length = N * 2) := Lib.hid (by rw [slotsV_len, hN])
  clear hx hX hN hnil hA
  obtain ⟨i0, hi, hz0, hz1, hz2⟩ := info_parts cloneSlots_any_info
  have hown0 := World.ownsRow_lit (base := w.heap.size) (e := 34) (size := 2) w #[] 0 (Nat.le_refl _) (by unfold maxLen; omega) rfl
  go_enter Try.func18, Try.ntmps18
  go_upto_region 2 with (at_builtin; refine wpList_append_any rfl (.tmp 8) (.tmp 9) 22 rfl w.heap.size 34 i0 _ 2 16 Try.underlying22 hi hz0 hz1 hz2 rfl (by decide) _ 0 [] rfl hown0 A N cap (slotsV l) rfl hcl.out (fun hn => by obtain ⟨e1, e2⟩ := Hnil.out hn; exact ⟨by rw [HN.out, e1]; rfl, e2⟩) (fun ad hd j u hu => (World.cell?_alloc_lt _ _ _ (World.block_lt_of_cell? _ _ (Hc.out ad hd j u hu))).trans (Hc.out ad hd j u hu)) (slotsV_oneCell _) (by unfold maxLen; omega) (by omega) (by simp) ?_; intro v5 w5 hown5 hg5; have hb5 : Below w.heap.size w w5 := ((Below.refl _ _).alloc (Nat.le_refl _) _).grown hg5 (by simp) (fun k hk => by cases hk; exact Nat.le_refl _))
  try go_simp
  replace hown5 : w5.ownsRow w.heap.size 34 2 v5 N (slotsV l) := by simpa using hown5
  obtain ⟨A5, c5, rfl⟩ := own_value hown5
  have Hown := Lib.hid hown5
  have HA5 := Lib.hid (SlotsAt.own hown5)
  clear hown5 hg5 hown0
  go_upto_region 3 with (fail)
  go_loopw [7] (fun v wr => ∃ k : Nat, v = .int .i64 k ∧ k ≤ N ∧ wr = w5 ∧ Hid (idxP (isS seq) (l.drop k) k = X)) (fun v _ => N + 1 - (intOf v).toNat)
  case atStart => exact ⟨0, rfl, Nat.zero_le _, rfl, HX⟩
  case round =>
    clear HX
    obtain ⟨k, rfl, hk, rfl, Hk⟩ := hrel
    by_cases hlt : k < N
    · have hk' : k < l.length := by rw [← HN.out]; exact hlt
      obtain ⟨b, o, hAe, hgB, c0, c1⟩ := HA5.out.at_ hk'
      have hd := idxP_drop (isS seq) l hk' (k : Int)
      have hge : l[k]? = some (l[k]'hk') := List.getElem?_eq_getElem hk'
      generalize l[k]'hk' = s at *
      obtain ⟨sq, dn⟩ := s
      dsimp only at c0 c1
      by_cases hs : isS seq ⟨sq, dn⟩ = true
      · obtain ⟨rfl, rfl⟩ : sq = seq ∧ dn = false := by unfold isS at hs; simpa using hs
        have Hd : Hid ((k : Int) = X) := Lib.hid (by rw [if_pos hs] at hd; rw [← Hk.out, hd])
        have hset := Lib.hid (slotsV_set l k sq hge)
        have e1 : (sq == sq) = true := by simp
        clear hd Hk hs hge
        obtain ⟨g, c3, hv, hgb, hgl⟩ := Hown.out.form (by omega)
        injection hv with hv1 hv2 hv3
        rw [hv1] at hAe
        injection hAe with hAe
        injection hAe with h1 h2
        subst hv1 h1 h2 hv3
        simp only [Nat.zero_add] at c0 c1
        have hfz := Hown.out.frozenAt (k * 2 + 1)
        go_wp2
        try go_ret2
        have e1 := Hown.out.stored (k * 2 + 1) (.bool true)
        have hb9 := hb5.setCell (p := ⟨g, k * 2 + 1, none⟩) (by simpa using hgb) (.bool true)
        refine ⟨hb9, ?_⟩
        rw [HD.out, ← Hd.out, if_neg (by omega), Int.toNat_natCast]
        refine ⟨.slice (some ⟨g, 0, none⟩) N c5, rfl, ?_⟩
        unfold SlotsPost
        rw [hset.out, List.length_set, ← HN.out]
        exact e1.1
      · have Hd : Hid (idxP (isS seq) (l.drop (k + 1)) ((k + 1 : Nat) : Int) = X) := Lib.hid (by rw [if_neg hs] at hd; rw [← Hk.out, hd]; rfl)
        have hne : sq = seq → dn = true := fun e => by
          subst e
          cases dn with
          | true => rfl
          | false => exact absurd (by unfold isS; simp) hs
        clear hd Hk hs hge
        subst hAe
        by_cases hq : sq = seq
        · obtain rfl := hne hq
          subst hq
          clear hne
          have e1 : (sq == sq) = true := by simp
          go_wp2
          go_roundw
          case rel => exact ⟨k + 1, by go_num, by omega, by first | rfl | trivial, Hd⟩
          case measure => simp [intOf]; omega
        · have e1 : (sq == seq) = false := by simp; omega
          clear hne hq
          go_wp2
          go_roundw
          case rel => exact ⟨k + 1, by go_num, by omega, by first | rfl | trivial, Hd⟩
          case measure => simp [intOf]; omega
    · obtain rfl : k = N := by omega
      have e1 : decide ((k : Int) < k) = false := by simp
      have Hd : Hid ((-1 : Int) = X) := Lib.hid (by rw [← Hk.out, HN.out, List.drop_length]; rfl)
      clear Hk
      go_wp2
      try go_ret2
      refine ⟨hb5, ?_⟩
      rw [HD.out, ← Hd.out, if_pos (by omega)]
      rfl
end Go.Proofs.Ytapgojgcmlnbgab
