/- window.Done, and the document's. -/
import Derived.Test.YtapgojgcmlnbgabWindow4
namespace Go.Proofs.Ytapgojgcmlnbgab
open Go.RowKit

/-- What both Done hand back. -/
def DonePost (w : World) (l : List Slt) (seq : Int) (e : Ending) (w' : World) : Prop :=
  Below w.heap.size w w' ∧ match doneP l seq with
      | none => e = .returned (.tuple #[.slice none 0 0, .bool false])
      | some k => ∃ v, e = .returned (.tuple #[v, .bool true]) ∧ SlotsPost w k v w'
theorem doneP_isS (l : List Slt) (seq : Int) : doneP l seq = (if idxP (isS seq) l 0 < 0 then none else some (l.set (idxP (isS seq) l 0).toNat ⟨seq, true⟩)) := doneP_idx l seq
set_option maxRecDepth 100000 in
set_option maxHeartbeats 1000000 in
theorem done_any (A : Option Addr) (cap : Nat) (l : List Slt) (seq : Int) (w : World) (hl : l.length * 16 ≤ 140737488351232) (hA : SlotsAt w w.heap.size A l) (hnil : A = none → l = [] ∧ cap = 0) :
    Calls Try.prog 17 #[.slice A l.length cap, .int .i64 seq] w (DonePost w l seq) := by
  have CI := Lib.hid (fun W hW => index_any A cap l seq W (by omega) hW)
  have hx := doneP_isS l seq
  rcases idxP_cases (isS seq) l 0 with ⟨h1, _⟩ | ⟨j, s, h1, h2, h3, _⟩
  · have h1' : idxP (isS seq) l 0 = -1 := h1
    rw [h1'] at CI hx
    rw [if_pos (by omega)] at hx
    have HX := Lib.hid hx
    clear hx h1 h1'
    generalize l.length = N at *
    go_enter Try.func17, Try.ntmps17
    go_wp2_with (go_at_call 46; (with_reducible refine (CI.out _ hA).mono ?_); rintro e w2 ⟨rfl, hb2⟩)
    go_ret2
    refine ⟨hb2, ?_⟩
    rw [HX.out]
    rfl
  · have h1' : idxP (isS seq) l 0 = (j : Int) := by simpa using h1
    rw [h1'] at CI hx
    rw [if_neg (by omega), Int.toNat_natCast] at hx
    obtain rfl : s = ⟨seq, false⟩ := by unfold isS at h3; simpa using h3
    have hj : j < l.length := (List.getElem?_eq_some_iff.1 h2).1
    have hset := slotsV_set l j seq h2
    have HX := Lib.hid hx
    have HS := Lib.hid hset
    have CL := Lib.hid (fun W (hW : SlotsAt W W.heap.size A l) => cloneSlots_any A l.length cap (slotsV l) W (by omega) (slotsV_len l) (slotsV_oneCell l) hW.cells (fun e => by rw [(hnil e).1]; rfl))
    have hlen : (l.set j ⟨seq, true⟩).length = l.length := List.length_set
    have HL := Lib.hid hlen
    have hcv := (slotsV_at l j _ h2).2
    clear hx h1 h1' hset h2 h3 hlen
    generalize hN : l.length = N at *
    go_enter Try.func17, Try.ntmps17
    go_upto_region 4 with (go_at_call 46; (with_reducible refine (CI.out _ hA).mono ?_); rintro e w2 ⟨rfl, hb2⟩)
    try go_simp
    have hA2 := (hA.below hb2).mono hb2.size
    go_upto_region 5 with (go_at_call 45; (with_reducible refine (CL.out _ hA2).mono ?_); rintro e w3 ⟨v3, rfl, hown3, hb3⟩)
    try go_simp
    obtain ⟨g, c3, hv, hgb, hgl⟩ := hown3.form (by omega)
    subst hv
    have hc : w3.cell? ⟨g, j * 2 + 1, none⟩ = some (.bool false) := (hown3.cellAt (j * 2 + 1) (by omega)).trans hcv
    have hfz := hown3.frozenAt (j * 2 + 1)
    have Hown := Lib.hid hown3
    clear hown3
    go_wp2
    go_ret2
    have e1 := Hown.out.stored (j * 2 + 1) (.bool true)
    have hb9 := (hb2.trans (hb3.mono hb2.size)).setCell (p := ⟨g, j * 2 + 1, none⟩) (by have := hb2.size; simp; omega) (.bool true)
    refine ⟨hb9, ?_⟩
    rw [HX.out]
    refine ⟨.slice (some ⟨g, 0, none⟩) N c3, rfl, ?_⟩
    unfold SlotsPost
    rw [HS.out, HL.out]
    exact own_low e1.1 hb2.size
end Go.Proofs.Ytapgojgcmlnbgab
