/- The walk of hart.Go. -/
import Derived.Test.YtapgojgcmlnbgabKHS922
import Derived.Test.YtapgojgcmlnbgabKHS901
import Derived.Test.YtapgojgcmlnbgabKHS900
import Derived.Test.YtapgojgcmlnbgabProg
import Derived.WalkLawsBesides
import Derived.WalkSpells
import Derived.Lib.Hide
set_option linter.unusedSimpArgs false
set_option linter.unusedVariables false

namespace Go.Proofs.Ytapgojgcmlnbgab
open Go.RowKit

/-- Two blocks apart, all that lay there lies there as it lay. -/
structure Two (x y : Option Nat) (w w' : World) : Prop where
  os : w'.os = w.os
  tape : w'.tape = w.tape
  output : w'.output = w.output
  size : w.heap.size ≤ w'.heap.size
  block : ∀ k, k < w.heap.size → some k ≠ x → some k ≠ y → w'.heap[k]? = w.heap[k]?
theorem Two.of {x y : Option Nat} {w w1 w' : World} (h : w.grownBy w1 x) (k : w1.grownBy w' y) : Two x y w w' :=
  ⟨k.os.trans h.os, k.tape.trans h.tape, k.output.trans h.output, Nat.le_trans h.size k.size, fun j hj h1 h2 => (k.block j (Nat.lt_of_lt_of_le hj h.size) h2).trans (h.block j hj h1)⟩
theorem Two.refl (x y : Option Nat) (w : World) : Two x y w w := ⟨rfl, rfl, rfl, Nat.le_refl _, fun _ _ _ _ => rfl⟩
theorem Two.trans {x y : Option Nat} {w w1 w' : World} (h : Two x y w w1) (k : Two x y w1 w') : Two x y w w' :=
  ⟨k.os.trans h.os, k.tape.trans h.tape, k.output.trans h.output, Nat.le_trans h.size k.size, fun j hj h1 h2 => (k.block j (Nat.lt_of_lt_of_le hj h.size) h1 h2).trans (h.block j hj h1 h2)⟩
theorem Two.grown {x y : Option Nat} {w w1 w' : World} (h : Two x y w w1) {r : Option Nat} (k : w1.grownBy w' r) (hr : ∀ j, r = some j → w.heap.size ≤ j) : Two x y w w' :=
  ⟨k.os.trans h.os, k.tape.trans h.tape, k.output.trans h.output, Nat.le_trans h.size k.size, fun j hj h1 h2 => (k.block j (Nat.lt_of_lt_of_le hj h.size) (fun e => by have := hr j e.symm; omega)).trans (h.block j hj h1 h2)⟩
theorem Two.after {x y : Option Nat} {w w1 w' : World} {B : Nat} (hb : Below B w w1) (hB : w.heap.size ≤ B) (k : Two x y w1 w') : Two x y w w' :=
  ⟨k.os.trans hb.os, k.tape.trans hb.tape, k.output.trans hb.output, Nat.le_trans hb.size k.size, fun j hj h1 h2 => (k.block j (Nat.lt_of_lt_of_le hj hb.size) h1 h2).trans (hb.block j (by omega))⟩
theorem Two.blk {x y : Option Nat} {w w' : World} {g : Nat} {t : TypeId} {cs : Array Value} (k : Two x y w w') (h : Blk w g t cs) (h1 : some g ≠ x) (h2 : some g ≠ y) : Blk w' g t cs := (k.block g h.lt h1 h2).trans h
theorem Two.below {x y : Option Nat} {w0 w w' : World} {B : Nat} (hb : Below B w0 w) (k : Two x y w w') (hB : B ≤ w.heap.size) (h1 : ∀ j, x = some j → B ≤ j) (h2 : ∀ j, y = some j → B ≤ j) : Below B w0 w' :=
  ⟨k.os.trans hb.os, k.tape.trans hb.tape, k.output.trans hb.output, Nat.le_trans hb.size k.size, fun j hj => (k.block j (by omega) (fun e => by have := h1 j e.symm; omega) (fun e => by have := h2 j e.symm; omega)).trans (hb.block j hj)⟩
theorem comP_of {h : Hart} {m : List Int} {i : Ins} {cause : Int} (hf : fetchP m h.pc = (i, cause)) : comP h m = if cause = 0 then doesP i h m else trapC h.pc cause := by
  unfold comP
  rw [hf]
theorem own_keep {w w' : World} {base : Nat} {e : TypeId} {size : Nat} {v : Value} {n : Nat} {xs : List Value} (h : w.ownsRow base e size v n xs) (hb : Below w.heap.size w w') : w'.ownsRow base e size v n xs := by
  rcases hv : v.ownBlock with _ | k
  · exact h.kept (below_any hb none) (Or.inl hv)
  · exact h.kept (below_any hb none) (Or.inr (by rw [hv]; simp))
theorem trapC_cells_one (pc cause : Int) : (trapC pc cause).cells.all (·.oneCell') = true := com_one
theorem cells_one (c : Com) : c.cells.all (·.oneCell') = true := com_one
set_option maxHeartbeats 2000000 in
set_option maxRecDepth 100000 in
theorem go_any (h : Hart) (b : Nat) (T : TypeId) (A : Option Addr) (base cap : Nat) (m : List Int) (w : World) (hh : h.Wf) (hH : Blk w b T h.cells) (hl : m.length ≤ 4294967291) (hm : Bytes m)
    (hown : w.ownsRow base 5 1 (.slice A m.length cap) m.length (m.map (.int .u8))) (hne : (Value.slice A m.length cap).ownBlock ≠ some b) :
    Calls Try.prog 68 #[.pointer (some ⟨b, 0, none⟩), .slice A m.length cap] w fun e w' => e = .returned (.agg (comP h m).cells) ∧ Blk w' b T (goH h m).cells ∧
      w'.ownsRow base 5 1 (.slice A m.length cap) m.length ((goM h m).map (.int .u8)) ∧ Two (some b) (Value.slice A m.length cap).ownBlock w w' := by
  obtain ⟨i, cause, hf⟩ : ∃ i cause, fetchP m h.pc = (i, cause) := ⟨_, _, rfl⟩
  have hcom := comP_of hf
  have hcwf := Lib.hid (comP_wf hh hm)
  have hcfit := Lib.hid (comP_fits h m)
  have hgoH : appC h.cells 0 (comP h m) = (goH h m).cells := appC_hart h (comP h m) hh.len hcwf.out.rd.1 hcwf.out.rd.2
  have hgoM : applyM (comP h m) m = goM h m := rfl
  have hcz := fetchP_is (m := m) (pc := h.pc)
  rw [hf] at hcz
  dsimp only at hcz
  have CF := Lib.hid (fun W hW => fetch_any A cap m h.pc W hh.pc0 hh.pc1 (by omega) hm hW)
  rw [hf] at CF
  dsimp only at CF
  have cpc := (hH.cell 32).trans (Hart.cells_pc hh.len).1
  have HgH := Lib.hid hgoH
  have HgM := Lib.hid hgoM
  have Hcom := Lib.hid hcom
  generalize goH h m = h' at *
  generalize goM h m = m' at *
  generalize comP h m = cm at *
  clear hgoH hgoM hcom hf
  have zb := hH.lt
  go_enter Try.func68, Try.ntmps68
  go_upto_region 1 with (fail)
  go_simp
  refine wp_gen fun wa hq => ?_
  have hR : Blk wa w.heap.size 54 #[.int .u32 0, .int .u32 0, .int .i64 0, .int .i64 0, .int .i64 0, .int .u32 0, .int .u32 0, .int .i64 0, .int .u32 0, .bool false, .int .u32 0] := by rw [hq]; exact Blk.new w _ _
  have hbl : Below w.heap.size w wa := by rw [hq]; exact (Below.refl _ _).alloc (Nat.le_refl _) _
  clear hq
  have hHa := hH.ext hbl
  have hM := own_keep hown hbl
  have cpa := (hbl.cell (p := ⟨b, 32, none⟩) zb).trans cpc
  have hA := IntsAt.own hM
  go_upto_region 2 with (go_at_call 80; (with_reducible refine (CF.out _ hA).mono ?_); rintro e w2 ⟨rfl, hb2⟩)
  try go_simp
  refine wp_gen fun wb hq => ?_
  have hI : Blk wb w2.heap.size 40 i.cells := by rw [hq]; exact Blk.new w2 _ _
  have hbb : Below wa.heap.size wa wb := by rw [hq]; exact hb2.alloc hb2.size _
  have hsz2 : wa.heap.size ≤ w2.heap.size := hb2.size
  generalize w2.heap.size = g5 at *
  clear hq hb2
  replace hbl := hbl.trans (hbb.mono hbl.size)
  have hRb := hR.ext hbb
  replace hHa := hHa.ext hbb
  replace hM := own_keep hM hbb
  have cpb := (hbl.cell (p := ⟨b, 32, none⟩) zb).trans cpc
  have hRl := hR.lt
  have hg5 : w.heap.size < g5 := by omega
  clear hR hA cpa hbb CF
  go_upto_region 3 with (go_at_call 81; (with_reducible refine (trap_any ⟨h.pc, 0, 0, 0, 0, 0, 0, 0, 0, false, 0⟩ cause _).mono ?_); rintro e w2 ⟨rfl, hb2⟩)
  try go_simp
  refine wp_gen fun wc hq => ?_
  have hC : Blk wc w2.heap.size 54 (trapC h.pc cause).cells := by rw [hq]; exact Blk.new w2 _ _
  have hbb : Below wb.heap.size wb wc := by rw [hq]; exact hb2.alloc hb2.size _
  have hsz3 : wb.heap.size ≤ w2.heap.size := hb2.size
  have hI2 := hI.ext hbb
  have hR2 := hRb.ext hbb
  have hIl := hI.lt
  generalize w2.heap.size = g7 at *
  clear hq hb2
  replace hbl := hbl.trans (hbb.mono hbl.size)
  replace hHa := hHa.ext hbb
  replace hM := own_keep hM hbb
  have hg7 : g5 < g7 := by omega
  clear hI hRb cpb hbb hIl hsz3 hsz2 hRl
  by_cases hz : cause = 0
  · subst hz
    obtain ⟨hI3, _, _⟩ := hcz rfl
    have hcmd : doesP i h m = cm := (show cm = doesP i h m from Hcom.out).symm
    obtain ⟨_, _, ⟨hs0, hs1⟩, ht0, ht1⟩ := is_op hI3
    have CD := Lib.hid (fun W (hW : HartAt W b 0 h) hA => does_any i h b 0 A cap m W hh hs0 hs1 ht0 ht1 hW (by omega) hm hA)
    rw [hcmd] at CD
    have hHt := HartAt.of_blk hh.len hHa
    have hA := IntsAt.own hM
    clear hcz Hcom hcmd hI3 hs0 hs1 ht0 ht1
    go_upto_region 5 with (first
      | (refine wpList_load_all rfl 40 _ rfl g5 rfl 40 _ _ hI2 Try.underlying40 rfl ins_info ?_)
      | (go_at_call 82; (with_reducible refine (CD.out _ hHt hA).mono ?_); rintro e w3 ⟨rfl, hb3⟩; replace hbl := hbl.trans (hb3.mono hbl.size); replace hR2 := hR2.ext hb3; replace hC := hC.ext hb3; replace hHa := hHa.ext hb3; replace hM := own_keep hM hb3; clear hb3)
      | (refine wpList_store_all rfl 54 _ _ rfl g7 cm.cells rfl rfl 54 _ hC com_info rfl (cells_one cm) ?_; intro w5 hB5 hg5'; replace hR2 := hR2.grown hg5' (fun e => by injection e; omega); replace hHa := hHa.grown hg5' (fun e => by injection e; omega); replace hM := hM.kept hg5' (Or.inr (fun e => by have := (hown.lt g7 e).2; omega)); replace hbl := below_grown hbl hg5' hbl.size (by omega); replace hC := hB5; clear hg5' hB5))
    try go_simp
    have hcw := hcwf.out
    have hcf := hcfit.out
    have hcr0 := hcw.rd.1
    have hcr1 := hcw.rd.2
    have hcd0 := hcw.data.1
    have hcd1 := hcw.data.2
    have hcm := hcw.many
    have hfit : cm.many = 0 ∨ (0 ≤ cm.at_ ∧ cm.at_ + cm.many ≤ m.length ∧ cm.at_ ≤ 4294967291) := by
      have h1 := hcw.at_
      rcases hcf with h | h
      · exact Or.inl h
      · rcases hcm with h' | h' | h' | h'
        · exact Or.inl h'
        · exact Or.inr (by omega)
        · exact Or.inr (by omega)
        · exact Or.inr (by omega)
    have CA := Lib.hid (apply_any cm b 0 T h.cells A base cap m _ hHa (by rw [Hart.cells_size hh.len]; omega) hcr0 hcr1 hM hne (by omega) hcm hfit hcd0 hcd1)
    clear hcw hcf hcr0 hcr1 hcd0 hcd1 hcm hfit
    have hR0 := hR2.lt
    have hR7 := hC.lt
    go_upto_region 6 with (first
      | (refine wpList_load_all rfl 54 _ rfl g7 rfl 54 _ _ hC Try.underlying54 rfl com_info ?_)
      | (go_at_call 83; (with_reducible refine CA.out.mono ?_); rintro e w9 ⟨rfl, w8, hg8, hH8, hM9, hg9⟩; have hTw := Two.of hg8 hg9; replace hR2 := hTw.blk hR2 (fun e => by injection e; omega) (fun e => by have := (hown.lt w.heap.size e.symm).2; omega); replace hC := hTw.blk hC (fun e => by injection e; omega) (fun e => by have := (hown.lt g7 e.symm).2; omega)))
    replace hTw := Two.after hbl (Nat.le_refl _) hTw
    have hH9 := hH8.grown hg9 (fun e => hne e.symm)
    rw [HgH.out] at hH9
    rw [HgM.out] at hM9
    clear CA hH8 hg8 hg9
    go_wp2_with (first
      | (refine wpList_load_all rfl 54 _ rfl g7 rfl 54 _ _ hC Try.underlying54 rfl com_info ?_)
      | (refine wpList_store_all rfl 54 _ _ rfl w.heap.size cm.cells rfl rfl 54 _ hR2 com_info rfl (cells_one cm) ?_; intro w5 hB5 hg5'))
    exact bodyPost_ret (v := .agg cm.cells) (results_blk rfl _ _ w.heap.size 54 _ _ rfl hB5 Try.underlying54 rfl com_info) rfl ⟨rfl, hH9.grown hg5' (fun e => by injection e; omega), hM9.kept hg5' (Or.inr (fun e => by have := (hown.lt w.heap.size e).2; omega)), hTw.grown hg5' (fun j hj => by injection hj; omega)⟩
  · obtain rfl : cm = trapC h.pc cause := by have h := Hcom.out; rw [if_neg hz] at h; exact h
    have hz' : (cause == 0) = false := by simpa using hz
    clear Hcom hcz
    have hRx := hR2
    go_upto_region 5 with (fail)
    try go_simp
    clear hz hz' hRx
    have hcw := hcwf.out
    have hcf := hcfit.out
    have hcr0 := hcw.rd.1
    have hcr1 := hcw.rd.2
    have hcd0 := hcw.data.1
    have hcd1 := hcw.data.2
    have hcm := hcw.many
    have hfit : (trapC h.pc cause).many = 0 ∨ (0 ≤ (trapC h.pc cause).at_ ∧ (trapC h.pc cause).at_ + (trapC h.pc cause).many ≤ m.length ∧ (trapC h.pc cause).at_ ≤ 4294967291) := by
      have h1 := hcw.at_
      rcases hcf with h | h
      · exact Or.inl h
      · rcases hcm with h' | h' | h' | h'
        · exact Or.inl h'
        · exact Or.inr (by omega)
        · exact Or.inr (by omega)
        · exact Or.inr (by omega)
    have CA := Lib.hid (apply_any (trapC h.pc cause) b 0 T h.cells A base cap m _ hHa (by rw [Hart.cells_size hh.len]; omega) hcr0 hcr1 hM hne (by omega) hcm hfit hcd0 hcd1)
    clear hcw hcf hcr0 hcr1 hcd0 hcd1 hcm hfit
    have hR0 := hR2.lt
    have hR7 := hC.lt
    go_upto_region 6 with (first
      | (refine wpList_load_all rfl 54 _ rfl g7 rfl 54 _ _ hC Try.underlying54 rfl com_info ?_)
      | (go_at_call 83; (with_reducible refine CA.out.mono ?_); rintro e w9 ⟨rfl, w8, hg8, hH8, hM9, hg9⟩; have hTw := Two.of hg8 hg9; replace hR2 := hTw.blk hR2 (fun e => by injection e; omega) (fun e => by have := (hown.lt w.heap.size e.symm).2; omega); replace hC := hTw.blk hC (fun e => by injection e; omega) (fun e => by have := (hown.lt g7 e.symm).2; omega)))
    replace hTw := Two.after hbl (Nat.le_refl _) hTw
    have hH9 := hH8.grown hg9 (fun e => hne e.symm)
    rw [HgH.out] at hH9
    rw [HgM.out] at hM9
    clear CA hH8 hg8 hg9
    go_wp2_with (first
      | (refine wpList_load_all rfl 54 _ rfl g7 rfl 54 _ _ hC Try.underlying54 rfl com_info ?_)
      | (refine wpList_store_all rfl 54 _ _ rfl w.heap.size (trapC h.pc cause).cells rfl rfl 54 _ hR2 com_info rfl (cells_one (trapC h.pc cause)) ?_; intro w5 hB5 hg5'))
    exact bodyPost_ret (v := .agg (trapC h.pc cause).cells) (results_blk rfl _ _ w.heap.size 54 _ _ rfl hB5 Try.underlying54 rfl com_info) rfl ⟨rfl, hH9.grown hg5' (fun e => by injection e; omega), hM9.kept hg5' (Or.inr (fun e => by have := (hown.lt w.heap.size e).2; omega)), hTw.grown hg5' (fun j hj => by injection hj; omega)⟩
end Go.Proofs.Ytapgojgcmlnbgab

/- The results of a function of which one lies in a block. -/
namespace Go.Proofs.Ytapgojgcmlnbgab
open Go Go.RowKit
section
variable {P : Program} {fn : Func} {tmps : Array Value} {w : World} {ad : Addr} {v x y z : Value} {p a b c : Tmp} {ty : TypeId}
theorem results_ct (h : fn.results = #[.cell p ty, .tmp a]) (hp : tmps.getD p undef = .pointer (some ad)) (ha : tmps.getD a undef = x) (hl : (loadVar ty ad).run P w = .ok v w) : (results fn tmps).run P w = .ok (.tuple #[v, x]) w := by
  have hp' : tmps[p]?.getD undef = .pointer (some ad) := by simpa using hp
  have ha' : tmps[a]?.getD undef = x := by simpa using ha
  simp [results, h, hp', ha', asAddr, hl]
theorem results_cttt (h : fn.results = #[.cell p ty, .tmp a, .tmp b, .tmp c]) (hp : tmps.getD p undef = .pointer (some ad)) (ha : tmps.getD a undef = x) (hb : tmps.getD b undef = y) (hc : tmps.getD c undef = z) (hl : (loadVar ty ad).run P w = .ok v w) :
    (results fn tmps).run P w = .ok (.tuple #[v, x, y, z]) w := by
  have hp' : tmps[p]?.getD undef = .pointer (some ad) := by simpa using hp
  have ha' : tmps[a]?.getD undef = x := by simpa using ha
  have hb' : tmps[b]?.getD undef = y := by simpa using hb
  have hc' : tmps[c]?.getD undef = z := by simpa using hc
  simp [results, h, hp', ha', hb', hc', asAddr, hl]
end
end Go.Proofs.Ytapgojgcmlnbgab

/- slices.Clone of bytes. -/
namespace Go.Proofs.Ytapgojgcmlnbgab
open Go.RowKit
theorem cloneBytes_any_info : (Try.prog.info? 5).map (fun i => (i.zero, i.size, i.bytes)) = some (some (.int .u8 0), 1, 1) := by kernel_rfl
set_option maxRecDepth 100000 in
set_option maxHeartbeats 400000 in
theorem cloneBytes_any (A : Option Addr) (n cap : Nat) (cs : List Value) (w : World) (hl : n * 1 ≤ 140737488355328) (hlen : cs.length = n * 1) (h1 : ∀ u ∈ cs, u.oneCell' = true)
    (hc : ∀ ad, A = some ad → ∀ j u, cs[j]? = some u → w.cell? (ad.add j) = some u) (hnil : A = none → n = 0) :
    Calls Try.prog 67 #[.slice A n cap] w fun e w' => ∃ v, e = .returned v ∧ w'.ownsRow w.heap.size 5 1 v n cs ∧ Below w.heap.size w w' := by
  rcases A with _ | ad
  · obtain rfl := hnil rfl
    obtain rfl : cs = [] := List.eq_nil_of_length_eq_zero (by simpa using hlen)
    have hn := Lib.run_eql_slice_nil (P := Try.prog) w 32 5 none 0 cap 0 0 Try.underlying32
    go_enter Try.func67, Try.ntmps67
    go_wp2
    go_ret
    exact ⟨_, rfl, World.ownsRow_nil _ _ _ _, Below.refl _ _⟩
  · have hn := Lib.run_eql_slice_nil (P := Try.prog) w 32 5 (some ad) n cap 0 0 Try.underlying32
    obtain ⟨i0, hi, hz0, hz1, hz2⟩ := info_parts cloneBytes_any_info
    have Hc := Lib.hid (hc ad rfl)
    clear hc hnil
    have hown0 := World.ownsRow_lit (base := w.heap.size) (e := 5) (size := 1) w #[] 0 (Nat.le_refl _) (by unfold maxLen; omega) rfl
    go_enter Try.func67, Try.ntmps67
    go_wp2_with (at_builtin; refine wpList_append_own _ rfl (.tmp 5) (.tmp 6) 32 rfl w.heap.size 5 i0 _ 1 1 Try.underlying32 hi hz0 hz1 hz2 rfl (by decide) _ 0 [] rfl hown0 ad n cap cs rfl hlen (fun j u hu => (World.cell?_alloc_lt _ _ _ (World.block_lt_of_cell? _ _ (Hc.out j u hu))).trans (Hc.out j u hu)) h1 (by unfold maxLen; omega) (by omega) (by simp) ?_; intro v1 w1 hown1 hg1 hat1)
    go_ret
    refine ⟨v1, rfl, by simpa using hown1, ((Below.refl _ _).alloc (Nat.le_refl _) _).grown hg1 (by simp) (fun k hk => ?_)⟩
    cases hk
    exact Nat.le_refl _
end Go.Proofs.Ytapgojgcmlnbgab
