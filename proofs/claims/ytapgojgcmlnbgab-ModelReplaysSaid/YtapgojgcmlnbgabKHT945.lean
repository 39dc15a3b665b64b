/- A nil slice of bytes that came in has no room. -/
import Derived.Test.YtapgojgcmlnbgabKHS925
import Derived.Test.YtapgojgcmlnbgabKHS927
import Derived.Test.YtapgojgcmlnbgabKHS900
import Derived.Test.YtapgojgcmlnbgabKHS931
set_option linter.unusedSimpArgs false
set_option linter.unusedVariables false

namespace Go.Proofs.Ytapgojgcmlnbgab
open Go.ChangeShapes Go.WideShapes Go.RowKit
section
variable {H : Type} {enc : TypeId × Value → H} {w : World} {base : Nat} {spare : Nat → Bool} {held : Bool}

theorem open_cap0 {fuel : Nat} {a : Option Addr} {len cap : Nat} {x : DataW H × List MemPlace} (h : DataW.trod enc Try.prog w base spare held fuel 32 [.slice a len cap] = some x) : a = none → cap = 0 := by
  intro ha
  rcases open_ints Try.underlying32 Try.underlying5 (by kernel_rfl) h with ⟨hcs, _⟩ | ⟨ad, _, _, _, hcs, _⟩
  · simp at hcs
    exact hcs.2.2
  · simp at hcs
    rw [ha] at hcs
    cases hcs.1
end
end Go.Proofs.Ytapgojgcmlnbgab

/- humpyardkeep.replay. -/
namespace Go.Proofs.Ytapgojgcmlnbgab
open Go.RowKit

/-- What a replay hands back. -/
def RepPost (w : World) (h : Hart) (m : List Int) (e : Ending) (w' : World) : Prop :=
  ∃ A2 c2, e = .returned (.tuple #[.agg h.cells, .slice A2 m.length c2]) ∧ Below w.heap.size w w' ∧ w'.ownsRow w.heap.size 5 1 (.slice A2 m.length c2) m.length (m.map (.int .u8))
theorem _root_.Go.World.ownsRow.grownFar {w w' : World} {base : Nat} {e : TypeId} {size : Nat} {v : Value} {n : Nat} {xs : List Value} (ho : w.ownsRow base e size v n xs) {g : Nat} (k : w.grownBy w' (some g)) (hg : g < base) : w'.ownsRow base e size v n xs :=
  ⟨ho.1, ho.2.imp id fun ⟨b, cap, cur, e, l, hh, r⟩ => ⟨b, cap, cur, e, l, by
    have hb : b < w.heap.size := by
      rcases Nat.lt_or_ge b w.heap.size with h' | h'
      · exact h'
      · rw [Array.getElem?_eq_none h'] at hh; cases hh
    rw [← hh]
    exact k.block b hb (fun e => by injection e; omega), r⟩⟩
end Go.Proofs.Ytapgojgcmlnbgab

/- humpyardkeep.replay. Printed by gen_rep.py. -/
namespace Go.Proofs.Ytapgojgcmlnbgab
open Go.RowKit

set_option maxHeartbeats 2000000 in
set_option maxRecDepth 100000 in
theorem replay_z_0 (h : Hart) (c0 c1 c2 c3 c4 c5 c6 c7 c8 : Int) (c9 : Bool) (c10 : Int)   (A : Option Addr) (cap : Nat) (m : List Int) (w : World) (hh : h.Wf) (d0 : 0 ≤ c8) (d1 : c8 ≤ 4294967295)  (hl : m.length ≤ 140737488351232) (hA : IntsAt w w.heap.size .u8 A m) (hnil : A = none → m = [] ∧ cap = 0) (hrd : c4 = 0) (hmany : c7 = 0) :
    Calls Try.prog 38 #[.agg h.cells, .slice A m.length cap, .agg (Com.mk c0 c1 c2 c3 c4 c5 c6 c7 c8 c9 c10).cells] w (RepPost w (applyH (Com.mk c0 c1 c2 c3 c4 c5 c6 c7 c8 c9 c10) h) (applyM (Com.mk c0 c1 c2 c3 c4 c5 c6 c7 c8 c9 c10) m)) := by
  have t4 : decide ((0 : Int) < c4) = false := decide_eq_false (by omega)
  have Hrd := Lib.hid hrd
  clear hrd
  have Hmany := Lib.hid hmany
  clear hmany
  obtain ⟨xh, hxh⟩ : ∃ x, x = applyH (Com.mk c0 c1 c2 c3 c4 c5 c6 c7 c8 c9 c10) h := ⟨_, rfl⟩
  obtain ⟨xm, hxm⟩ : ∃ x, x = applyM (Com.mk c0 c1 c2 c3 c4 c5 c6 c7 c8 c9 c10) m := ⟨_, rfl⟩
  rw [← hxh, ← hxm]
  have Hxh := Lib.hid hxh
  have Hxm := Lib.hid hxm
  clear hxh hxm
  obtain ⟨i0, hi, hz0, hz1, hz2⟩ := info_parts refStore_info
  go_enter Try.func38, Try.ntmps38
  go_upto_region 1 with (fail)
  go_simp
  refine wp_gen fun wa hq => ?_
  have hH : Blk wa w.heap.size 51 h.cells := by rw [hq]; exact ((Blk.new w _ _).alloc _).alloc _
  have hC : Blk wa (w.heap.size + 1) 54 ((Com.mk c0 c1 c2 c3 c4 c5 c6 c7 c8 c9 c10)).cells := by rw [hq]; exact (Blk.newAt (g := w.heap.size + 1) (w.alloc _) 54 _ (by simp)).alloc _
  have hR : Blk wa (w.heap.size + 2) 51 hart0.cells := by rw [hq]; exact Blk.newAt ((w.alloc _).alloc _) 51 _ (by simp)
  have hbl : Below w.heap.size w wa := by rw [hq]; exact (((Below.refl _ _).alloc (Nat.le_refl _) _).alloc (by simp) _).alloc (by simp; omega) _
  clear hq
  have q1 : wa.cell? ⟨w.heap.size + 1, 1, none⟩ = some (.int .u32 c1) := hC.cell 1
  have f32 := hH.frozen 32
  have q32 := (hH.cell 32).trans (Hart.cells_pc hh.len).1
  go_upto_region 2 with (fail)
  try go_simp
  replace hC := hC.farAt (b := w.heap.size) (off := 32) (by omega) (.int .u32 c1)
  replace hR := hR.farAt (b := w.heap.size) (off := 32) (by omega) (.int .u32 c1)
  replace hbl := below_set (b := w.heap.size) (off := 32) (u := .int .u32 c1) (Nat.le_refl _) hbl
  replace hH := hH.set 32 (.int .u32 c1)
  rw [set32 hh.len] at hH
  clear q1 f32 q32
  refine wp_gen fun wb hq => ?_
  rw [← hq] at hH hC hR hbl
  clear hq wa
  have q1 : wb.cell? ⟨w.heap.size + 1, 2, none⟩ = some (.int .i64 c2) := hC.cell 2
  have f32 := hH.frozen 33
  have q32 := (hH.cell 33).trans (Hart.cells_pc (h := ⟨h.regs, c1, h.state, h.cause⟩) hh.len).2.1
  go_upto_region 3 with (fail)
  try go_simp
  replace hC := hC.farAt (b := w.heap.size) (off := 33) (by omega) (.int .i64 c2)
  replace hR := hR.farAt (b := w.heap.size) (off := 33) (by omega) (.int .i64 c2)
  replace hbl := below_set (b := w.heap.size) (off := 33) (u := .int .i64 c2) (Nat.le_refl _) hbl
  replace hH := hH.set 33 (.int .i64 c2)
  rw [set33 (h := ⟨h.regs, c1, h.state, h.cause⟩) hh.len] at hH
  clear q1 f32 q32
  refine wp_gen fun wc hq => ?_
  rw [← hq] at hH hC hR hbl
  clear hq wb
  have q1 : wc.cell? ⟨w.heap.size + 1, 3, none⟩ = some (.int .i64 c3) := hC.cell 3
  have f32 := hH.frozen 34
  have q32 := (hH.cell 34).trans (Hart.cells_pc (h := ⟨h.regs, c1, c2, h.cause⟩) hh.len).2.2
  go_upto_region 4 with (fail)
  try go_simp
  replace hC := hC.farAt (b := w.heap.size) (off := 34) (by omega) (.int .i64 c3)
  replace hR := hR.farAt (b := w.heap.size) (off := 34) (by omega) (.int .i64 c3)
  replace hbl := below_set (b := w.heap.size) (off := 34) (u := .int .i64 c3) (Nat.le_refl _) hbl
  replace hH := hH.set 34 (.int .i64 c3)
  rw [set34 (h := ⟨h.regs, c1, c2, h.cause⟩) hh.len] at hH
  clear q1 f32 q32
  refine wp_gen fun wd hq => ?_
  rw [← hq] at hH hC hR hbl
  clear hq wc
  have q4 : wd.cell? ⟨w.heap.size + 1, 4, none⟩ = some (.int .i64 c4) := hC.cell 4
  go_upto_region 6 with (fail)
  try go_simp
  clear q4 t4
  have hR0 := hR
  have hAa := (hA.below hbl).mono hbl.size
  have Hc := Lib.hid hAa.cells
  have hown0 := World.ownsRow_lit (base := wd.heap.size) (e := 5) (size := 1) wd #[] 0 (Nat.le_refl _) (by unfold maxLen; omega) rfl
  go_upto_region 7 with (at_builtin; refine wpList_append_any rfl (.tmp 34) (.tmp 35) 32 rfl wd.heap.size 5 i0 _ 1 1 Try.underlying32 hi hz0 hz1 hz2 rfl (by decide) _ 0 [] rfl hown0 A m.length cap (m.map (.int .u8)) rfl (by simp) (fun hn => by obtain ⟨e1, e2⟩ := hnil hn; exact ⟨by rw [e1]; rfl, e2⟩) (fun ad hd j u hu => (World.cell?_alloc_lt _ _ _ (World.block_lt_of_cell? _ _ (Hc.out ad hd j u hu))).trans (Hc.out ad hd j u hu)) (ints_oneCell _ _) (by unfold maxLen; omega) (by omega) (by simp) ?_; intro v1 w1 hown1 hg1)
  try go_simp
  replace hown1 : w1.ownsRow wd.heap.size 5 1 v1 m.length (m.map (.int .u8)) := by simpa using hown1
  have hb1 : Below wd.heap.size wd w1 := ((Below.refl _ _).alloc (Nat.le_refl _) _).grown hg1 (by simp) (fun k hk => by cases hk; exact Nat.le_refl _)
  replace hC := hC.ext hb1
  replace hH := hH.ext hb1
  replace hR := hR.ext hb1
  have hbs := hbl.size
  have hRl : w.heap.size + 2 < wd.heap.size := by have := hb1.size; exact Nat.lt_of_lt_of_le hR0.lt (Nat.le_refl _)
  replace hbl := hbl.trans (hb1.mono hbl.size)
  clear hown0 hg1 hb1 Hc hAa
  obtain ⟨A2, cap2, rfl⟩ := own_value hown1
  have e6 : w1.cell? ⟨w.heap.size + 1, 6, none⟩ = some (.int .u32 c6) := hC.cell 6
  have e7 : w1.cell? ⟨w.heap.size + 1, 7, none⟩ = some (.int .i64 0) := (hC.cell 7).trans (by rw [← Hmany.out]; rfl)
  have e8 : w1.cell? ⟨w.heap.size + 1, 8, none⟩ = some (.int .u32 c8) := hC.cell 8
  have ehx : (Hart.mk h.regs c1 c2 c3) = xh := by rw [Hxh.out]; unfold applyH; dsimp only; rw [if_neg (by rw [Hrd.out]; omega)]
  have hxl : (Hart.mk h.regs c1 c2 c3).regs.length = 32 := by simpa using hh.len
  rw [ehx] at hH hxl
  clear ehx
  go_wp2
  refine wp_loop_rounds 1 ?_
  rw [rounds_succ]
  go_upto_region 13 with (fail)
  try go_simp
  go_wp2_with (first
    | (refine wpList_load_all rfl 51 _ rfl w.heap.size rfl 51 _ _ hH Try.underlying51 rfl (hart_info (h := xh) hxl) ?_)
    | (refine wpList_store_all rfl 51 _ _ rfl (w.heap.size + 2) xh.cells rfl rfl 51 _ hR (hart_info (h := xh) hxl) (by rw [Hart.cells_size (h := xh) hxl]; rfl) (hart_one xh) ?_; intro w7 hB7 hg7))
  have exm : m = xm := by rw [Hxm.out]; unfold applyM putN; dsimp only; rw [Hmany.out]; rfl
  rw [← exm]
  have hb7 := below_grown hbl hg7 hbl.size (by omega)
  have how := hown1.grownFar hg7 (by omega)
  exact bodyPost_ret (results_ct rfl rfl rfl (hart_load (h := xh) hxl hB7)) rfl ⟨A2, cap2, rfl, hb7, own_mono how hbs⟩
end Go.Proofs.Ytapgojgcmlnbgab

/- humpyardkeep.replay. Printed by gen_rep.py. -/
namespace Go.Proofs.Ytapgojgcmlnbgab
open Go.RowKit

set_option maxHeartbeats 2000000 in
set_option maxRecDepth 100000 in
theorem replay_z_1 (h : Hart) (c0 c1 c2 c3 c4 c5  c7 c8 : Int) (c9 : Bool) (c10 : Int)  (n : Nat) (A : Option Addr) (cap : Nat) (m : List Int) (w : World) (hh : h.Wf) (d0 : 0 ≤ c8) (d1 : c8 ≤ 4294967295) (n1 : (n : Int) ≤ 4294967295) (hin : n + 1 ≤ m.length) (hl : m.length ≤ 140737488351232) (hA : IntsAt w w.heap.size .u8 A m) (hnil : A = none → m = [] ∧ cap = 0) (hrd : c4 = 0) (hmany : c7 = 1) :
    Calls Try.prog 38 #[.agg h.cells, .slice A m.length cap, .agg (Com.mk c0 c1 c2 c3 c4 c5 n c7 c8 c9 c10).cells] w (RepPost w (applyH (Com.mk c0 c1 c2 c3 c4 c5 n c7 c8 c9 c10) h) (applyM (Com.mk c0 c1 c2 c3 c4 c5 n c7 c8 c9 c10) m)) := by
  have t4 : decide ((0 : Int) < c4) = false := decide_eq_false (by omega)
  have Hrd := Lib.hid hrd
  clear hrd
  have Hmany := Lib.hid hmany
  clear hmany
  obtain ⟨xh, hxh⟩ : ∃ x, x = applyH (Com.mk c0 c1 c2 c3 c4 c5 n c7 c8 c9 c10) h := ⟨_, rfl⟩
  obtain ⟨xm, hxm⟩ : ∃ x, x = applyM (Com.mk c0 c1 c2 c3 c4 c5 n c7 c8 c9 c10) m := ⟨_, rfl⟩
  rw [← hxh, ← hxm]
  have Hxh := Lib.hid hxh
  have Hxm := Lib.hid hxm
  clear hxh hxm
  obtain ⟨i0, hi, hz0, hz1, hz2⟩ := info_parts refStore_info
  go_enter Try.func38, Try.ntmps38
  go_upto_region 1 with (fail)
  go_simp
  refine wp_gen fun wa hq => ?_
  have hH : Blk wa w.heap.size 51 h.cells := by rw [hq]; exact ((Blk.new w _ _).alloc _).alloc _
  have hC : Blk wa (w.heap.size + 1) 54 ((Com.mk c0 c1 c2 c3 c4 c5 n c7 c8 c9 c10)).cells := by rw [hq]; exact (Blk.newAt (g := w.heap.size + 1) (w.alloc _) 54 _ (by simp)).alloc _
  have hR : Blk wa (w.heap.size + 2) 51 hart0.cells := by rw [hq]; exact Blk.newAt ((w.alloc _).alloc _) 51 _ (by simp)
  have hbl : Below w.heap.size w wa := by rw [hq]; exact (((Below.refl _ _).alloc (Nat.le_refl _) _).alloc (by simp) _).alloc (by simp; omega) _
  clear hq
  have q1 : wa.cell? ⟨w.heap.size + 1, 1, none⟩ = some (.int .u32 c1) := hC.cell 1
  have f32 := hH.frozen 32
  have q32 := (hH.cell 32).trans (Hart.cells_pc hh.len).1
  go_upto_region 2 with (fail)
  try go_simp
  replace hC := hC.farAt (b := w.heap.size) (off := 32) (by omega) (.int .u32 c1)
  replace hR := hR.farAt (b := w.heap.size) (off := 32) (by omega) (.int .u32 c1)
  replace hbl := below_set (b := w.heap.size) (off := 32) (u := .int .u32 c1) (Nat.le_refl _) hbl
  replace hH := hH.set 32 (.int .u32 c1)
  rw [set32 hh.len] at hH
  clear q1 f32 q32
  refine wp_gen fun wb hq => ?_
  rw [← hq] at hH hC hR hbl
  clear hq wa
  have q1 : wb.cell? ⟨w.heap.size + 1, 2, none⟩ = some (.int .i64 c2) := hC.cell 2
  have f32 := hH.frozen 33
  have q32 := (hH.cell 33).trans (Hart.cells_pc (h := ⟨h.regs, c1, h.state, h.cause⟩) hh.len).2.1
  go_upto_region 3 with (fail)
  try go_simp
  replace hC := hC.farAt (b := w.heap.size) (off := 33) (by omega) (.int .i64 c2)
  replace hR := hR.farAt (b := w.heap.size) (off := 33) (by omega) (.int .i64 c2)
  replace hbl := below_set (b := w.heap.size) (off := 33) (u := .int .i64 c2) (Nat.le_refl _) hbl
  replace hH := hH.set 33 (.int .i64 c2)
  rw [set33 (h := ⟨h.regs, c1, h.state, h.cause⟩) hh.len] at hH
  clear q1 f32 q32
  refine wp_gen fun wc hq => ?_
  rw [← hq] at hH hC hR hbl
  clear hq wb
  have q1 : wc.cell? ⟨w.heap.size + 1, 3, none⟩ = some (.int .i64 c3) := hC.cell 3
  have f32 := hH.frozen 34
  have q32 := (hH.cell 34).trans (Hart.cells_pc (h := ⟨h.regs, c1, c2, h.cause⟩) hh.len).2.2
  go_upto_region 4 with (fail)
  try go_simp
  replace hC := hC.farAt (b := w.heap.size) (off := 34) (by omega) (.int .i64 c3)
  replace hR := hR.farAt (b := w.heap.size) (off := 34) (by omega) (.int .i64 c3)
  replace hbl := below_set (b := w.heap.size) (off := 34) (u := .int .i64 c3) (Nat.le_refl _) hbl
  replace hH := hH.set 34 (.int .i64 c3)
  rw [set34 (h := ⟨h.regs, c1, c2, h.cause⟩) hh.len] at hH
  clear q1 f32 q32
  refine wp_gen fun wd hq => ?_
  rw [← hq] at hH hC hR hbl
  clear hq wc
  have q4 : wd.cell? ⟨w.heap.size + 1, 4, none⟩ = some (.int .i64 c4) := hC.cell 4
  go_upto_region 6 with (fail)
  try go_simp
  clear q4 t4
  have hR0 := hR
  have hAa := (hA.below hbl).mono hbl.size
  have Hc := Lib.hid hAa.cells
  have hown0 := World.ownsRow_lit (base := wd.heap.size) (e := 5) (size := 1) wd #[] 0 (Nat.le_refl _) (by unfold maxLen; omega) rfl
  go_upto_region 7 with (at_builtin; refine wpList_append_any rfl (.tmp 34) (.tmp 35) 32 rfl wd.heap.size 5 i0 _ 1 1 Try.underlying32 hi hz0 hz1 hz2 rfl (by decide) _ 0 [] rfl hown0 A m.length cap (m.map (.int .u8)) rfl (by simp) (fun hn => by obtain ⟨e1, e2⟩ := hnil hn; exact ⟨by rw [e1]; rfl, e2⟩) (fun ad hd j u hu => (World.cell?_alloc_lt _ _ _ (World.block_lt_of_cell? _ _ (Hc.out ad hd j u hu))).trans (Hc.out ad hd j u hu)) (ints_oneCell _ _) (by unfold maxLen; omega) (by omega) (by simp) ?_; intro v1 w1 hown1 hg1)
  try go_simp
  replace hown1 : w1.ownsRow wd.heap.size 5 1 v1 m.length (m.map (.int .u8)) := by simpa using hown1
  have hb1 : Below wd.heap.size wd w1 := ((Below.refl _ _).alloc (Nat.le_refl _) _).grown hg1 (by simp) (fun k hk => by cases hk; exact Nat.le_refl _)
  replace hC := hC.ext hb1
  replace hH := hH.ext hb1
  replace hR := hR.ext hb1
  have hbs := hbl.size
  have hRl : w.heap.size + 2 < wd.heap.size := by have := hb1.size; exact Nat.lt_of_lt_of_le hR0.lt (Nat.le_refl _)
  replace hbl := hbl.trans (hb1.mono hbl.size)
  clear hown0 hg1 hb1 Hc hAa
  obtain ⟨A2, cap2, rfl⟩ := own_value hown1
  have e6 : w1.cell? ⟨w.heap.size + 1, 6, none⟩ = some (.int .u32 (n : Int)) := hC.cell 6
  have e7 : w1.cell? ⟨w.heap.size + 1, 7, none⟩ = some (.int .i64 1) := (hC.cell 7).trans (by rw [← Hmany.out]; rfl)
  have e8 : w1.cell? ⟨w.heap.size + 1, 8, none⟩ = some (.int .u32 c8) := hC.cell 8
  have ehx : (Hart.mk h.regs c1 c2 c3) = xh := by rw [Hxh.out]; unfold applyH; dsimp only; rw [if_neg (by rw [Hrd.out]; omega)]
  have hxl : (Hart.mk h.regs c1 c2 c3).regs.length = 32 := by simpa using hh.len
  rw [ehx] at hH hxl
  clear ehx
  obtain ⟨g, c1', hv, hgb, hgl⟩ := hown1.form (by omega)
  injection hv with hv1 hv2 hv3
  subst hv1 hv3
  have hc := fun j (hj : j < m.length) => (hown1.cellAt j (by omega)).trans (show (m.map (Value.int .u8))[j]? = some (.int .u8 (m.getD j 0)) by simp [List.getD, hj])
  have hfz := hown1.frozenAt
  have k0 := hc n (by omega)
  generalize m.getD n 0 = x0 at k0
  clear hc
  have Hown := Lib.hid hown1
  clear hown1
  have hH0 := hH
  have hR0' := hR
  have hH1 := hH0.farAt (b := g) (off := n) (by omega) (.int .u8 (c8 % 256))
  have hR1' := hR0'.farAt (b := g) (off := n) (by omega) (.int .u8 (c8 % 256))
  go_wp2
  refine wp_loop_rounds 2 ?_
  rw [rounds_succ]
  go_wp2
  rw [rounds_succ]
  go_upto_region 13 with (fail)
  try go_simp
  go_wp2_with (first
    | (refine wpList_load_all rfl 51 _ rfl w.heap.size rfl 51 _ _ hH1 Try.underlying51 rfl (hart_info (h := xh) hxl) ?_)
    | (refine wpList_store_all rfl 51 _ _ rfl (w.heap.size + 2) xh.cells rfl rfl 51 _ hR1' (hart_info (h := xh) hxl) (by rw [Hart.cells_size (h := xh) hxl]; rfl) (hart_one xh) ?_; intro w7 hB7 hg7))
  have s1 := Hown.out.stored n (.int .u8 (c8 % 256))
  have exm : put1 m n c8 = xm := by rw [Hxm.out]; unfold applyM putN; dsimp only; rw [Hmany.out]; rfl
  have exl : (put1 m n c8).length = m.length := by simp [put4, put2, put1]
  rw [← exm]
  have how := s1.1.grownFar hg7 (by omega)
  have hb7 := below_grown (below_set (b := g) (off := n) (u := .int .u8 (c8 % 256)) (by omega) (hbl)) hg7 (by simpa using hbl.size) (by omega)
  refine bodyPost_ret (results_ct (x := .slice (some ⟨g, 0, none⟩) m.length cap2) rfl rfl rfl (hart_load (h := xh) hxl hB7)) rfl ⟨some ⟨g, 0, none⟩, cap2, by rw [exl], hb7, ?_⟩
  rw [exl]
  have how2 := own_mono how hbs
  simpa [put1, List.map_set] using how2
end Go.Proofs.Ytapgojgcmlnbgab

/- humpyardkeep.replay. Printed by gen_rep.py. -/
namespace Go.Proofs.Ytapgojgcmlnbgab
open Go.RowKit

set_option maxHeartbeats 2000000 in
set_option maxRecDepth 100000 in
theorem replay_z_2 (h : Hart) (c0 c1 c2 c3 c4 c5  c7 c8 : Int) (c9 : Bool) (c10 : Int)  (n : Nat) (A : Option Addr) (cap : Nat) (m : List Int) (w : World) (hh : h.Wf) (d0 : 0 ≤ c8) (d1 : c8 ≤ 4294967295) (n1 : (n : Int) ≤ 4294967295) (hin : n + 2 ≤ m.length) (hl : m.length ≤ 140737488351232) (hA : IntsAt w w.heap.size .u8 A m) (hnil : A = none → m = [] ∧ cap = 0) (hrd : c4 = 0) (hmany : c7 = 2) :
    Calls Try.prog 38 #[.agg h.cells, .slice A m.length cap, .agg (Com.mk c0 c1 c2 c3 c4 c5 n c7 c8 c9 c10).cells] w (RepPost w (applyH (Com.mk c0 c1 c2 c3 c4 c5 n c7 c8 c9 c10) h) (applyM (Com.mk c0 c1 c2 c3 c4 c5 n c7 c8 c9 c10) m)) := by
  have t4 : decide ((0 : Int) < c4) = false := decide_eq_false (by omega)
  have Hrd := Lib.hid hrd
  clear hrd
  have Hmany := Lib.hid hmany
  clear hmany
  obtain ⟨xh, hxh⟩ : ∃ x, x = applyH (Com.mk c0 c1 c2 c3 c4 c5 n c7 c8 c9 c10) h := ⟨_, rfl⟩
  obtain ⟨xm, hxm⟩ : ∃ x, x = applyM (Com.mk c0 c1 c2 c3 c4 c5 n c7 c8 c9 c10) m := ⟨_, rfl⟩
  rw [← hxh, ← hxm]
  have Hxh := Lib.hid hxh
  have Hxm := Lib.hid hxm
  clear hxh hxm
  obtain ⟨i0, hi, hz0, hz1, hz2⟩ := info_parts refStore_info
  go_enter Try.func38, Try.ntmps38
  go_upto_region 1 with (fail)
  go_simp
  refine wp_gen fun wa hq => ?_
  have hH : Blk wa w.heap.size 51 h.cells := by rw [hq]; exact ((Blk.new w _ _).alloc _).alloc _
  have hC : Blk wa (w.heap.size + 1) 54 ((Com.mk c0 c1 c2 c3 c4 c5 n c7 c8 c9 c10)).cells := by rw [hq]; exact (Blk.newAt (g := w.heap.size + 1) (w.alloc _) 54 _ (by simp)).alloc _
  have hR : Blk wa (w.heap.size + 2) 51 hart0.cells := by rw [hq]; exact Blk.newAt ((w.alloc _).alloc _) 51 _ (by simp)
  have hbl : Below w.heap.size w wa := by rw [hq]; exact (((Below.refl _ _).alloc (Nat.le_refl _) _).alloc (by simp) _).alloc (by simp; omega) _
  clear hq
  have q1 : wa.cell? ⟨w.heap.size + 1, 1, none⟩ = some (.int .u32 c1) := hC.cell 1
  have f32 := hH.frozen 32
  have q32 := (hH.cell 32).trans (Hart.cells_pc hh.len).1
  go_upto_region 2 with (fail)
  try go_simp
  replace hC := hC.farAt (b := w.heap.size) (off := 32) (by omega) (.int .u32 c1)
  replace hR := hR.farAt (b := w.heap.size) (off := 32) (by omega) (.int .u32 c1)
  replace hbl := below_set (b := w.heap.size) (off := 32) (u := .int .u32 c1) (Nat.le_refl _) hbl
  replace hH := hH.set 32 (.int .u32 c1)
  rw [set32 hh.len] at hH
  clear q1 f32 q32
  refine wp_gen fun wb hq => ?_
  rw [← hq] at hH hC hR hbl
  clear hq wa
  have q1 : wb.cell? ⟨w.heap.size + 1, 2, none⟩ = some (.int .i64 c2) := hC.cell 2
  have f32 := hH.frozen 33
  have q32 := (hH.cell 33).trans (Hart.cells_pc (h := ⟨h.regs, c1, h.state, h.cause⟩) hh.len).2.1
  go_upto_region 3 with (fail)
  try go_simp
  replace hC := hC.farAt (b := w.heap.size) (off := 33) (by omega) (.int .i64 c2)
  replace hR := hR.farAt (b := w.heap.size) (off := 33) (by omega) (.int .i64 c2)
  replace hbl := below_set (b := w.heap.size) (off := 33) (u := .int .i64 c2) (Nat.le_refl _) hbl
  replace hH := hH.set 33 (.int .i64 c2)
  rw [set33 (h := ⟨h.regs, c1, h.state, h.cause⟩) hh.len] at hH
  clear q1 f32 q32
  refine wp_gen fun wc hq => ?_
  rw [← hq] at hH hC hR hbl
  clear hq wb
  have q1 : wc.cell? ⟨w.heap.size + 1, 3, none⟩ = some (.int .i64 c3) := hC.cell 3
  have f32 := hH.frozen 34
  have q32 := (hH.cell 34).trans (Hart.cells_pc (h := ⟨h.regs, c1, c2, h.cause⟩) hh.len).2.2
  go_upto_region 4 with (fail)
  try go_simp
  replace hC := hC.farAt (b := w.heap.size) (off := 34) (by omega) (.int .i64 c3)
  replace hR := hR.farAt (b := w.heap.size) (off := 34) (by omega) (.int .i64 c3)
  replace hbl := below_set (b := w.heap.size) (off := 34) (u := .int .i64 c3) (Nat.le_refl _) hbl
  replace hH := hH.set 34 (.int .i64 c3)
  rw [set34 (h := ⟨h.regs, c1, c2, h.cause⟩) hh.len] at hH
  clear q1 f32 q32
  refine wp_gen fun wd hq => ?_
  rw [← hq] at hH hC hR hbl
  clear hq wc
  have q4 : wd.cell? ⟨w.heap.size + 1, 4, none⟩ = some (.int .i64 c4) := hC.cell 4
  go_upto_region 6 with (fail)
  try go_simp
  clear q4 t4
  have hR0 := hR
  have hAa := (hA.below hbl).mono hbl.size
  have Hc := Lib.hid hAa.cells
  have hown0 := World.ownsRow_lit (base := wd.heap.size) (e := 5) (size := 1) wd #[] 0 (Nat.le_refl _) (by unfold maxLen; omega) rfl
  go_upto_region 7 with (at_builtin; refine wpList_append_any rfl (.tmp 34) (.tmp 35) 32 rfl wd.heap.size 5 i0 _ 1 1 Try.underlying32 hi hz0 hz1 hz2 rfl (by decide) _ 0 [] rfl hown0 A m.length cap (m.map (.int .u8)) rfl (by simp) (fun hn => by obtain ⟨e1, e2⟩ := hnil hn; exact ⟨by rw [e1]; rfl, e2⟩) (fun ad hd j u hu => (World.cell?_alloc_lt _ _ _ (World.block_lt_of_cell? _ _ (Hc.out ad hd j u hu))).trans (Hc.out ad hd j u hu)) (ints_oneCell _ _) (by unfold maxLen; omega) (by omega) (by simp) ?_; intro v1 w1 hown1 hg1)
  try go_simp
  replace hown1 : w1.ownsRow wd.heap.size 5 1 v1 m.length (m.map (.int .u8)) := by simpa using hown1
  have hb1 : Below wd.heap.size wd w1 := ((Below.refl _ _).alloc (Nat.le_refl _) _).grown hg1 (by simp) (fun k hk => by cases hk; exact Nat.le_refl _)
  replace hC := hC.ext hb1
  replace hH := hH.ext hb1
  replace hR := hR.ext hb1
  have hbs := hbl.size
  have hRl : w.heap.size + 2 < wd.heap.size := by have := hb1.size; exact Nat.lt_of_lt_of_le hR0.lt (Nat.le_refl _)
  replace hbl := hbl.trans (hb1.mono hbl.size)
  clear hown0 hg1 hb1 Hc hAa
  obtain ⟨A2, cap2, rfl⟩ := own_value hown1
  have e6 : w1.cell? ⟨w.heap.size + 1, 6, none⟩ = some (.int .u32 (n : Int)) := hC.cell 6
  have e7 : w1.cell? ⟨w.heap.size + 1, 7, none⟩ = some (.int .i64 2) := (hC.cell 7).trans (by rw [← Hmany.out]; rfl)
  have e8 : w1.cell? ⟨w.heap.size + 1, 8, none⟩ = some (.int .u32 c8) := hC.cell 8
  have ehx : (Hart.mk h.regs c1 c2 c3) = xh := by rw [Hxh.out]; unfold applyH; dsimp only; rw [if_neg (by rw [Hrd.out]; omega)]
  have hxl : (Hart.mk h.regs c1 c2 c3).regs.length = 32 := by simpa using hh.len
  rw [ehx] at hH hxl
  clear ehx
  obtain ⟨g, c1', hv, hgb, hgl⟩ := hown1.form (by omega)
  injection hv with hv1 hv2 hv3
  subst hv1 hv3
  have hc := fun j (hj : j < m.length) => (hown1.cellAt j (by omega)).trans (show (m.map (Value.int .u8))[j]? = some (.int .u8 (m.getD j 0)) by simp [List.getD, hj])
  have hfz := hown1.frozenAt
  have k0 := hc n (by omega)
  have k1 := hc (n + 1) (by omega)
  generalize m.getD n 0 = x0 at k0
  generalize m.getD (n + 1) 0 = x1 at k1
  clear hc
  have Hown := Lib.hid hown1
  clear hown1
  have hH0 := hH
  have hR0' := hR
  have hH1 := hH0.farAt (b := g) (off := n) (by omega) (.int .u8 (c8 % 256))
  have hR1' := hR0'.farAt (b := g) (off := n) (by omega) (.int .u8 (c8 % 256))
  have hH2 := hH1.farAt (b := g) (off := (n + 1)) (by omega) (.int .u8 (c8 / 256 % 256))
  have hR2' := hR1'.farAt (b := g) (off := (n + 1)) (by omega) (.int .u8 (c8 / 256 % 256))
  go_wp2
  refine wp_loop_rounds 3 ?_
  rw [rounds_succ]
  go_wp2
  rw [rounds_succ]
  go_wp2
  rw [rounds_succ]
  go_upto_region 13 with (fail)
  try go_simp
  go_wp2_with (first
    | (refine wpList_load_all rfl 51 _ rfl w.heap.size rfl 51 _ _ hH2 Try.underlying51 rfl (hart_info (h := xh) hxl) ?_)
    | (refine wpList_store_all rfl 51 _ _ rfl (w.heap.size + 2) xh.cells rfl rfl 51 _ hR2' (hart_info (h := xh) hxl) (by rw [Hart.cells_size (h := xh) hxl]; rfl) (hart_one xh) ?_; intro w7 hB7 hg7))
  have s1 := Hown.out.stored n (.int .u8 (c8 % 256))
  have s2 := s1.1.stored (n + 1) (.int .u8 (c8 / 256 % 256))
  have exm : put2 m n c8 = xm := by rw [Hxm.out]; unfold applyM putN; dsimp only; rw [Hmany.out]; rfl
  have exl : (put2 m n c8).length = m.length := by simp [put4, put2, put1]
  rw [← exm]
  have how := s2.1.grownFar hg7 (by omega)
  have hb7 := below_grown (below_set (b := g) (off := n + 1) (u := .int .u8 (c8 / 256 % 256)) (by omega) (below_set (b := g) (off := n) (u := .int .u8 (c8 % 256)) (by omega) (hbl))) hg7 (by simpa using hbl.size) (by omega)
  refine bodyPost_ret (results_ct (x := .slice (some ⟨g, 0, none⟩) m.length cap2) rfl rfl rfl (hart_load (h := xh) hxl hB7)) rfl ⟨some ⟨g, 0, none⟩, cap2, by rw [exl], hb7, ?_⟩
  rw [exl]
  have how2 := own_mono how hbs
  simpa [put2, put1, List.map_set] using how2
end Go.Proofs.Ytapgojgcmlnbgab

/- humpyardkeep.replay. Printed by gen_rep.py. -/
namespace Go.Proofs.Ytapgojgcmlnbgab
open Go.RowKit

set_option maxHeartbeats 2000000 in
set_option maxRecDepth 100000 in
theorem replay_z_4 (h : Hart) (c0 c1 c2 c3 c4 c5  c7 c8 : Int) (c9 : Bool) (c10 : Int)  (n : Nat) (A : Option Addr) (cap : Nat) (m : List Int) (w : World) (hh : h.Wf) (d0 : 0 ≤ c8) (d1 : c8 ≤ 4294967295) (n1 : (n : Int) ≤ 4294967295) (hin : n + 4 ≤ m.length) (hl : m.length ≤ 140737488351232) (hA : IntsAt w w.heap.size .u8 A m) (hnil : A = none → m = [] ∧ cap = 0) (hrd : c4 = 0) (hmany : c7 = 4) :
    Calls Try.prog 38 #[.agg h.cells, .slice A m.length cap, .agg (Com.mk c0 c1 c2 c3 c4 c5 n c7 c8 c9 c10).cells] w (RepPost w (applyH (Com.mk c0 c1 c2 c3 c4 c5 n c7 c8 c9 c10) h) (applyM (Com.mk c0 c1 c2 c3 c4 c5 n c7 c8 c9 c10) m)) := by
  have t4 : decide ((0 : Int) < c4) = false := decide_eq_false (by omega)
  have Hrd := Lib.hid hrd
  clear hrd
  have Hmany := Lib.hid hmany
  clear hmany
  obtain ⟨xh, hxh⟩ : ∃ x, x = applyH (Com.mk c0 c1 c2 c3 c4 c5 n c7 c8 c9 c10) h := ⟨_, rfl⟩
  obtain ⟨xm, hxm⟩ : ∃ x, x = applyM (Com.mk c0 c1 c2 c3 c4 c5 n c7 c8 c9 c10) m := ⟨_, rfl⟩
  rw [← hxh, ← hxm]
  have Hxh := Lib.hid hxh
  have Hxm := Lib.hid hxm
  clear hxh hxm
  obtain ⟨i0, hi, hz0, hz1, hz2⟩ := info_parts refStore_info
  go_enter Try.func38, Try.ntmps38
  go_upto_region 1 with (fail)
  go_simp
  refine wp_gen fun wa hq => ?_
  have hH : Blk wa w.heap.size 51 h.cells := by rw [hq]; exact ((Blk.new w _ _).alloc _).alloc _
  have hC : Blk wa (w.heap.size + 1) 54 ((Com.mk c0 c1 c2 c3 c4 c5 n c7 c8 c9 c10)).cells := by rw [hq]; exact (Blk.newAt (g := w.heap.size + 1) (w.alloc _) 54 _ (by simp)).alloc _
  have hR : Blk wa (w.heap.size + 2) 51 hart0.cells := by rw [hq]; exact Blk.newAt ((w.alloc _).alloc _) 51 _ (by simp)
  have hbl : Below w.heap.size w wa := by rw [hq]; exact (((Below.refl _ _).alloc (Nat.le_refl _) _).alloc (by simp) _).alloc (by simp; omega) _
  clear hq
  have q1 : wa.cell? ⟨w.heap.size + 1, 1, none⟩ = some (.int .u32 c1) := hC.cell 1
  have f32 := hH.frozen 32
  have q32 := (hH.cell 32).trans (Hart.cells_pc hh.len).1
  go_upto_region 2 with (fail)
  try go_simp
  replace hC := hC.farAt (b := w.heap.size) (off := 32) (by omega) (.int .u32 c1)
  replace hR := hR.farAt (b := w.heap.size) (off := 32) (by omega) (.int .u32 c1)
  replace hbl := below_set (b := w.heap.size) (off := 32) (u := .int .u32 c1) (Nat.le_refl _) hbl
  replace hH := hH.set 32 (.int .u32 c1)
  rw [set32 hh.len] at hH
  clear q1 f32 q32
  refine wp_gen fun wb hq => ?_
  rw [← hq] at hH hC hR hbl
  clear hq wa
  have q1 : wb.cell? ⟨w.heap.size + 1, 2, none⟩ = some (.int .i64 c2) := hC.cell 2
  have f32 := hH.frozen 33
  have q32 := (hH.cell 33).trans (Hart.cells_pc (h := ⟨h.regs, c1, h.state, h.cause⟩) hh.len).2.1
  go_upto_region 3 with (fail)
  try go_simp
  replace hC := hC.farAt (b := w.heap.size) (off := 33) (by omega) (.int .i64 c2)
  replace hR := hR.farAt (b := w.heap.size) (off := 33) (by omega) (.int .i64 c2)
  replace hbl := below_set (b := w.heap.size) (off := 33) (u := .int .i64 c2) (Nat.le_refl _) hbl
  replace hH := hH.set 33 (.int .i64 c2)
  rw [set33 (h := ⟨h.regs, c1, h.state, h.cause⟩) hh.len] at hH
  clear q1 f32 q32
  refine wp_gen fun wc hq => ?_
  rw [← hq] at hH hC hR hbl
  clear hq wb
  have q1 : wc.cell? ⟨w.heap.size + 1, 3, none⟩ = some (.int .i64 c3) := hC.cell 3
  have f32 := hH.frozen 34
  have q32 := (hH.cell 34).trans (Hart.cells_pc (h := ⟨h.regs, c1, c2, h.cause⟩) hh.len).2.2
  go_upto_region 4 with (fail)
  try go_simp
  replace hC := hC.farAt (b := w.heap.size) (off := 34) (by omega) (.int .i64 c3)
  replace hR := hR.farAt (b := w.heap.size) (off := 34) (by omega) (.int .i64 c3)
  replace hbl := below_set (b := w.heap.size) (off := 34) (u := .int .i64 c3) (Nat.le_refl _) hbl
  replace hH := hH.set 34 (.int .i64 c3)
  rw [set34 (h := ⟨h.regs, c1, c2, h.cause⟩) hh.len] at hH
  clear q1 f32 q32
  refine wp_gen fun wd hq => ?_
  rw [← hq] at hH hC hR hbl
  clear hq wc
  have q4 : wd.cell? ⟨w.heap.size + 1, 4, none⟩ = some (.int .i64 c4) := hC.cell 4
  go_upto_region 6 with (fail)
  try go_simp
  clear q4 t4
  have hR0 := hR
  have hAa := (hA.below hbl).mono hbl.size
  have Hc := Lib.hid hAa.cells
  have hown0 := World.ownsRow_lit (base := wd.heap.size) (e := 5) (size := 1) wd #[] 0 (Nat.le_refl _) (by unfold maxLen; omega) rfl
  go_upto_region 7 with (at_builtin; refine wpList_append_any rfl (.tmp 34) (.tmp 35) 32 rfl wd.heap.size 5 i0 _ 1 1 Try.underlying32 hi hz0 hz1 hz2 rfl (by decide) _ 0 [] rfl hown0 A m.length cap (m.map (.int .u8)) rfl (by simp) (fun hn => by obtain ⟨e1, e2⟩ := hnil hn; exact ⟨by rw [e1]; rfl, e2⟩) (fun ad hd j u hu => (World.cell?_alloc_lt _ _ _ (World.block_lt_of_cell? _ _ (Hc.out ad hd j u hu))).trans (Hc.out ad hd j u hu)) (ints_oneCell _ _) (by unfold maxLen; omega) (by omega) (by simp) ?_; intro v1 w1 hown1 hg1)
  try go_simp
  replace hown1 : w1.ownsRow wd.heap.size 5 1 v1 m.length (m.map (.int .u8)) := by simpa using hown1
  have hb1 : Below wd.heap.size wd w1 := ((Below.refl _ _).alloc (Nat.le_refl _) _).grown hg1 (by simp) (fun k hk => by cases hk; exact Nat.le_refl _)
  replace hC := hC.ext hb1
  replace hH := hH.ext hb1
  replace hR := hR.ext hb1
  have hbs := hbl.size
  have hRl : w.heap.size + 2 < wd.heap.size := by have := hb1.size; exact Nat.lt_of_lt_of_le hR0.lt (Nat.le_refl _)
  replace hbl := hbl.trans (hb1.mono hbl.size)
  clear hown0 hg1 hb1 Hc hAa
  obtain ⟨A2, cap2, rfl⟩ := own_value hown1
  have e6 : w1.cell? ⟨w.heap.size + 1, 6, none⟩ = some (.int .u32 (n : Int)) := hC.cell 6
  have e7 : w1.cell? ⟨w.heap.size + 1, 7, none⟩ = some (.int .i64 4) := (hC.cell 7).trans (by rw [← Hmany.out]; rfl)
  have e8 : w1.cell? ⟨w.heap.size + 1, 8, none⟩ = some (.int .u32 c8) := hC.cell 8
  have ehx : (Hart.mk h.regs c1 c2 c3) = xh := by rw [Hxh.out]; unfold applyH; dsimp only; rw [if_neg (by rw [Hrd.out]; omega)]
  have hxl : (Hart.mk h.regs c1 c2 c3).regs.length = 32 := by simpa using hh.len
  rw [ehx] at hH hxl
  clear ehx
  obtain ⟨g, c1', hv, hgb, hgl⟩ := hown1.form (by omega)
  injection hv with hv1 hv2 hv3
  subst hv1 hv3
  have hc := fun j (hj : j < m.length) => (hown1.cellAt j (by omega)).trans (show (m.map (Value.int .u8))[j]? = some (.int .u8 (m.getD j 0)) by simp [List.getD, hj])
  have hfz := hown1.frozenAt
  have k0 := hc n (by omega)
  have k1 := hc (n + 1) (by omega)
  have k2 := hc (n + 2) (by omega)
  have k3 := hc (n + 3) (by omega)
  generalize m.getD n 0 = x0 at k0
  generalize m.getD (n + 1) 0 = x1 at k1
  generalize m.getD (n + 2) 0 = x2 at k2
  generalize m.getD (n + 3) 0 = x3 at k3
  clear hc
  have Hown := Lib.hid hown1
  clear hown1
  have hH0 := hH
  have hR0' := hR
  have hH1 := hH0.farAt (b := g) (off := n) (by omega) (.int .u8 (c8 % 256))
  have hR1' := hR0'.farAt (b := g) (off := n) (by omega) (.int .u8 (c8 % 256))
  have hH2 := hH1.farAt (b := g) (off := (n + 1)) (by omega) (.int .u8 (c8 / 256 % 256))
  have hR2' := hR1'.farAt (b := g) (off := (n + 1)) (by omega) (.int .u8 (c8 / 256 % 256))
  have hH3 := hH2.farAt (b := g) (off := (n + 2)) (by omega) (.int .u8 (c8 / 256 / 256 % 256))
  have hR3' := hR2'.farAt (b := g) (off := (n + 2)) (by omega) (.int .u8 (c8 / 256 / 256 % 256))
  have hH4 := hH3.farAt (b := g) (off := (n + 3)) (by omega) (.int .u8 (c8 / 256 / 256 / 256 % 256))
  have hR4' := hR3'.farAt (b := g) (off := (n + 3)) (by omega) (.int .u8 (c8 / 256 / 256 / 256 % 256))
  go_wp2
  refine wp_loop_rounds 5 ?_
  rw [rounds_succ]
  go_wp2
  rw [rounds_succ]
  go_wp2
  rw [rounds_succ]
  go_wp2
  rw [rounds_succ]
  go_wp2
  rw [rounds_succ]
  go_upto_region 13 with (fail)
  try go_simp
  go_wp2_with (first
    | (refine wpList_load_all rfl 51 _ rfl w.heap.size rfl 51 _ _ hH4 Try.underlying51 rfl (hart_info (h := xh) hxl) ?_)
    | (refine wpList_store_all rfl 51 _ _ rfl (w.heap.size + 2) xh.cells rfl rfl 51 _ hR4' (hart_info (h := xh) hxl) (by rw [Hart.cells_size (h := xh) hxl]; rfl) (hart_one xh) ?_; intro w7 hB7 hg7))
  have s1 := Hown.out.stored n (.int .u8 (c8 % 256))
  have s2 := s1.1.stored (n + 1) (.int .u8 (c8 / 256 % 256))
  have s3 := s2.1.stored (n + 2) (.int .u8 (c8 / 256 / 256 % 256))
  have s4 := s3.1.stored (n + 3) (.int .u8 (c8 / 256 / 256 / 256 % 256))
  have exm : put4 m n c8 = xm := by rw [Hxm.out]; unfold applyM putN; dsimp only; rw [Hmany.out]; rfl
  have exl : (put4 m n c8).length = m.length := by simp [put4, put2, put1]
  rw [← exm]
  have how := s4.1.grownFar hg7 (by omega)
  have hb7 := below_grown (below_set (b := g) (off := n + 3) (u := .int .u8 (c8 / 256 / 256 / 256 % 256)) (by omega) (below_set (b := g) (off := n + 2) (u := .int .u8 (c8 / 256 / 256 % 256)) (by omega) (below_set (b := g) (off := n + 1) (u := .int .u8 (c8 / 256 % 256)) (by omega) (below_set (b := g) (off := n) (u := .int .u8 (c8 % 256)) (by omega) (hbl))))) hg7 (by simpa using hbl.size) (by omega)
  refine bodyPost_ret (results_ct (x := .slice (some ⟨g, 0, none⟩) m.length cap2) rfl rfl rfl (hart_load (h := xh) hxl hB7)) rfl ⟨some ⟨g, 0, none⟩, cap2, by rw [exl], hb7, ?_⟩
  rw [exl]
  have how2 := own_mono how hbs
  unfold put4
  rw [show c8 / 65536 % 256 = c8 / 256 / 256 % 256 by omega, show c8 / 16777216 % 256 = c8 / 256 / 256 / 256 % 256 by omega]
  simpa [put2, put1, List.map_set] using how2
end Go.Proofs.Ytapgojgcmlnbgab

/- humpyardkeep.replay. Printed by gen_rep.py. -/
namespace Go.Proofs.Ytapgojgcmlnbgab
open Go.RowKit

set_option maxHeartbeats 2000000 in
set_option maxRecDepth 100000 in
theorem replay_r_0 (h : Hart) (c0 c1 c2 c3  c5 c6 c7 c8 : Int) (c9 : Bool) (c10 : Int) (r : Nat)  (A : Option Addr) (cap : Nat) (m : List Int) (w : World) (hh : h.Wf) (d0 : 0 ≤ c8) (d1 : c8 ≤ 4294967295)  (hl : m.length ≤ 140737488351232) (hA : IntsAt w w.heap.size .u8 A m) (hnil : A = none → m = [] ∧ cap = 0) (hr0 : 0 < r) (hr1 : r ≤ 31) (hmany : c7 = 0) :
    Calls Try.prog 38 #[.agg h.cells, .slice A m.length cap, .agg (Com.mk c0 c1 c2 c3 (r : Int) c5 c6 c7 c8 c9 c10).cells] w (RepPost w (applyH (Com.mk c0 c1 c2 c3 (r : Int) c5 c6 c7 c8 c9 c10) h) (applyM (Com.mk c0 c1 c2 c3 (r : Int) c5 c6 c7 c8 c9 c10) m)) := by
  have t4 : decide ((0 : Int) < (r : Int)) = true := decide_eq_true (by omega)
  have t5 : decide ((r : Int) < 32) = true := decide_eq_true (by omega)
  have Hmany := Lib.hid hmany
  clear hmany
  obtain ⟨xh, hxh⟩ : ∃ x, x = applyH (Com.mk c0 c1 c2 c3 (r : Int) c5 c6 c7 c8 c9 c10) h := ⟨_, rfl⟩
  obtain ⟨xm, hxm⟩ : ∃ x, x = applyM (Com.mk c0 c1 c2 c3 (r : Int) c5 c6 c7 c8 c9 c10) m := ⟨_, rfl⟩
  rw [← hxh, ← hxm]
  have Hxh := Lib.hid hxh
  have Hxm := Lib.hid hxm
  clear hxh hxm
  obtain ⟨i0, hi, hz0, hz1, hz2⟩ := info_parts refStore_info
  go_enter Try.func38, Try.ntmps38
  go_upto_region 1 with (fail)
  go_simp
  refine wp_gen fun wa hq => ?_
  have hH : Blk wa w.heap.size 51 h.cells := by rw [hq]; exact ((Blk.new w _ _).alloc _).alloc _
  have hC : Blk wa (w.heap.size + 1) 54 ((Com.mk c0 c1 c2 c3 (r : Int) c5 c6 c7 c8 c9 c10)).cells := by rw [hq]; exact (Blk.newAt (g := w.heap.size + 1) (w.alloc _) 54 _ (by simp)).alloc _
  have hR : Blk wa (w.heap.size + 2) 51 hart0.cells := by rw [hq]; exact Blk.newAt ((w.alloc _).alloc _) 51 _ (by simp)
  have hbl : Below w.heap.size w wa := by rw [hq]; exact (((Below.refl _ _).alloc (Nat.le_refl _) _).alloc (by simp) _).alloc (by simp; omega) _
  clear hq
  have q1 : wa.cell? ⟨w.heap.size + 1, 1, none⟩ = some (.int .u32 c1) := hC.cell 1
  have f32 := hH.frozen 32
  have q32 := (hH.cell 32).trans (Hart.cells_pc hh.len).1
  go_upto_region 2 with (fail)
  try go_simp
  replace hC := hC.farAt (b := w.heap.size) (off := 32) (by omega) (.int .u32 c1)
  replace hR := hR.farAt (b := w.heap.size) (off := 32) (by omega) (.int .u32 c1)
  replace hbl := below_set (b := w.heap.size) (off := 32) (u := .int .u32 c1) (Nat.le_refl _) hbl
  replace hH := hH.set 32 (.int .u32 c1)
  rw [set32 hh.len] at hH
  clear q1 f32 q32
  refine wp_gen fun wb hq => ?_
  rw [← hq] at hH hC hR hbl
  clear hq wa
  have q1 : wb.cell? ⟨w.heap.size + 1, 2, none⟩ = some (.int .i64 c2) := hC.cell 2
  have f32 := hH.frozen 33
  have q32 := (hH.cell 33).trans (Hart.cells_pc (h := ⟨h.regs, c1, h.state, h.cause⟩) hh.len).2.1
  go_upto_region 3 with (fail)
  try go_simp
  replace hC := hC.farAt (b := w.heap.size) (off := 33) (by omega) (.int .i64 c2)
  replace hR := hR.farAt (b := w.heap.size) (off := 33) (by omega) (.int .i64 c2)
  replace hbl := below_set (b := w.heap.size) (off := 33) (u := .int .i64 c2) (Nat.le_refl _) hbl
  replace hH := hH.set 33 (.int .i64 c2)
  rw [set33 (h := ⟨h.regs, c1, h.state, h.cause⟩) hh.len] at hH
  clear q1 f32 q32
  refine wp_gen fun wc hq => ?_
  rw [← hq] at hH hC hR hbl
  clear hq wb
  have q1 : wc.cell? ⟨w.heap.size + 1, 3, none⟩ = some (.int .i64 c3) := hC.cell 3
  have f32 := hH.frozen 34
  have q32 := (hH.cell 34).trans (Hart.cells_pc (h := ⟨h.regs, c1, c2, h.cause⟩) hh.len).2.2
  go_upto_region 4 with (fail)
  try go_simp
  replace hC := hC.farAt (b := w.heap.size) (off := 34) (by omega) (.int .i64 c3)
  replace hR := hR.farAt (b := w.heap.size) (off := 34) (by omega) (.int .i64 c3)
  replace hbl := below_set (b := w.heap.size) (off := 34) (u := .int .i64 c3) (Nat.le_refl _) hbl
  replace hH := hH.set 34 (.int .i64 c3)
  rw [set34 (h := ⟨h.regs, c1, c2, h.cause⟩) hh.len] at hH
  clear q1 f32 q32
  refine wp_gen fun wd hq => ?_
  rw [← hq] at hH hC hR hbl
  clear hq wc
  have q4 : wd.cell? ⟨w.heap.size + 1, 4, none⟩ = some (.int .i64 (r : Int)) := hC.cell 4
  have q5 : wd.cell? ⟨w.heap.size + 1, 5, none⟩ = some (.int .u32 c5) := hC.cell 5
  have fr := hH.frozen r
  have qr := (hH.cell r).trans (Hart.cells_reg (h := ⟨h.regs, c1, c2, c3⟩) (i := r) (by have := hh.len; show r < h.regs.length; omega))
  go_upto_region 6 with (fail)
  try go_simp
  clear q4 t4 t5
  replace hC := hC.farAt (b := w.heap.size) (off := r) (by omega) (.int .u32 c5)
  replace hR := hR.farAt (b := w.heap.size) (off := r) (by omega) (.int .u32 c5)
  replace hbl := below_set (b := w.heap.size) (off := r) (u := .int .u32 c5) (Nat.le_refl _) hbl
  replace hH := hH.set r (.int .u32 c5)
  rw [setR (h := ⟨h.regs, c1, c2, c3⟩) (by have := hh.len; show r < h.regs.length; omega)] at hH
  clear q5 fr qr
  refine wp_gen fun we hq => ?_
  rw [← hq] at hH hC hR hbl
  clear hq wd
  have hR0 := hR
  have hAa := (hA.below hbl).mono hbl.size
  have Hc := Lib.hid hAa.cells
  have hown0 := World.ownsRow_lit (base := we.heap.size) (e := 5) (size := 1) we #[] 0 (Nat.le_refl _) (by unfold maxLen; omega) rfl
  go_upto_region 7 with (at_builtin; refine wpList_append_any rfl (.tmp 34) (.tmp 35) 32 rfl we.heap.size 5 i0 _ 1 1 Try.underlying32 hi hz0 hz1 hz2 rfl (by decide) _ 0 [] rfl hown0 A m.length cap (m.map (.int .u8)) rfl (by simp) (fun hn => by obtain ⟨e1, e2⟩ := hnil hn; exact ⟨by rw [e1]; rfl, e2⟩) (fun ad hd j u hu => (World.cell?_alloc_lt _ _ _ (World.block_lt_of_cell? _ _ (Hc.out ad hd j u hu))).trans (Hc.out ad hd j u hu)) (ints_oneCell _ _) (by unfold maxLen; omega) (by omega) (by simp) ?_; intro v1 w1 hown1 hg1)
  try go_simp
  replace hown1 : w1.ownsRow we.heap.size 5 1 v1 m.length (m.map (.int .u8)) := by simpa using hown1
  have hb1 : Below we.heap.size we w1 := ((Below.refl _ _).alloc (Nat.le_refl _) _).grown hg1 (by simp) (fun k hk => by cases hk; exact Nat.le_refl _)
  replace hC := hC.ext hb1
  replace hH := hH.ext hb1
  replace hR := hR.ext hb1
  have hbs := hbl.size
  have hRl : w.heap.size + 2 < we.heap.size := by have := hb1.size; exact Nat.lt_of_lt_of_le hR0.lt (Nat.le_refl _)
  replace hbl := hbl.trans (hb1.mono hbl.size)
  clear hown0 hg1 hb1 Hc hAa
  obtain ⟨A2, cap2, rfl⟩ := own_value hown1
  have e6 : w1.cell? ⟨w.heap.size + 1, 6, none⟩ = some (.int .u32 c6) := hC.cell 6
  have e7 : w1.cell? ⟨w.heap.size + 1, 7, none⟩ = some (.int .i64 0) := (hC.cell 7).trans (by rw [← Hmany.out]; rfl)
  have e8 : w1.cell? ⟨w.heap.size + 1, 8, none⟩ = some (.int .u32 c8) := hC.cell 8
  have ehx : (Hart.mk (h.regs.set r c5) c1 c2 c3) = xh := by rw [Hxh.out]; unfold applyH; dsimp only; rw [if_pos (by omega), Int.toNat_natCast]
  have hxl : (Hart.mk (h.regs.set r c5) c1 c2 c3).regs.length = 32 := by simpa using hh.len
  rw [ehx] at hH hxl
  clear ehx
  go_wp2
  refine wp_loop_rounds 1 ?_
  rw [rounds_succ]
  go_upto_region 13 with (fail)
  try go_simp
  go_wp2_with (first
    | (refine wpList_load_all rfl 51 _ rfl w.heap.size rfl 51 _ _ hH Try.underlying51 rfl (hart_info (h := xh) hxl) ?_)
    | (refine wpList_store_all rfl 51 _ _ rfl (w.heap.size + 2) xh.cells rfl rfl 51 _ hR (hart_info (h := xh) hxl) (by rw [Hart.cells_size (h := xh) hxl]; rfl) (hart_one xh) ?_; intro w7 hB7 hg7))
  have exm : m = xm := by rw [Hxm.out]; unfold applyM putN; dsimp only; rw [Hmany.out]; rfl
  rw [← exm]
  have hb7 := below_grown hbl hg7 hbl.size (by omega)
  have how := hown1.grownFar hg7 (by omega)
  exact bodyPost_ret (results_ct rfl rfl rfl (hart_load (h := xh) hxl hB7)) rfl ⟨A2, cap2, rfl, hb7, own_mono how hbs⟩
end Go.Proofs.Ytapgojgcmlnbgab

/- humpyardkeep.replay. Printed by gen_rep.py. -/
namespace Go.Proofs.Ytapgojgcmlnbgab
open Go.RowKit

set_option maxHeartbeats 2000000 in
set_option maxRecDepth 100000 in
theorem replay_r_1 (h : Hart) (c0 c1 c2 c3  c5  c7 c8 : Int) (c9 : Bool) (c10 : Int) (r : Nat) (n : Nat) (A : Option Addr) (cap : Nat) (m : List Int) (w : World) (hh : h.Wf) (d0 : 0 ≤ c8) (d1 : c8 ≤ 4294967295) (n1 : (n : Int) ≤ 4294967295) (hin : n + 1 ≤ m.length) (hl : m.length ≤ 140737488351232) (hA : IntsAt w w.heap.size .u8 A m) (hnil : A = none → m = [] ∧ cap = 0) (hr0 : 0 < r) (hr1 : r ≤ 31) (hmany : c7 = 1) :
    Calls Try.prog 38 #[.agg h.cells, .slice A m.length cap, .agg (Com.mk c0 c1 c2 c3 (r : Int) c5 n c7 c8 c9 c10).cells] w (RepPost w (applyH (Com.mk c0 c1 c2 c3 (r : Int) c5 n c7 c8 c9 c10) h) (applyM (Com.mk c0 c1 c2 c3 (r : Int) c5 n c7 c8 c9 c10) m)) := by
  have t4 : decide ((0 : Int) < (r : Int)) = true := decide_eq_true (by omega)
  have t5 : decide ((r : Int) < 32) = true := decide_eq_true (by omega)
  have Hmany := Lib.hid hmany
  clear hmany
  obtain ⟨xh, hxh⟩ : ∃ x, x = applyH (Com.mk c0 c1 c2 c3 (r : Int) c5 n c7 c8 c9 c10) h := ⟨_, rfl⟩
  obtain ⟨xm, hxm⟩ : ∃ x, x = applyM (Com.mk c0 c1 c2 c3 (r : Int) c5 n c7 c8 c9 c10) m := ⟨_, rfl⟩
  rw [← hxh, ← hxm]
  have Hxh := Lib.hid hxh
  have Hxm := Lib.hid hxm
  clear hxh hxm
  obtain ⟨i0, hi, hz0, hz1, hz2⟩ := info_parts refStore_info
  go_enter Try.func38, Try.ntmps38
  go_upto_region 1 with (fail)
  go_simp
  refine wp_gen fun wa hq => ?_
  have hH : Blk wa w.heap.size 51 h.cells := by rw [hq]; exact ((Blk.new w _ _).alloc _).alloc _
  have hC : Blk wa (w.heap.size + 1) 54 ((Com.mk c0 c1 c2 c3 (r : Int) c5 n c7 c8 c9 c10)).cells := by rw [hq]; exact (Blk.newAt (g := w.heap.size + 1) (w.alloc _) 54 _ (by simp)).alloc _
  have hR : Blk wa (w.heap.size + 2) 51 hart0.cells := by rw [hq]; exact Blk.newAt ((w.alloc _).alloc _) 51 _ (by simp)
  have hbl : Below w.heap.size w wa := by rw [hq]; exact (((Below.refl _ _).alloc (Nat.le_refl _) _).alloc (by simp) _).alloc (by simp; omega) _
  clear hq
  have q1 : wa.cell? ⟨w.heap.size + 1, 1, none⟩ = some (.int .u32 c1) := hC.cell 1
  have f32 := hH.frozen 32
  have q32 := (hH.cell 32).trans (Hart.cells_pc hh.len).1
  go_upto_region 2 with (fail)
  try go_simp
  replace hC := hC.farAt (b := w.heap.size) (off := 32) (by omega) (.int .u32 c1)
  replace hR := hR.farAt (b := w.heap.size) (off := 32) (by omega) (.int .u32 c1)
  replace hbl := below_set (b := w.heap.size) (off := 32) (u := .int .u32 c1) (Nat.le_refl _) hbl
  replace hH := hH.set 32 (.int .u32 c1)
  rw [set32 hh.len] at hH
  clear q1 f32 q32
  refine wp_gen fun wb hq => ?_
  rw [← hq] at hH hC hR hbl
  clear hq wa
  have q1 : wb.cell? ⟨w.heap.size + 1, 2, none⟩ = some (.int .i64 c2) := hC.cell 2
  have f32 := hH.frozen 33
  have q32 := (hH.cell 33).trans (Hart.cells_pc (h := ⟨h.regs, c1, h.state, h.cause⟩) hh.len).2.1
  go_upto_region 3 with (fail)
  try go_simp
  replace hC := hC.farAt (b := w.heap.size) (off := 33) (by omega) (.int .i64 c2)
  replace hR := hR.farAt (b := w.heap.size) (off := 33) (by omega) (.int .i64 c2)
  replace hbl := below_set (b := w.heap.size) (off := 33) (u := .int .i64 c2) (Nat.le_refl _) hbl
  replace hH := hH.set 33 (.int .i64 c2)
  rw [set33 (h := ⟨h.regs, c1, h.state, h.cause⟩) hh.len] at hH
  clear q1 f32 q32
  refine wp_gen fun wc hq => ?_
  rw [← hq] at hH hC hR hbl
  clear hq wb
  have q1 : wc.cell? ⟨w.heap.size + 1, 3, none⟩ = some (.int .i64 c3) := hC.cell 3
  have f32 := hH.frozen 34
  have q32 := (hH.cell 34).trans (Hart.cells_pc (h := ⟨h.regs, c1, c2, h.cause⟩) hh.len).2.2
  go_upto_region 4 with (fail)
  try go_simp
  replace hC := hC.farAt (b := w.heap.size) (off := 34) (by omega) (.int .i64 c3)
  replace hR := hR.farAt (b := w.heap.size) (off := 34) (by omega) (.int .i64 c3)
  replace hbl := below_set (b := w.heap.size) (off := 34) (u := .int .i64 c3) (Nat.le_refl _) hbl
  replace hH := hH.set 34 (.int .i64 c3)
  rw [set34 (h := ⟨h.regs, c1, c2, h.cause⟩) hh.len] at hH
  clear q1 f32 q32
  refine wp_gen fun wd hq => ?_
  rw [← hq] at hH hC hR hbl
  clear hq wc
  have q4 : wd.cell? ⟨w.heap.size + 1, 4, none⟩ = some (.int .i64 (r : Int)) := hC.cell 4
  have q5 : wd.cell? ⟨w.heap.size + 1, 5, none⟩ = some (.int .u32 c5) := hC.cell 5
  have fr := hH.frozen r
  have qr := (hH.cell r).trans (Hart.cells_reg (h := ⟨h.regs, c1, c2, c3⟩) (i := r) (by have := hh.len; show r < h.regs.length; omega))
  go_upto_region 6 with (fail)
  try go_simp
  clear q4 t4 t5
  replace hC := hC.farAt (b := w.heap.size) (off := r) (by omega) (.int .u32 c5)
  replace hR := hR.farAt (b := w.heap.size) (off := r) (by omega) (.int .u32 c5)
  replace hbl := below_set (b := w.heap.size) (off := r) (u := .int .u32 c5) (Nat.le_refl _) hbl
  replace hH := hH.set r (.int .u32 c5)
  rw [setR (h := ⟨h.regs, c1, c2, c3⟩) (by have := hh.len; show r < h.regs.length; omega)] at hH
  clear q5 fr qr
  refine wp_gen fun we hq => ?_
  rw [← hq] at hH hC hR hbl
  clear hq wd
  have hR0 := hR
  have hAa := (hA.below hbl).mono hbl.size
  have Hc := Lib.hid hAa.cells
  have hown0 := World.ownsRow_lit (base := we.heap.size) (e := 5) (size := 1) we #[] 0 (Nat.le_refl _) (by unfold maxLen; omega) rfl
  go_upto_region 7 with (at_builtin; refine wpList_append_any rfl (.tmp 34) (.tmp 35) 32 rfl we.heap.size 5 i0 _ 1 1 Try.underlying32 hi hz0 hz1 hz2 rfl (by decide) _ 0 [] rfl hown0 A m.length cap (m.map (.int .u8)) rfl (by simp) (fun hn => by obtain ⟨e1, e2⟩ := hnil hn; exact ⟨by rw [e1]; rfl, e2⟩) (fun ad hd j u hu => (World.cell?_alloc_lt _ _ _ (World.block_lt_of_cell? _ _ (Hc.out ad hd j u hu))).trans (Hc.out ad hd j u hu)) (ints_oneCell _ _) (by unfold maxLen; omega) (by omega) (by simp) ?_; intro v1 w1 hown1 hg1)
  try go_simp
  replace hown1 : w1.ownsRow we.heap.size 5 1 v1 m.length (m.map (.int .u8)) := by simpa using hown1
  have hb1 : Below we.heap.size we w1 := ((Below.refl _ _).alloc (Nat.le_refl _) _).grown hg1 (by simp) (fun k hk => by cases hk; exact Nat.le_refl _)
  replace hC := hC.ext hb1
  replace hH := hH.ext hb1
  replace hR := hR.ext hb1
  have hbs := hbl.size
  have hRl : w.heap.size + 2 < we.heap.size := by have := hb1.size; exact Nat.lt_of_lt_of_le hR0.lt (Nat.le_refl _)
  replace hbl := hbl.trans (hb1.mono hbl.size)
  clear hown0 hg1 hb1 Hc hAa
  obtain ⟨A2, cap2, rfl⟩ := own_value hown1
  have e6 : w1.cell? ⟨w.heap.size + 1, 6, none⟩ = some (.int .u32 (n : Int)) := hC.cell 6
  have e7 : w1.cell? ⟨w.heap.size + 1, 7, none⟩ = some (.int .i64 1) := (hC.cell 7).trans (by rw [← Hmany.out]; rfl)
  have e8 : w1.cell? ⟨w.heap.size + 1, 8, none⟩ = some (.int .u32 c8) := hC.cell 8
  have ehx : (Hart.mk (h.regs.set r c5) c1 c2 c3) = xh := by rw [Hxh.out]; unfold applyH; dsimp only; rw [if_pos (by omega), Int.toNat_natCast]
  have hxl : (Hart.mk (h.regs.set r c5) c1 c2 c3).regs.length = 32 := by simpa using hh.len
  rw [ehx] at hH hxl
  clear ehx
  obtain ⟨g, c1', hv, hgb, hgl⟩ := hown1.form (by omega)
  injection hv with hv1 hv2 hv3
  subst hv1 hv3
  have hc := fun j (hj : j < m.length) => (hown1.cellAt j (by omega)).trans (show (m.map (Value.int .u8))[j]? = some (.int .u8 (m.getD j 0)) by simp [List.getD, hj])
  have hfz := hown1.frozenAt
  have k0 := hc n (by omega)
  generalize m.getD n 0 = x0 at k0
  clear hc
  have Hown := Lib.hid hown1
  clear hown1
  have hH0 := hH
  have hR0' := hR
  have hH1 := hH0.farAt (b := g) (off := n) (by omega) (.int .u8 (c8 % 256))
  have hR1' := hR0'.farAt (b := g) (off := n) (by omega) (.int .u8 (c8 % 256))
  go_wp2
  refine wp_loop_rounds 2 ?_
  rw [rounds_succ]
  go_wp2
  rw [rounds_succ]
  go_upto_region 13 with (fail)
  try go_simp
  go_wp2_with (first
    | (refine wpList_load_all rfl 51 _ rfl w.heap.size rfl 51 _ _ hH1 Try.underlying51 rfl (hart_info (h := xh) hxl) ?_)
    | (refine wpList_store_all rfl 51 _ _ rfl (w.heap.size + 2) xh.cells rfl rfl 51 _ hR1' (hart_info (h := xh) hxl) (by rw [Hart.cells_size (h := xh) hxl]; rfl) (hart_one xh) ?_; intro w7 hB7 hg7))
  have s1 := Hown.out.stored n (.int .u8 (c8 % 256))
  have exm : put1 m n c8 = xm := by rw [Hxm.out]; unfold applyM putN; dsimp only; rw [Hmany.out]; rfl
  have exl : (put1 m n c8).length = m.length := by simp [put4, put2, put1]
  rw [← exm]
  have how := s1.1.grownFar hg7 (by omega)
  have hb7 := below_grown (below_set (b := g) (off := n) (u := .int .u8 (c8 % 256)) (by omega) (hbl)) hg7 (by simpa using hbl.size) (by omega)
  refine bodyPost_ret (results_ct (x := .slice (some ⟨g, 0, none⟩) m.length cap2) rfl rfl rfl (hart_load (h := xh) hxl hB7)) rfl ⟨some ⟨g, 0, none⟩, cap2, by rw [exl], hb7, ?_⟩
  rw [exl]
  have how2 := own_mono how hbs
  simpa [put1, List.map_set] using how2
end Go.Proofs.Ytapgojgcmlnbgab
