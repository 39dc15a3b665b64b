/- humpyardkeep.replay. Printed by gen_rep.py. -/
import Derived.Test.YtapgojgcmlnbgabKHT945
import Derived.Test.YtapgojgcmlnbgabKHS943
set_option linter.unusedSimpArgs false
set_option linter.unusedVariables false

namespace Go.Proofs.Ytapgojgcmlnbgab
open Go.RowKit

set_option maxHeartbeats 2000000 in
set_option maxRecDepth 100000 in
theorem replay_r_2 (h : Hart) (c0 c1 c2 c3  c5  c7 c8 : Int) (c9 : Bool) (c10 : Int) (r : Nat) (n : Nat) (A : Option Addr) (cap : Nat) (m : List Int) (w : World) (hh : h.Wf) (d0 : 0 ≤ c8) (d1 : c8 ≤ 4294967295) (n1 : (n : Int) ≤ 4294967295) (hin : n + 2 ≤ m.length) (hl : m.length ≤ 140737488351232) (hA : IntsAt w w.heap.size .u8 A m) (hnil : A = none → m = [] ∧ cap = 0) (hr0 : 0 < r) (hr1 : r ≤ 31) (hmany : c7 = 2) :
    Calls Try.prog 38 #[.agg h.cells, .slice A m.length cap, .agg (Com.mk c0 c1 c2 c3 (r : Int) c5 n c7 c8 c9 c10).cells] w (RepPost w (applyH (Com.mk c0 c1 c2 c3 (r : Int) c5 n c7 c8 c9 c10) h) (applyM (Com.mk c0 c1 c2 c3 (r : Int) c5 n c7 c8 c9 c10) m)) := by
  have t4 : decide ((0 : Int) < (r : Int)) = true := decide_eq_true (by omega)
  have t5 : decide ((r : Int) < 32) = true := decide_eq_true (by omega)
  have Hmany := Lib.hid hmany
  clear hmany
  obtain ⟨xh, hxh⟩ : ∃ x, x = applyH (Com.mk c0 c1 c2 c3 (r : Int) c5 n c7 c8 c9 c10) h := ⟨_, rfl⟩
  obtain ⟨xm, hxm⟩ : ∃ x, x = applyM (Com.mk c0 c1 c2 c3 (r : Int) c5 n c7 c8 c9 c10) m := ⟨_, rfl⟩
  rw [← hxh, ← hxm]
  have Hxh := Lib.hid hxh
  have Hxm := Lib.hid hxm
  clear hxh hxm
  obtain ⟨i0, hi, hz0, hz1, hz2⟩ := info_parts refStore_info
  go_enter Try.func38, Try.ntmps38
  go_upto_region 1 with (fail)
  go_simp
  refine wp_gen fun wa hq => ?_
  have hH : Blk wa w.heap.size 51 h.cells := by rw [hq]; exact ((Blk.new w _ _).alloc _).alloc _
  have hC : Blk wa (w.heap.size + 1) 54 ((Com.mk c0 c1 c2 c3 (r : Int) c5 n c7 c8 c9 c10)).cells := by rw [hq]; exact (Blk.newAt (g := w.heap.size + 1) (w.alloc _) 54 _ (by simp)).alloc _
  have hR : Blk wa (w.heap.size + 2) 51 hart0.cells := by rw [hq]; exact Blk.newAt ((w.alloc _).alloc _) 51 _ (by simp)
  have hbl : Below w.heap.size w wa := by rw [hq]; exact (((Below.refl _ _).alloc (Nat.le_refl _) _).alloc (by simp) _).alloc (by simp; omega) _
  clear hq
  have q1 : wa.cell? ⟨w.heap.size + 1, 1, none⟩ = some (.int .u32 c1) := hC.cell 1
  have f32 := hH.frozen 32
  have q32 := (hH.cell 32).trans (Hart.cells_pc hh.len).1
  go_upto_region 2 with (fail)
  try go_simp
  replace hC := hC.farAt (b := w.heap.size) (off := 32) (by omega) (.int .u32 c1)
  replace hR := hR.farAt (b := w.heap.size) (off := 32) (by omega) (.int .u32 c1)
  replace hbl := below_set (b := w.heap.size) (off := 32) (u := .int .u32 c1) (Nat.le_refl _) hbl
  replace hH := hH.set 32 (.int .u32 c1)
  rw [set32 hh.len] at hH
  clear q1 f32 q32
  refine wp_gen fun wb hq => ?_
  rw [← hq] at hH hC hR hbl
  clear hq wa
  have q1 : wb.cell? ⟨w.heap.size + 1, 2, none⟩ = some (.int .i64 c2) := hC.cell 2
  have f32 := hH.frozen 33
  have q32 := (hH.cell 33).trans (Hart.cells_pc (h := ⟨h.regs, c1, h.state, h.cause⟩) hh.len).2.1
  go_upto_region 3 with (fail)
  try go_simp
  replace hC := hC.farAt (b := w.heap.size) (off := 33) (by omega) (.int .i64 c2)
  replace hR := hR.farAt (b := w.heap.size) (off := 33) (by omega) (.int .i64 c2)
  replace hbl := below_set (b := w.heap.size) (off := 33) (u := .int .i64 c2) (Nat.le_refl _) hbl
  replace hH := hH.set 33 (.int .i64 c2)
  rw [set33 (h := ⟨h.regs, c1, h.state, h.cause⟩) hh.len] at hH
  clear q1 f32 q32
  refine wp_gen fun wc hq => ?_
  rw [← hq] at hH hC hR hbl
  clear hq wb
  have q1 : wc.cell? ⟨w.heap.size + 1, 3, none⟩ = some (.int .i64 c3) := hC.cell 3
  have f32 := hH.frozen 34
  have q32 := (hH.cell 34).trans (Hart.cells_pc (h := ⟨h.regs, c1, c2, h.cause⟩) hh.len).2.2
  go_upto_region 4 with (fail)
  try go_simp
  replace hC := hC.farAt (b := w.heap.size) (off := 34) (by omega) (.int .i64 c3)
  replace hR := hR.farAt (b := w.heap.size) (off := 34) (by omega) (.int .i64 c3)
  replace hbl := below_set (b := w.heap.size) (off := 34) (u := .int .i64 c3) (Nat.le_refl _) hbl
  replace hH := hH.set 34 (.int .i64 c3)
  rw [set34 (h := ⟨h.regs, c1, c2, h.cause⟩) hh.len] at hH
  clear q1 f32 q32
  refine wp_gen fun wd hq => ?_
  rw [← hq] at hH hC hR hbl
  clear hq wc
  have q4 : wd.cell? ⟨w.heap.size + 1, 4, none⟩ = some (.int .i64 (r : Int)) := hC.cell 4
  have q5 : wd.cell? ⟨w.heap.size + 1, 5, none⟩ = some (.int .u32 c5) := hC.cell 5
  have fr := hH.frozen r
  have qr := (hH.cell r).trans (Hart.cells_reg (h := ⟨h.regs, c1, c2, c3⟩) (i := r) (by have := hh.len; show r < h.regs.length; omega))
  go_upto_region 6 with (fail)
  try go_simp
  clear q4 t4 t5
  replace hC := hC.farAt (b := w.heap.size) (off := r) (by omega) (.int .u32 c5)
  replace hR := hR.farAt (b := w.heap.size) (off := r) (by omega) (.int .u32 c5)
  replace hbl := below_set (b := w.heap.size) (off := r) (u := .int .u32 c5) (Nat.le_refl _) hbl
  replace hH := hH.set r (.int .u32 c5)
  rw [setR (h := ⟨h.regs, c1, c2, c3⟩) (by have := hh.len; show r < h.regs.length; omega)] at hH
  clear q5 fr qr
  refine wp_gen fun we hq => ?_
  rw [← hq] at hH hC hR hbl
  clear hq wd
  have hR0 := hR
  have hAa := (hA.below hbl).mono hbl.size
  have Hc := Lib.hid hAa.cells
  have hown0 := World.ownsRow_lit (base := we.heap.size) (e := 5) (size := 1) we #[] 0 (Nat.le_refl _) (by unfold maxLen; omega) rfl
  go_upto_region 7 with (at_builtin; refine wpList_append_any rfl (.tmp 34) (.tmp 35) 32 rfl we.heap.size 5 i0 _ 1 1 Try.underlying32 hi hz0 hz1 hz2 rfl (by decide) _ 0 [] rfl hown0 A m.length cap (m.map (.int .u8)) rfl (by simp) (fun hn => by obtain ⟨e1, e2⟩ := hnil hn; exact ⟨by rw [e1]; rfl, e2⟩) (fun ad hd j u hu => (World.cell?_alloc_lt _ _ _ (World.block_lt_of_cell? _ _ (Hc.out ad hd j u hu))).trans (Hc.out ad hd j u hu)) (ints_oneCell _ _) (by unfold maxLen; omega) (by omega) (by simp) ?_; intro v1 w1 hown1 hg1)
  try go_simp
  replace hown1 : w1.ownsRow we.heap.size 5 1 v1 m.length (m.map (.int .u8)) := by simpa using hown1
  have hb1 : Below we.heap.size we w1 := ((Below.refl _ _).alloc (Nat.le_refl _) _).grown hg1 (by simp) (fun k hk => by cases hk; exact Nat.le_refl _)
  replace hC := hC.ext hb1
  replace hH := hH.ext hb1
  replace hR := hR.ext hb1
  have hbs := hbl.size
  have hRl : w.heap.size + 2 < we.heap.size := by have := hb1.size; exact Nat.lt_of_lt_of_le hR0.lt (Nat.le_refl _)
  replace hbl := hbl.trans (hb1.mono hbl.size)
  clear hown0 hg1 hb1 Hc hAa
  obtain ⟨A2, cap2, rfl⟩ := own_value hown1
  have e6 : w1.cell? ⟨w.heap.size + 1, 6, none⟩ = some (.int .u32 (n : Int)) := hC.cell 6
  have e7 : w1.cell? ⟨w.heap.size + 1, 7, none⟩ = some (.int .i64 2) := (hC.cell 7).trans (by rw [← Hmany.out]; rfl)
  have e8 : w1.cell? ⟨w.heap.size + 1, 8, none⟩ = some (.int .u32 c8) := hC.cell 8
  have ehx : (Hart.mk (h.regs.set r c5) c1 c2 c3) = xh := by rw [Hxh.out]; unfold applyH; dsimp only; rw [if_pos (by omega), Int.toNat_natCast]
  have hxl : (Hart.mk (h.regs.set r c5) c1 c2 c3).regs.length = 32 := by simpa using hh.len
  rw [ehx] at hH hxl
  clear ehx
  obtain ⟨g, c1', hv, hgb, hgl⟩ := hown1.form (by omega)
  injection hv with hv1 hv2 hv3
  subst hv1 hv3
  have hc := fun j (hj : j < m.length) => (hown1.cellAt j (by omega)).trans (show (m.map (Value.int .u8))[j]? = some (.int .u8 (m.getD j 0)) by simp [List.getD, hj])
  have hfz := hown1.frozenAt
  have k0 := hc n (by omega)
  have k1 := hc (n + 1) (by omega)
  generalize m.getD n 0 = x0 at k0
  generalize m.getD (n + 1) 0 = x1 at k1
  clear hc
  have Hown := Lib.hid hown1
  clear hown1
  have hH0 := hH
  have hR0' := hR
  have hH1 := hH0.farAt (b := g) (off := n) (by omega) (.int .u8 (c8 % 256))
  have hR1' := hR0'.farAt (b := g) (off := n) (by omega) (.int .u8 (c8 % 256))
  have hH2 := hH1.farAt (b := g) (off := (n + 1)) (by omega) (.int .u8 (c8 / 256 % 256))
  have hR2' := hR1'.farAt (b := g) (off := (n + 1)) (by omega) (.int .u8 (c8 / 256 % 256))
  go_wp2
  refine wp_loop_rounds 3 ?_
  rw [rounds_succ]
  go_wp2
  rw [rounds_succ]
  go_wp2
  rw [rounds_succ]
  go_upto_region 13 with (fail)
  try go_simp
  go_wp2_with (first
    | (refine wpList_load_all rfl 51 _ rfl w.heap.size rfl 51 _ _ hH2 Try.underlying51 rfl (hart_info (h := xh) hxl) ?_)
    | (refine wpList_store_all rfl 51 _ _ rfl (w.heap.size + 2) xh.cells rfl rfl 51 _ hR2' (hart_info (h := xh) hxl) (by rw [Hart.cells_size (h := xh) hxl]; rfl) (hart_one xh) ?_; intro w7 hB7 hg7))
  have s1 := Hown.out.stored n (.int .u8 (c8 % 256))
  have s2 := s1.1.stored (n + 1) (.int .u8 (c8 / 256 % 256))
  have exm : put2 m n c8 = xm := by rw [Hxm.out]; unfold applyM putN; dsimp only; rw [Hmany.out]; rfl
  have exl : (put2 m n c8).length = m.length := by simp [put4, put2, put1]
  rw [← exm]
  have how := s2.1.grownFar hg7 (by omega)
  have hb7 := below_grown (below_set (b := g) (off := n + 1) (u := .int .u8 (c8 / 256 % 256)) (by omega) (below_set (b := g) (off := n) (u := .int .u8 (c8 % 256)) (by omega) (hbl))) hg7 (by simpa using hbl.size) (by omega)
  refine bodyPost_ret (results_ct (x := .slice (some ⟨g, 0, none⟩) m.length cap2) rfl rfl rfl (hart_load (h := xh) hxl hB7)) rfl ⟨some ⟨g, 0, none⟩, cap2, by rw [exl], hb7, ?_⟩
  rw [exl]
  have how2 := own_mono how hbs
  simpa [put2, put1, List.map_set] using how2
end Go.Proofs.Ytapgojgcmlnbgab

/- humpyardkeep.replay. Printed by gen_rep.py. -/
namespace Go.Proofs.Ytapgojgcmlnbgab
open Go.RowKit

set_option maxHeartbeats 2000000 in
set_option maxRecDepth 100000 in
theorem replay_r_4 (h : Hart) (c0 c1 c2 c3  c5  c7 c8 : Int) (c9 : Bool) (c10 : Int) (r : Nat) (n : Nat) (A : Option Addr) (cap : Nat) (m : List Int) (w : World) (hh : h.Wf) (d0 : 0 ≤ c8) (d1 : c8 ≤ 4294967295) (n1 : (n : Int) ≤ 4294967295) (hin : n + 4 ≤ m.length) (hl : m.length ≤ 140737488351232) (hA : IntsAt w w.heap.size .u8 A m) (hnil : A = none → m = [] ∧ cap = 0) (hr0 : 0 < r) (hr1 : r ≤ 31) (hmany : c7 = 4) :
    Calls Try.prog 38 #[.agg h.cells, .slice A m.length cap, .agg (Com.mk c0 c1 c2 c3 (r : Int) c5 n c7 c8 c9 c10).cells] w (RepPost w (applyH (Com.mk c0 c1 c2 c3 (r : Int) c5 n c7 c8 c9 c10) h) (applyM (Com.mk c0 c1 c2 c3 (r : Int) c5 n c7 c8 c9 c10) m)) := by
  have t4 : decide ((0 : Int) < (r : Int)) = true := decide_eq_true (by omega)
  have t5 : decide ((r : Int) < 32) = true := decide_eq_true (by omega)
  have Hmany := Lib.hid hmany
  clear hmany
  obtain ⟨xh, hxh⟩ : ∃ x, x = applyH (Com.mk c0 c1 c2 c3 (r : Int) c5 n c7 c8 c9 c10) h := ⟨_, rfl⟩
  obtain ⟨xm, hxm⟩ : ∃ x, x = applyM (Com.mk c0 c1 c2 c3 (r : Int) c5 n c7 c8 c9 c10) m := ⟨_, rfl⟩
  rw [← hxh, ← hxm]
  have Hxh := Lib.hid hxh
  have Hxm := Lib.hid hxm
  clear hxh hxm
  obtain ⟨i0, hi, hz0, hz1, hz2⟩ := info_parts refStore_info
  go_enter Try.func38, Try.ntmps38
  go_upto_region 1 with (fail)
  go_simp
  refine wp_gen fun wa hq => ?_
  have hH : Blk wa w.heap.size 51 h.cells := by rw [hq]; exact ((Blk.new w _ _).alloc _).alloc _
  have hC : Blk wa (w.heap.size + 1) 54 ((Com.mk c0 c1 c2 c3 (r : Int) c5 n c7 c8 c9 c10)).cells := by rw [hq]; exact (Blk.newAt (g := w.heap.size + 1) (w.alloc _) 54 _ (by simp)).alloc _
  have hR : Blk wa (w.heap.size + 2) 51 hart0.cells := by rw [hq]; exact Blk.newAt ((w.alloc _).alloc _) 51 _ (by simp)
  have hbl : Below w.heap.size w wa := by rw [hq]; exact (((Below.refl _ _).alloc (Nat.le_refl _) _).alloc (by simp) _).alloc (by simp; omega) _
  clear hq
  have q1 : wa.cell? ⟨w.heap.size + 1, 1, none⟩ = some (.int .u32 c1) := hC.cell 1
  have f32 := hH.frozen 32
  have q32 := (hH.cell 32).trans (Hart.cells_pc hh.len).1
  go_upto_region 2 with (fail)
  try go_simp
  replace hC := hC.farAt (b := w.heap.size) (off := 32) (by omega) (.int .u32 c1)
  replace hR := hR.farAt (b := w.heap.size) (off := 32) (by omega) (.int .u32 c1)
  replace hbl := below_set (b := w.heap.size) (off := 32) (u := .int .u32 c1) (Nat.le_refl _) hbl
  replace hH := hH.set 32 (.int .u32 c1)
  rw [set32 hh.len] at hH
  clear q1 f32 q32
  refine wp_gen fun wb hq => ?_
  rw [← hq] at hH hC hR hbl
  clear hq wa
  have q1 : wb.cell? ⟨w.heap.size + 1, 2, none⟩ = some (.int .i64 c2) := hC.cell 2
  have f32 := hH.frozen 33
  have q32 := (hH.cell 33).trans (Hart.cells_pc (h := ⟨h.regs, c1, h.state, h.cause⟩) hh.len).2.1
  go_upto_region 3 with (fail)
  try go_simp
  replace hC := hC.farAt (b := w.heap.size) (off := 33) (by omega) (.int .i64 c2)
  replace hR := hR.farAt (b := w.heap.size) (off := 33) (by omega) (.int .i64 c2)
  replace hbl := below_set (b := w.heap.size) (off := 33) (u := .int .i64 c2) (Nat.le_refl _) hbl
  replace hH := hH.set 33 (.int .i64 c2)
  rw [set33 (h := ⟨h.regs, c1, h.state, h.cause⟩) hh.len] at hH
  clear q1 f32 q32
  refine wp_gen fun wc hq => ?_
  rw [← hq] at hH hC hR hbl
  clear hq wb
  have q1 : wc.cell? ⟨w.heap.size + 1, 3, none⟩ = some (.int .i64 c3) := hC.cell 3
  have f32 := hH.frozen 34
  have q32 := (hH.cell 34).trans (Hart.cells_pc (h := ⟨h.regs, c1, c2, h.cause⟩) hh.len).2.2
  go_upto_region 4 with (fail)
  try go_simp
  replace hC := hC.farAt (b := w.heap.size) (off := 34) (by omega) (.int .i64 c3)
  replace hR := hR.farAt (b := w.heap.size) (off := 34) (by omega) (.int .i64 c3)
  replace hbl := below_set (b := w.heap.size) (off := 34) (u := .int .i64 c3) (Nat.le_refl _) hbl
  replace hH := hH.set 34 (.int .i64 c3)
  rw [set34 (h := ⟨h.regs, c1, c2, h.cause⟩) hh.len] at hH
  clear q1 f32 q32
  refine wp_gen fun wd hq => ?_
  rw [← hq] at hH hC hR hbl
  clear hq wc
  have q4 : wd.cell? ⟨w.heap.size + 1, 4, none⟩ = some (.int .i64 (r : Int)) := hC.cell 4
  have q5 : wd.cell? ⟨w.heap.size + 1, 5, none⟩ = some (.int .u32 c5) := hC.cell 5
  have fr := hH.frozen r
  have qr := (hH.cell r).trans (Hart.cells_reg (h := ⟨h.regs, c1, c2, c3⟩) (i := r) (by have := hh.len; show r < h.regs.length; omega))
  go_upto_region 6 with (fail)
  try go_simp
  clear q4 t4 t5
  replace hC := hC.farAt (b := w.heap.size) (off := r) (by omega) (.int .u32 c5)
  replace hR := hR.farAt (b := w.heap.size) (off := r) (by omega) (.int .u32 c5)
  replace hbl := below_set (b := w.heap.size) (off := r) (u := .int .u32 c5) (Nat.le_refl _) hbl
  replace hH := hH.set r (.int .u32 c5)
  rw [setR (h := ⟨h.regs, c1, c2, c3⟩) (by have := hh.len; show r < h.regs.length; omega)] at hH
  clear q5 fr qr
  refine wp_gen fun we hq => ?_
  rw [← hq] at hH hC hR hbl
  clear hq wd
  have hR0 := hR
  have hAa := (hA.below hbl).mono hbl.size
  have Hc := Lib.hid hAa.cells
  have hown0 := World.ownsRow_lit (base := we.heap.size) (e := 5) (size := 1) we #[] 0 (Nat.le_refl _) (by unfold maxLen; omega) rfl
  go_upto_region 7 with (at_builtin; refine wpList_append_any rfl (.tmp 34) (.tmp 35) 32 rfl we.heap.size 5 i0 _ 1 1 Try.underlying32 hi hz0 hz1 hz2 rfl (by decide) _ 0 [] rfl hown0 A m.length cap (m.map (.int .u8)) rfl (by simp) (fun hn => by obtain ⟨e1, e2⟩ := hnil hn; exact ⟨by rw [e1]; rfl, e2⟩) (fun ad hd j u hu => (World.cell?_alloc_lt _ _ _ (World.block_lt_of_cell? _ _ (Hc.out ad hd j u hu))).trans (Hc.out ad hd j u hu)) (ints_oneCell _ _) (by unfold maxLen; omega) (by omega) (by simp) ?_; intro v1 w1 hown1 hg1)
  try go_simp
  replace hown1 : w1.ownsRow we.heap.size 5 1 v1 m.length (m.map (.int .u8)) := by simpa using hown1
  have hb1 : Below we.heap.size we w1 := ((Below.refl _ _).alloc (Nat.le_refl _) _).grown hg1 (by simp) (fun k hk => by cases hk; exact Nat.le_refl _)
  replace hC := hC.ext hb1
  replace hH := hH.ext hb1
  replace hR := hR.ext hb1
  have hbs := hbl.size
  have hRl : w.heap.size + 2 < we.heap.size := by have := hb1.size; exact Nat.lt_of_lt_of_le hR0.lt (Nat.le_refl _)
  replace hbl := hbl.trans (hb1.mono hbl.size)
  clear hown0 hg1 hb1 Hc hAa
  obtain ⟨A2, cap2, rfl⟩ := own_value hown1
  have e6 : w1.cell? ⟨w.heap.size + 1, 6, none⟩ = some (.int .u32 (n : Int)) := hC.cell 6
  have e7 : w1.cell? ⟨w.heap.size + 1, 7, none⟩ = some (.int .i64 4) := (hC.cell 7).trans (by rw [← Hmany.out]; rfl)
  have e8 : w1.cell? ⟨w.heap.size + 1, 8, none⟩ = some (.int .u32 c8) := hC.cell 8
  have ehx : (Hart.mk (h.regs.set r c5) c1 c2 c3) = xh := by rw [Hxh.out]; unfold applyH; dsimp only; rw [if_pos (by omega), Int.toNat_natCast]
  have hxl : (Hart.mk (h.regs.set r c5) c1 c2 c3).regs.length = 32 := by simpa using hh.len
  rw [ehx] at hH hxl
  clear ehx
  obtain ⟨g, c1', hv, hgb, hgl⟩ := hown1.form (by omega)
  injection hv with hv1 hv2 hv3
  subst hv1 hv3
  have hc := fun j (hj : j < m.length) => (hown1.cellAt j (by omega)).trans (show (m.map (Value.int .u8))[j]? = some (.int .u8 (m.getD j 0)) by simp [List.getD, hj])
  have hfz := hown1.frozenAt
  have k0 := hc n (by omega)
  have k1 := hc (n + 1) (by omega)
  have k2 := hc (n + 2) (by omega)
  have k3 := hc (n + 3) (by omega)
  generalize m.getD n 0 = x0 at k0
  generalize m.getD (n + 1) 0 = x1 at k1
  generalize m.getD (n + 2) 0 = x2 at k2
  generalize m.getD (n + 3) 0 = x3 at k3
  clear hc
  have Hown := Lib.hid hown1
  clear hown1
  have hH0 := hH
  have hR0' := hR
  have hH1 := hH0.farAt (b := g) (off := n) (by omega) (.int .u8 (c8 % 256))
  have hR1' := hR0'.farAt (b := g) (off := n) (by omega) (.int .u8 (c8 % 256))
  have hH2 := hH1.farAt (b := g) (off := (n + 1)) (by omega) (.int .u8 (c8 / 256 % 256))
  have hR2' := hR1'.farAt (b := g) (off := (n + 1)) (by omega) (.int .u8 (c8 / 256 % 256))
  have hH3 := hH2.farAt (b := g) (off := (n + 2)) (by omega) (.int .u8 (c8 / 256 / 256 % 256))
  have hR3' := hR2'.farAt (b := g) (off := (n + 2)) (by omega) (.int .u8 (c8 / 256 / 256 % 256))
  have hH4 := hH3.farAt (b := g) (off := (n + 3)) (by omega) (.int .u8 (c8 / 256 / 256 / 256 % 256))
  have hR4' := hR3'.farAt (b := g) (off := (n + 3)) (by omega) (.int .u8 (c8 / 256 / 256 / 256 % 256))
  go_wp2
  refine wp_loop_rounds 5 ?_
  rw [rounds_succ]
  go_wp2
  rw [rounds_succ]
  go_wp2
  rw [rounds_succ]
  go_wp2
  rw [rounds_succ]
  go_wp2
  rw [rounds_succ]
  go_upto_region 13 with (fail)
  try go_simp
  go_wp2_with (first
    | (refine wpList_load_all rfl 51 _ rfl w.heap.size rfl 51 _ _ hH4 Try.underlying51 rfl (hart_info (h := xh) hxl) ?_)
    | (refine wpList_store_all rfl 51 _ _ rfl (w.heap.size + 2) xh.cells rfl rfl 51 _ hR4' (hart_info (h := xh) hxl) (by rw [Hart.cells_size (h := xh) hxl]; rfl) (hart_one xh) ?_; intro w7 hB7 hg7))
  have s1 := Hown.out.stored n (.int .u8 (c8 % 256))
  have s2 := s1.1.stored (n + 1) (.int .u8 (c8 / 256 % 256))
  have s3 := s2.1.stored (n + 2) (.int .u8 (c8 / 256 / 256 % 256))
  have s4 := s3.1.stored (n + 3) (.int .u8 (c8 / 256 / 256 / 256 % 256))
  have exm : put4 m n c8 = xm := by rw [Hxm.out]; unfold applyM putN; dsimp only; rw [Hmany.out]; rfl
  have exl : (put4 m n c8).length = m.length := by simp [put4, put2, put1]
  rw [← exm]
  have how := s4.1.grownFar hg7 (by omega)
  have hb7 := below_grown (below_set (b := g) (off := n + 3) (u := .int .u8 (c8 / 256 / 256 / 256 % 256)) (by omega) (below_set (b := g) (off := n + 2) (u := .int .u8 (c8 / 256 / 256 % 256)) (by omega) (below_set (b := g) (off := n + 1) (u := .int .u8 (c8 / 256 % 256)) (by omega) (below_set (b := g) (off := n) (u := .int .u8 (c8 % 256)) (by omega) (hbl))))) hg7 (by simpa using hbl.size) (by omega)
  refine bodyPost_ret (results_ct (x := .slice (some ⟨g, 0, none⟩) m.length cap2) rfl rfl rfl (hart_load (h := xh) hxl hB7)) rfl ⟨some ⟨g, 0, none⟩, cap2, by rw [exl], hb7, ?_⟩
  rw [exl]
  have how2 := own_mono how hbs
  unfold put4
  rw [show c8 / 65536 % 256 = c8 / 256 / 256 % 256 by omega, show c8 / 16777216 % 256 = c8 / 256 / 256 / 256 % 256 by omega]
  simpa [put2, put1, List.map_set] using how2
end Go.Proofs.Ytapgojgcmlnbgab

/- humpyardkeep.replay, of whatever a hart tells. -/
namespace Go.Proofs.Ytapgojgcmlnbgab
open Go.RowKit

theorem replay_any (h : Hart) (c : Com) (A : Option Addr) (cap : Nat) (m : List Int) (w : World) (hh : h.Wf) (hc : c.Wf) (hf : c.Fits m.length) (hl : m.length ≤ 140737488351232) (hA : IntsAt w w.heap.size .u8 A m) (hnil : A = none → m = [] ∧ cap = 0) :
    Calls Try.prog 38 #[.agg h.cells, .slice A m.length cap, .agg c.cells] w (RepPost w (applyH c h) (applyM c m)) := by
  obtain ⟨c0, c1, c2, c3, c4, c5, c6, c7, c8, c9, c10⟩ := c
  obtain ⟨_, _, ⟨r0, r1⟩, _, ⟨a0, a1⟩, hm, ⟨d0, d1⟩, _, _⟩ := hc
  dsimp only at *
  unfold Com.Fits at hf
  dsimp only at hf
  obtain ⟨n, rfl⟩ := Int.eq_ofNat_of_zero_le a0
  obtain ⟨r, rfl⟩ := Int.eq_ofNat_of_zero_le r0
  rcases Nat.eq_zero_or_pos r with hr | hr
  · rcases hm with hm | hm | hm | hm
    · exact replay_z_0 h c0 c1 c2 c3 r c5 n c7 c8 c9 c10 A cap m w hh d0 d1 hl hA hnil (by omega) hm
    · exact replay_z_1 h c0 c1 c2 c3 r c5 c7 c8 c9 c10 n A cap m w hh d0 d1 a1 (by omega) hl hA hnil (by omega) hm
    · exact replay_z_2 h c0 c1 c2 c3 r c5 c7 c8 c9 c10 n A cap m w hh d0 d1 a1 (by omega) hl hA hnil (by omega) hm
    · exact replay_z_4 h c0 c1 c2 c3 r c5 c7 c8 c9 c10 n A cap m w hh d0 d1 a1 (by omega) hl hA hnil (by omega) hm
  · rcases hm with hm | hm | hm | hm
    · exact replay_r_0 h c0 c1 c2 c3 c5 n c7 c8 c9 c10 r A cap m w hh d0 d1 hl hA hnil hr (by omega) hm
    · exact replay_r_1 h c0 c1 c2 c3 c5 c7 c8 c9 c10 r n A cap m w hh d0 d1 a1 (by omega) hl hA hnil hr (by omega) hm
    · exact replay_r_2 h c0 c1 c2 c3 c5 c7 c8 c9 c10 r n A cap m w hh d0 d1 a1 (by omega) hl hA hnil hr (by omega) hm
    · exact replay_r_4 h c0 c1 c2 c3 c5 c7 c8 c9 c10 r n A cap m w hh d0 d1 a1 (by omega) hl hA hnil hr (by omega) hm
end Go.Proofs.Ytapgojgcmlnbgab

/- HartTells, walked. -/
namespace Go.Proofs.Ytapgojgcmlnbgab
open Go.RowKit

theorem rep_ok (h : Hart) (A : Option Addr) (cap : Nat) (m : List Int) (w : World) (hh : h.Wf) (hl : m.length ≤ 140737488351232) (hm : Bytes m) (hA : IntsAt w w.heap.size .u8 A m) (hnil : A = none → m = [] ∧ cap = 0) :
    Calls Try.prog 38 #[.agg h.cells, .slice A m.length cap, .agg (comP h m).cells] w fun e w' => ∃ A2 c2, e = .returned (.tuple #[.agg (goH h m).cells, .slice A2 (goM h m).length c2]) ∧ Below w.heap.size w w' ∧ IntsAt w' w'.heap.size .u8 A2 (goM h m) ∧ (A2 = none → goM h m = []) := by
  refine (replay_any h (comP h m) A cap m w hh (comP_wf hh hm) (comP_fits h m) hl hA hnil).mono ?_
  rintro e w' ⟨A2, c2, rfl, hb, ho⟩
  exact ⟨A2, c2, rfl, hb, IntsAt.own ho, own_nil ho⟩
def addi0 : List Int := [19, 0, 0, 0]
theorem addi0_ok : okS hart0 addi0 = true := by decide +kernel
theorem addi0_pc : (goH hart0 addi0).pc = 4 := by decide +kernel
theorem addi0_bytes : Bytes addi0 := by intro v hv; simp [addi0] at hv; omega
theorem addi0_at (w : World) : IntsAt (w.alloc (.cells #[.int .u8 19, .int .u8 0, .int .u8 0, .int .u8 0] 5)) (w.alloc (.cells #[.int .u8 19, .int .u8 0, .int .u8 0, .int .u8 0] 5)).heap.size .u8 (some ⟨w.heap.size, 0, none⟩) addi0 := by
  intro _
  refine ⟨w.heap.size, 0, rfl, by simp, fun i v hi => ?_⟩
  rw [Nat.zero_add, World.cell?_alloc_new]
  have : (#[.int .u8 19, .int .u8 0, .int .u8 0, .int .u8 0] : Array Value)[i]? = (addi0.map (Value.int .u8))[i]? := by simp [addi0]
  rw [this, List.getElem?_map, hi]
  rfl
theorem hart0_lit : hart0.cells = #[.int .u32 0, .int .u32 0, .int .u32 0, .int .u32 0, .int .u32 0, .int .u32 0, .int .u32 0, .int .u32 0, .int .u32 0, .int .u32 0, .int .u32 0, .int .u32 0, .int .u32 0, .int .u32 0, .int .u32 0, .int .u32 0, .int .u32 0, .int .u32 0, .int .u32 0, .int .u32 0, .int .u32 0, .int .u32 0, .int .u32 0, .int .u32 0, .int .u32 0, .int .u32 0, .int .u32 0, .int .u32 0, .int .u32 0, .int .u32 0, .int .u32 0, .int .u32 0, .int .u32 0, .int .i64 0, .int .i64 0] := rfl
theorem step_addi0 (w : World) : Calls Try.prog 35 #[.agg #[.int .u32 0, .int .u32 0, .int .u32 0, .int .u32 0, .int .u32 0, .int .u32 0, .int .u32 0, .int .u32 0, .int .u32 0, .int .u32 0, .int .u32 0, .int .u32 0, .int .u32 0, .int .u32 0, .int .u32 0, .int .u32 0, .int .u32 0, .int .u32 0, .int .u32 0, .int .u32 0, .int .u32 0, .int .u32 0, .int .u32 0, .int .u32 0, .int .u32 0, .int .u32 0, .int .u32 0, .int .u32 0, .int .u32 0, .int .u32 0, .int .u32 0, .int .u32 0, .int .u32 0, .int .i64 0, .int .i64 0], .slice (some ⟨w.heap.size, 0, none⟩) 4 4] (w.alloc (.cells #[.int .u8 19, .int .u8 0, .int .u8 0, .int .u8 0] 5)) fun e w' => ∃ (C X : Value) (Cc : Com) (Xx : Hart) (A2 : Option Addr) (n c2 : Nat), C = .agg Cc.cells ∧ X = .agg Xx.cells ∧ Xx.regs.length = 32 ∧ Xx.pc = 4 ∧ e = .returned (.tuple #[C, X, .slice A2 n c2, .bool true]) ∧ Below (w.alloc (.cells #[.int .u8 19, .int .u8 0, .int .u8 0, .int .u8 0] 5)).heap.size (w.alloc (.cells #[.int .u8 19, .int .u8 0, .int .u8 0, .int .u8 0] 5)) w' := by
  rw [← hart0_lit]
  refine (step_ok hart0 _ 4 addi0 _ hart0_wf (by simp [addi0]) addi0_bytes (addi0_at w) (fun h => by cases h) addi0_ok).mono ?_
  rintro e w' ⟨A2, c2, rfl, hb, _⟩
  exact ⟨_, _, comP hart0 addi0, goH hart0 addi0, A2, _, c2, rfl, rfl, (applyH_wf (comP_wf hart0_wf addi0_bytes) hart0_wf).len, addi0_pc, rfl, hb⟩
set_option maxHeartbeats 2000000 in
set_option maxRecDepth 100000 in
theorem hartTells_no (h : Hart) (A : Option Addr) (cap : Nat) (m : List Int) (w : World) (hh : h.Wf) (hl : m.length ≤ 140737488351232) (hm : Bytes m) (hA : IntsAt w w.heap.size .u8 A m) (hnil : A = none → m = []) (hno : okS h m = false) (may : Bool) (hmay : mayH h = may) :
    Calls Try.prog 11 #[.agg h.cells, .slice A m.length cap] w fun e w' => e = .returned (.bool true) ∧ Below w.heap.size w w' := by
  have Hmay := Lib.hid hmay
  have CS0 := Lib.hid (fun W => step_addi0 W)
  have CMF := fun (e : may = false) => Lib.hid (fun W => (hmay_any h W hh.len).mono (R' := fun e w' => e = .returned (.bool false) ∧ Below W.heap.size W w') (by rw [hmay, e]; exact fun _ _ k => k))
  have CMT := fun (e : may = true) => Lib.hid (fun W => (hmay_any h W hh.len).mono (R' := fun e w' => e = .returned (.bool true) ∧ Below W.heap.size W w') (by rw [hmay, e]; exact fun _ _ k => k))
  have CS := Lib.hid (fun W hW => step_no h A cap m W hh hl hm hW hnil hno)
  have p2 := (Hart.cells_pc hh.len).2.1
  go_enter Try.func11, Try.ntmps11
  go_upto_region 1 with (fail)
  go_simp
  refine wp_gen fun wa hq => ?_
  have hH : Blk wa w.heap.size 51 h.cells := by rw [hq]; exact Blk.new w _ _
  have hbl : Below w.heap.size w wa := by rw [hq]; exact (Below.refl _ _).alloc (Nat.le_refl _) _
  clear hq
  go_upto_region 2 with (first
    | (refine wpList_build_to rfl 51 _ rfl [] rfl _ built_hart0 ?_)
    | (go_at_call 35; (with_reducible refine (CS0.out _).mono ?_); rintro e w2 ⟨C0, X0, Cc, Xx, A0, n0, c0, rfl, rfl, hXl, hXp, rfl, hb2⟩; replace hbl := (hbl.alloc hbl.size _).trans (hb2.mono (by have := hbl.size; simp; omega)); replace hH := (hH.alloc _).ext hb2; clear hb2)
    | (refine wpList_store_all rfl 54 _ _ rfl w2.heap.size Cc.cells rfl rfl 54 _ ((Blk.new w2 _ _).alloc _) com_info rfl (cells_one Cc) ?_; intro w3 hC hg3)
    | (refine wpList_store_all rfl 51 _ _ rfl (w2.heap.size + 1) Xx.cells rfl rfl 51 _ ((Blk.newAt (w2.alloc _) _ _ (by simp)).grown hg3 (fun e => by injection e; omega)) (hart_info hXl) (by rw [Hart.cells_size hXl]; rfl) (hart_one Xx) ?_; intro w4 hX hg4))
  try go_simp
  have hz2 := hH.lt
  have hz3 := hg3.size
  simp only [World.size_alloc] at hz3
  replace hH := (((hH.alloc _).alloc _).grown hg3 (fun e => by injection e; omega)).grown hg4 (fun e => by injection e; omega)
  replace hbl := below_grown (below_grown ((hbl.alloc hbl.size _).alloc (by simp; have := hbl.size; omega) _) hg3 (by simp; have := hbl.size; omega) hbl.size) hg4 (by have := hbl.size; omega) (by have := hbl.size; omega)
  have k32 := (hX.cell 32).trans (Hart.cells_pc hXl).1
  rw [hXp] at k32
  clear hg3 hg4 hC hX hXl hXp hz2 hz3
  go_upto_region 4 with (fail)
  try go_simp
  clear k32
  have hAa := (hA.below hbl).mono hbl.size
  go_upto_region 5 with (first
    | (refine wpList_load_all rfl 51 _ rfl w.heap.size rfl 51 _ _ hH Try.underlying51 rfl (hart_info hh.len) ?_)
    | (go_at_call 35; (with_reducible refine (CS.out _ hAa).mono ?_); rintro e w5 ⟨rfl, hb2⟩; replace hbl := hbl.trans (hb2.mono hbl.size); replace hH := hH.ext hb2; clear hb2)
    | (refine wpList_store_all rfl 54 _ _ rfl w5.heap.size com0.cells rfl rfl 54 _ ((Blk.new w5 _ _).alloc _) com_info rfl (cells_one com0) ?_; intro w6 hC hg6)
    | (refine wpList_store_all rfl 51 _ _ rfl (w5.heap.size + 1) hart0.cells rfl rfl 51 _ ((Blk.newAt (w5.alloc _) _ _ (by simp)).grown hg6 (fun e => by injection e; omega)) (hart_info hart0_len) rfl (hart_one hart0) ?_; intro w7 hX hg7))
  try go_simp
  have hz4 := hH.lt
  have hz6 := hg6.size
  simp only [World.size_alloc] at hz6
  replace hH := (((hH.alloc _).alloc _).grown hg6 (fun e => by injection e; omega)).grown hg7 (fun e => by injection e; omega)
  replace hbl := below_grown (below_grown ((hbl.alloc hbl.size _).alloc (by simp; have := hbl.size; omega) _) hg6 (by simp; have := hbl.size; omega) hbl.size) hg7 (by have := hbl.size; omega) (by have := hbl.size; omega)
  clear hg6 hg7 hAa CS CS0 hC
  have c33 := (hH.cell 33).trans p2
  rcases may with _ | _
  · clear hno Hmay hmay
    have CM2 : Hid (∀ W, Calls Try.prog 33 #[.agg h.cells] W fun e w' => e = .returned (.bool false) ∧ Below W.heap.size W w') := CMF rfl
    clear CMF CMT
    go_upto_region 6 with (fail)
    try go_simp
    go_wp2_with (first
      | (refine wpList_wanted rfl fun K hK => ?_; first
        | (refine wp_load_all 51 _ rfl (w5.heap.size + 1) rfl 51 _ _ hX Try.underlying51 rfl (hart_info hart0_len) ?_; refine hK _ _ ?_)
        | (refine wp_load_all 51 _ rfl w.heap.size rfl 51 _ _ hH Try.underlying51 rfl (hart_info hh.len) ?_; refine hK _ _ ?_)
        | (refine wp_build_to 51 _ rfl [] rfl _ built_hart0 ?_; refine hK _ _ ?_)
        | (refine wp_eql_self 51 _ _ _ rfl hart0.cells rfl rfl hart_guard (hart_eql hart0_wf hart0_num _) ?_; refine hK _ _ ?_))
      | (go_at_call 33; (with_reducible refine (CM2.out _).mono ?_); rintro e w8 ⟨rfl, hb8⟩; replace hbl := hbl.trans (hb8.mono hbl.size); replace hH := hH.ext hb8; try replace c33 := (hH.cell 33).trans p2))
    go_ret
    exact ⟨rfl, hbl⟩
  · have CM2 : Hid (∀ W, Calls Try.prog 33 #[.agg h.cells] W fun e w' => e = .returned (.bool true) ∧ Below W.heap.size W w') := CMT rfl
    by_cases hs : h.state = 0
    · have hlen : ¬ m.length ≤ 4096 := fun hle => by
        unfold okS at hno
        rw [Hmay.out, decide_eq_true hs, decide_eq_true hle] at hno
        cases hno
      have f1 : decide ((4096 : Int) < (m.length : Int)) = true := decide_eq_true (by omega)
      have f2 : (h.state != 0) = false := by simpa using hs
      clear hs hlen hno Hmay hmay
      clear CMF CMT
      go_upto_region 6 with (fail)
      try go_simp
      go_wp2_with (first
        | (refine wpList_wanted rfl fun K hK => ?_; first
          | (refine wp_load_all 51 _ rfl (w5.heap.size + 1) rfl 51 _ _ hX Try.underlying51 rfl (hart_info hart0_len) ?_; refine hK _ _ ?_)
          | (refine wp_load_all 51 _ rfl w.heap.size rfl 51 _ _ hH Try.underlying51 rfl (hart_info hh.len) ?_; refine hK _ _ ?_)
          | (refine wp_build_to 51 _ rfl [] rfl _ built_hart0 ?_; refine hK _ _ ?_)
          | (refine wp_eql_self 51 _ _ _ rfl hart0.cells rfl rfl hart_guard (hart_eql hart0_wf hart0_num _) ?_; refine hK _ _ ?_))
        | (go_at_call 33; (with_reducible refine (CM2.out _).mono ?_); rintro e w8 ⟨rfl, hb8⟩; replace hbl := hbl.trans (hb8.mono hbl.size); replace hH := hH.ext hb8; try replace c33 := (hH.cell 33).trans p2))
      go_ret
      exact ⟨rfl, hbl⟩
    · have f2 : (h.state != 0) = true := by simpa using hs
      clear hs hno Hmay hmay
      clear CMF CMT
      go_upto_region 6 with (fail)
      try go_simp
      go_wp2_with (first
        | (refine wpList_wanted rfl fun K hK => ?_; first
          | (refine wp_load_all 51 _ rfl (w5.heap.size + 1) rfl 51 _ _ hX Try.underlying51 rfl (hart_info hart0_len) ?_; refine hK _ _ ?_)
          | (refine wp_load_all 51 _ rfl w.heap.size rfl 51 _ _ hH Try.underlying51 rfl (hart_info hh.len) ?_; refine hK _ _ ?_)
          | (refine wp_build_to 51 _ rfl [] rfl _ built_hart0 ?_; refine hK _ _ ?_)
          | (refine wp_eql_self 51 _ _ _ rfl hart0.cells rfl rfl hart_guard (hart_eql hart0_wf hart0_num _) ?_; refine hK _ _ ?_))
        | (go_at_call 33; (with_reducible refine (CM2.out _).mono ?_); rintro e w8 ⟨rfl, hb8⟩; replace hbl := hbl.trans (hb8.mono hbl.size); replace hH := hH.ext hb8; try replace c33 := (hH.cell 33).trans p2))
      go_ret
      exact ⟨rfl, hbl⟩
end Go.Proofs.Ytapgojgcmlnbgab

/- HartTells, walked: what can be done. -/
namespace Go.Proofs.Ytapgojgcmlnbgab
open Go.RowKit

set_option maxHeartbeats 4000000 in
set_option maxRecDepth 100000 in
theorem hartTells_ok (h : Hart) (A : Option Addr) (cap : Nat) (m : List Int) (w : World) (hh : h.Wf) (hl : m.length ≤ 140737488351232) (hm : Bytes m) (hA : IntsAt w w.heap.size .u8 A m) (hnil : A = none → m = [] ∧ cap = 0) (hok : okS h m = true) :
    Calls Try.prog 11 #[.agg h.cells, .slice A m.length cap] w fun e w' => e = .returned (.bool true) ∧ Below w.heap.size w w' := by
  obtain ⟨⟨hmay, hst⟩, hle⟩ : (mayH h = true ∧ h.state = 0) ∧ m.length ≤ 4096 := by unfold okS at hok; simpa using hok
  have CS0 := Lib.hid (fun W => step_addi0 W)
  have CS := Lib.hid (fun W hW => step_ok h A cap m W hh hl hm hW (fun hn => (hnil hn).1) hok)
  have CR := Lib.hid (fun W hW => rep_ok h A cap m W hh hl hm hW hnil)
  have hcw := comP_wf hh hm
  have hcp : (comP h m).pc = h.pc := comP_pc h m
  have hgw : (goH h m).Wf := applyH_wf hcw hh
  have hgm : mayH (goH h m) = true := applyH_may hcw hmay
  have hgn := may_num hgm
  have EH := Lib.hid (fun W => hart_eql hgw hgn W)
  have hgl := hgw.len
  have CM := Lib.hid (fun W => (hmay_any (goH h m) W hgl).mono (R' := fun e w' => e = .returned (.bool true) ∧ Below W.heap.size W w') (by rw [hgm]; exact fun _ _ k => k))
  have hml : (goM h m).length = m.length := applyM_length _ _
  have p1 := (Hart.cells_pc hh.len).1
  generalize comP h m = C at *
  generalize goH h m = X at *
  generalize goM h m = M at *
  have s0 : C.cells[0]? = some (.int .u32 h.pc) := by rw [← hcp]; rfl
  have s4 : C.cells[4]? = some (.int .i64 C.rd) := rfl
  have s7 : C.cells[7]? = some (.int .i64 C.many) := rfl
  have hrd := hcw.rd
  have hmn := hcw.many
  have HML := Lib.hid hml
  have f1 : decide (C.rd < 0) = false := decide_eq_false (by omega)
  have f2 : decide ((31 : Int) < C.rd) = false := decide_eq_false (by omega)
  have f3 : decide (C.many < 0) = false := decide_eq_false (by omega)
  have f4 : decide ((4 : Int) < C.many) = false := decide_eq_false (by omega)
  have f5 : ((M.length : Int) != (m.length : Int)) = false := by rw [hml]; simp
  have f6 : (h.pc != h.pc) = false := by simp
  generalize C.rd = crd at *
  generalize C.many = cmn at *
  clear hcw hgm hgn hgw hok hrd hmn hcp hml hmay hst
  go_enter Try.func11, Try.ntmps11
  go_upto_region 1 with (fail)
  go_simp
  refine wp_gen fun wa hq => ?_
  have hH : Blk wa w.heap.size 51 h.cells := by rw [hq]; exact Blk.new w _ _
  have hbl : Below w.heap.size w wa := by rw [hq]; exact (Below.refl _ _).alloc (Nat.le_refl _) _
  clear hq
  go_upto_region 2 with (first
    | (refine wpList_build_to rfl 51 _ rfl [] rfl _ built_hart0 ?_)
    | (go_at_call 35; (with_reducible refine (CS0.out _).mono ?_); rintro e w2 ⟨C0, X0, Cc, Xx, A0, n0, c0, rfl, rfl, hXl, hXp, rfl, hb2⟩; replace hbl := (hbl.alloc hbl.size _).trans (hb2.mono (by have := hbl.size; simp; omega)); replace hH := (hH.alloc _).ext hb2; clear hb2)
    | (refine wpList_store_all rfl 54 _ _ rfl w2.heap.size Cc.cells rfl rfl 54 _ ((Blk.new w2 _ _).alloc _) com_info rfl (cells_one Cc) ?_; intro w3 hC hg3)
    | (refine wpList_store_all rfl 51 _ _ rfl (w2.heap.size + 1) Xx.cells rfl rfl 51 _ ((Blk.newAt (w2.alloc _) _ _ (by simp)).grown hg3 (fun e => by injection e; omega)) (hart_info hXl) (by rw [Hart.cells_size hXl]; rfl) (hart_one Xx) ?_; intro w4 hX hg4))
  try go_simp
  have hz2 := hH.lt
  have hz3 := hg3.size
  simp only [World.size_alloc] at hz3
  replace hH := (((hH.alloc _).alloc _).grown hg3 (fun e => by injection e; omega)).grown hg4 (fun e => by injection e; omega)
  replace hbl := below_grown (below_grown ((hbl.alloc hbl.size _).alloc (by simp; have := hbl.size; omega) _) hg3 (by simp; have := hbl.size; omega) hbl.size) hg4 (by have := hbl.size; omega) (by have := hbl.size; omega)
  have k32 := (hX.cell 32).trans (Hart.cells_pc hXl).1
  rw [hXp] at k32
  clear hg3 hg4 hC hX hXl hXp hz2 hz3
  go_upto_region 4 with (fail)
  try go_simp
  clear k32
  have hAa := (hA.below hbl).mono hbl.size
  go_upto_region 5 with (first
    | (refine wpList_load_all rfl 51 _ rfl w.heap.size rfl 51 _ _ hH Try.underlying51 rfl (hart_info hh.len) ?_)
    | (go_at_call 35; (with_reducible refine (CS.out _ hAa).mono ?_); rintro e w5 ⟨A2, c2, rfl, hb2, hM2, hN2⟩; replace hbl := hbl.trans (hb2.mono hbl.size); replace hH := hH.ext hb2; clear hb2)
    | (refine wpList_store_all rfl 54 _ _ rfl w5.heap.size C.cells rfl rfl 54 _ ((Blk.new w5 _ _).alloc _) com_info rfl (cells_one C) ?_; intro w6 hC hg6)
    | (refine wpList_store_all rfl 51 _ _ rfl (w5.heap.size + 1) X.cells rfl rfl 51 _ ((Blk.newAt (w5.alloc _) _ _ (by simp)).grown hg6 (fun e => by injection e; omega)) (hart_info hgl) (by rw [Hart.cells_size hgl]; rfl) (hart_one X) ?_; intro w7 hX hg7))
  try go_simp
  have hz4 := hH.lt
  have hz6 := hg6.size
  have hz7 := hg7.size
  simp only [World.size_alloc] at hz6
  have hM7 : IntsAt w7 w5.heap.size .u8 A2 M := (hM2.below (((((Below.refl w5.heap.size w5).alloc (Nat.le_refl _) _).alloc (by simp) _).grown hg6 (by simp <;> omega) (fun k hk => by cases hk; exact Nat.le_refl _)).grown hg7 (by omega) (fun k hk => by cases hk; omega)))
  replace hC := hC.grown hg7 (fun e => by injection e; omega)
  replace hH := (((hH.alloc _).alloc _).grown hg6 (fun e => by injection e; omega)).grown hg7 (fun e => by injection e; omega)
  replace hbl := below_grown (below_grown ((hbl.alloc hbl.size _).alloc (by simp; have := hbl.size; omega) _) hg6 (by simp; have := hbl.size; omega) hbl.size) hg7 (by have := hbl.size; omega) (by have := hbl.size; omega)
  clear hg6 hg7 hAa CS CS0 hM2
  have c32 := (hH.cell 32).trans p1
  have k0 := (hC.cell 0).trans s0
  have k4 := (hC.cell 4).trans s4
  have k7 := (hC.cell 7).trans s7
  go_upto_region 9 with (first
    | (refine wpList_wanted rfl fun K hK => ?_; first
      | (refine wp_load_all 51 _ rfl (w5.heap.size + 1) rfl 51 _ _ hX Try.underlying51 rfl (hart_info hgl) ?_; refine hK _ _ ?_))
    | (go_at_call 33; (with_reducible refine (CM.out _).mono ?_); rintro e w8 ⟨rfl, hb8⟩; replace hbl := hbl.trans (hb8.mono hbl.size); replace hH := hH.ext hb8; replace hC := hC.ext hb8; replace hX := hX.ext hb8; replace hM7 := hM7.below (hb8.mono (by omega)); have hz8 := hb8.size; replace k4 := (hC.cell 4).trans s4; replace k7 := (hC.cell 7).trans s7; clear hb8))
  try go_simp
  clear f1 f2 f3 f4 f5 f6 k0 k4 k7 c32
  have hAa := (hA.below hbl).mono hbl.size
  go_upto_region 10 with (first
    | (refine wpList_load_all rfl 51 _ rfl w.heap.size rfl 51 _ _ hH Try.underlying51 rfl (hart_info hh.len) ?_)
    | (refine wpList_load_all rfl 54 _ rfl w5.heap.size rfl 54 _ _ hC Try.underlying54 rfl com_info ?_)
    | (go_at_call 38; (with_reducible refine (CR.out _ hAa).mono ?_); rintro e w9 ⟨A3, c3, rfl, hb9, hM9, hN9⟩; replace hbl := hbl.trans (hb9.mono hbl.size); replace hX := hX.ext hb9; replace hM7 := hM7.below (hb9.mono (by omega)); have hz9 := hb9.size; clear hb9)
    | (refine wpList_store_all rfl 51 _ _ rfl w9.heap.size X.cells rfl rfl 51 _ (Blk.new w9 _ _) (hart_info hgl) (by rw [Hart.cells_size hgl]; rfl) (hart_one X) ?_; intro w10 hY hg10))
  try go_simp
  have hz10 := hg10.size
  simp only [World.size_alloc] at hz10
  have hM10 : IntsAt w10 w9.heap.size .u8 A3 M := hM9.below (((Below.refl w9.heap.size w9).alloc (Nat.le_refl _) _).grown hg10 (by simp <;> omega) (fun k hk => by cases hk; exact Nat.le_refl _))
  have hM11 : IntsAt w10 w5.heap.size .u8 A2 M := hM7.below (((Below.refl w5.heap.size w9).alloc (by omega) _).grown hg10 (by simp <;> omega) (fun k hk => by cases hk; omega))
  replace hX := (hX.alloc (.cells hart0.cells 51)).grown hg10 (fun e => by injection e; have := hX.lt; omega)
  replace hbl := below_grown (hbl.alloc hbl.size (.cells hart0.cells 51)) hg10 (by have := hbl.size; simp <;> omega) (by have := hbl.size; omega)
  clear hg10 CR CM hM7 hM9 hAa
  go_wp2_with (first
    | (refine wpList_wanted rfl fun K hK => ?_; first
      | (refine wp_load_all 51 _ rfl (w5.heap.size + 1) rfl 51 _ _ hX Try.underlying51 rfl (hart_info hgl) ?_; refine hK _ _ ?_)
      | (refine wp_load_all 51 _ rfl w9.heap.size rfl 51 _ _ hY Try.underlying51 rfl (hart_info hgl) ?_; refine hK _ _ ?_)
      | (refine wp_eql_self 51 _ _ _ rfl X.cells rfl rfl hart_guard (EH.out _) ?_; refine hK _ _ ?_))
    | (go_at_call 37; (with_reducible refine (bytes_same A2 A3 c2 c3 M _ w5.heap.size w9.heap.size hM11 hN2 hM10 hN9).mono ?_); rintro e w12 ⟨rfl, rfl⟩))
  go_ret
  exact ⟨rfl, hbl⟩
end Go.Proofs.Ytapgojgcmlnbgab
