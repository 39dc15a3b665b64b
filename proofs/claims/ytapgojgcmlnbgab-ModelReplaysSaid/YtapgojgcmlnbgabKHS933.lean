/- humpyardref4.Step: branches. Printed by gen_hartr.py. -/
import Derived.Test.YtapgojgcmlnbgabKHS931
set_option linter.unusedSimpArgs false
set_option linter.unusedVariables false

namespace Go.Proofs.Ytapgojgcmlnbgab
open Go.RowKit

set_option maxHeartbeats 4000000 in
set_option maxRecDepth 100000 in
theorem rstep_branch (i : Ins) (h : Hart) (A : Option Addr) (cap : Nat) (m : List Int) (w : World) (X : Com × Hart × List Int) (hh : h.Wf) (hst : h.state = 0) (hca : h.cause = 0) (hl : m.length ≤ 140737488351232) (hm : Bytes m) (hA : IntsAt w w.heap.size .u8 A m) (hnil : A = none → m = [])
    (hok : (loadP m 13 h.pc).2 = true) (hdec : decP (loadP m 13 h.pc).1 = some i) (hi : IsP i = true) (hX : rdoes i h m = X) (hlo : 5 ≤ i.op) (hhi : i.op ≤ 10) :
    Calls Try.prog 36 #[.agg h.cells, .slice A m.length cap] w (RPost w A m X) := by
  have Hlo := Lib.hid hlo
  have Hhi := Lib.hid hhi
  clear hlo hhi
  obtain ⟨⟨o1, o2⟩, ⟨hd0, hd1⟩, ⟨ha0, ha1⟩, hb0, hb1⟩ := is_op hi
  have ra := hh.reg i.rs1
  have rb := hh.reg i.rs2
  have hx := loadP_bd hm 13 h.pc
  have CL := Lib.hid (fun W hW => refLoad_any A cap m 13 h.pc W hh.pc0 hh.pc1 (by omega) hm hW)
  obtain ⟨p1, p2, p3⟩ := Hart.cells_pc hh.len
  go_enter Try.func36, Try.ntmps36
  go_upto_region 1 with (fail)
  go_simp
  refine wp_gen fun wa hq => ?_
  have hH : Blk wa w.heap.size 51 h.cells := by rw [hq]; exact (Blk.new w _ _).alloc _
  have hR : Blk wa (w.heap.size + 1) 58 did0 := by rw [hq]; exact Blk.newAt (w.alloc _) 58 _ (by simp)
  have hbl : Below w.heap.size w wa := by rw [hq]; exact ((Below.refl _ _).alloc (Nat.le_refl _) _).alloc (by simp) _
  clear hq
  have c32 := (hH.cell 32).trans p1
  have hAa := (hA.below hbl).mono hbl.size
  generalize loadP m 13 h.pc = L at *
  obtain ⟨x, ok⟩ := L
  dsimp only at hok hdec CL hx
  subst hok
  have CD := Lib.hid (fun W => rdec_any x W hx.1 hx.2)
  have him := dec_imm hx.1 hx.2 hdec
  rw [hdec] at CD
  replace CD : Hid (∀ W, Calls Try.prog 27 #[.int .u32 x] W fun e w' => e = .returned (.tuple #[.agg i.cells, .bool true]) ∧ Below W.heap.size W w') := CD
  clear hdec hx hi
  obtain ⟨op, rd, rs1, rs2, imm⟩ := i
  dsimp only at o1 o2 hd0 hd1 ha0 ha1 hb0 hb1 ra rb him
  go_upto_region 7 with (first
    | (go_at_call 69; (with_reducible refine (CL.out _ hAa).mono ?_); rintro e w2 ⟨rfl, rfl⟩)
    | (go_at_call 27; (with_reducible refine (CD.out _).mono ?_); rintro e w3 ⟨rfl, hb3⟩))
  try go_simp
  refine wp_gen fun wb hq => ?_
  have hI : Blk wb w3.heap.size 40 (Ins.mk op rd rs1 rs2 imm).cells := by rw [hq]; exact Blk.new w3 _ _
  have hbb : Below wa.heap.size wa wb := by rw [hq]; exact hb3.alloc hb3.size _
  have hgI : wa.heap.size ≤ w3.heap.size := hb3.size
  generalize w3.heap.size = gI at *
  clear hq hb3 c32
  have hgW : w.heap.size + 1 < wa.heap.size := hR.lt
  replace hR := hR.ext hbb
  replace hH := hH.ext hbb
  replace hbl := hbl.trans (hbb.mono hbl.size)
  clear hAa
  have hgG : w.heap.size + 1 < gI := by omega
  clear hgI hgW hbb CL CD
  have c32 := (hH.cell 32).trans p1
  obtain ⟨r1, rfl⟩ := Int.eq_ofNat_of_zero_le ha0
  obtain ⟨r2, rfl⟩ := Int.eq_ofNat_of_zero_le hb0
  obtain ⟨rd, rfl⟩ := Int.eq_ofNat_of_zero_le hd0
  have er1 : h.cells[r1]? = some (.int .u32 (h.reg r1)) := Hart.cells_reg (by have := hh.len; omega)
  have er2 : h.cells[r2]? = some (.int .u32 (h.reg r2)) := Hart.cells_reg (by have := hh.len; omega)
  have cr1 := (hH.cell r1).trans er1
  have cr2 := (hH.cell r2).trans er2
  have d0 := hI.cell 0
  have d1 := hI.cell 1
  have d2 := hI.cell 2
  have d3 := hI.cell 3
  have d4 := hI.cell 4
  have hpc0 := hh.pc0
  have hpc1 := hh.pc1
  have CO := Lib.hid (fun W => of_any imm W (by omega) (by omega))
  have CS1 := Lib.hid (fun W => rsum_any h.pc 4 W hpc0 hpc1 (by omega) (by omega))
  have CS2 := Lib.hid (fun W => rsum_any (h.reg r1) (imm % 4294967296) W ra.1 ra.2 (by omega) (by omega))
  have CS3 := Lib.hid (fun W => rsum_any h.pc (imm % 4294967296) W hpc0 hpc1 (by omega) (by omega))
  have hth := u32_bd (h.reg r1 + imm % 4294967296)
  have hnx := u32_bd (h.pc + 4)
  have HX : Hid (rdoes ⟨op, rd, r1, r2, imm⟩ h m = X) := Lib.hid hX
  have hun : u32 imm = imm % 4294967296 := rfl
  have built_c : Try.prog.built 54 [(0, .int .u32 h.pc)] = some (Com.mk h.pc 0 0 0 0 0 0 0 0 false 0).cells := by kernel_rfl
  clear hX
  go_upto_region 13 with (first
    | (go_at_call 59; (with_reducible refine (CO.out _).mono ?_); rintro e w2 ⟨rfl, rfl⟩)
    | (go_at_call 71; (with_reducible refine (CS1.out _).mono ?_); rintro e w2 ⟨rfl, hb2⟩; replace hR := hR.ext hb2; replace hH := hH.ext hb2; replace hI := hI.ext hb2; replace hbl := hbl.trans (hb2.mono hbl.size); have c32 := (hH.cell 32).trans p1; have cr1 := (hH.cell r1).trans er1; have cr2 := (hH.cell r2).trans er2; have d0 := hI.cell 0; have d1 := hI.cell 1; have d4 := hI.cell 4; clear hb2)
    | (go_at_call 71; (with_reducible refine (CS2.out _).mono ?_); rintro e w2 ⟨rfl, hb2⟩; replace hR := hR.ext hb2; replace hH := hH.ext hb2; replace hI := hI.ext hb2; replace hbl := hbl.trans (hb2.mono hbl.size); have c32 := (hH.cell 32).trans p1; have cr1 := (hH.cell r1).trans er1; have cr2 := (hH.cell r2).trans er2; have d0 := hI.cell 0; have d1 := hI.cell 1; have d4 := hI.cell 4; clear hb2))
  try go_simp
  refine wp_gen fun wc hq => ?_
  have hC9 : Blk wc w2.heap.size 54 (Com.mk h.pc 0 0 0 0 0 0 0 0 false 0).cells := by rw [hq]; exact Blk.new w2 _ _
  have hI9 : Blk wc gI 40 (Ins.mk op rd r1 r2 imm).cells := by rw [hq]; exact hI.alloc _
  have hH9 : Blk wc w.heap.size 51 h.cells := by rw [hq]; exact hH.alloc _
  have hR9 : Blk wc (w.heap.size + 1) 58 did0 := by rw [hq]; exact hR.alloc _
  have hbl9 : Below w.heap.size w wc := by rw [hq]; exact hbl.alloc hbl.size _
  have hgC : gI < w2.heap.size := hI.lt
  generalize w2.heap.size = gC at *
  clear hq hI hH hR hbl CO CS1 CS2 c32 cr1 cr2 d0 d1 d2 d3 d4
  have d0 := hI9.cell 0
  have d1 := hI9.cell 1
  have c32 := (hH9.cell 32).trans p1
  generalize hthe : u32 (h.reg r1 + imm % 4294967296) = th at *
  generalize hnxe : u32 (h.pc + 4) = nx at *
  generalize hae : h.reg r1 = ra1 at *
  generalize hbe : h.reg r2 = rb1 at *
  have hlo : 5 ≤ op := Hlo.out
  have hhi : op ≤ 10 := Hhi.out
  have CH := Lib.hid (fun W => refHolds_any op ra1 rb1 W ra.1 ra.2 rb.1 rb.2)
  have hX2 : X = (Com.mk h.pc (if holdsP op ra1 rb1 = true then u32 (h.pc + imm % 4294967296) else nx) 0 0 0 0 0 0 0 false 0, Hart.mk h.regs (if holdsP op ra1 rb1 = true then u32 (h.pc + imm % 4294967296) else nx) 0 0, m) := by
    rw [← HX.out]
    unfold rdoes rdid; dsimp only; rw [if_neg (by omega), if_neg (by omega), if_neg (by omega), if_neg (by omega), if_pos (by omega)]; simp [hun, hnxe, hae, hbe]
  clear HX
  generalize holdsP op ra1 rb1 = hb1 at *
  clear Hlo Hhi
  have tt0 : (op == 1) = false := by first | exact decide_eq_true (by omega) | exact decide_eq_false (by omega) | (simp; omega)
  have tt1 : (op == 2) = false := by first | exact decide_eq_true (by omega) | exact decide_eq_false (by omega) | (simp; omega)
  have tt2 : (op == 3) = false := by first | exact decide_eq_true (by omega) | exact decide_eq_false (by omega) | (simp; omega)
  have tt3 : (op == 4) = false := by first | exact decide_eq_true (by omega) | exact decide_eq_false (by omega) | (simp; omega)
  have tt4 : decide (5 ≤ op) = true := by first | exact decide_eq_true (by omega) | exact decide_eq_false (by omega) | (simp; omega)
  have tt5 : decide (op ≤ 10) = true := by first | exact decide_eq_true (by omega) | exact decide_eq_false (by omega) | (simp; omega)
  rcases hb1 with _ | _
  · skip
    obtain rfl : X = (Com.mk h.pc (nx) 0 0 0 0 0 0 0 false 0, Hart.mk h.regs (nx) 0 0, m) := hX2
    go_upto_region 66 with (first | (go_at_call 30; (with_reducible refine (CH.out _).mono ?_); rintro e w2 ⟨rfl, rfl⟩) )
    try go_simp
    clear tt0 tt1 tt2 tt3 tt4 tt5
    have hF := far3_of gC w.heap.size (w.heap.size + 1) hC9
    have hb := did_built (Com.mk h.pc (nx) 0 0 0 0 0 0 0 false 0) (Hart.mk h.regs (nx) 0 0) A m.length cap (by simpa using hh.len)
    have hdi := did_info (c := (Com.mk h.pc (nx) 0 0 0 0 0 0 0 false 0)) (h := (Hart.mk h.regs (nx) 0 0)) (v := .slice A m.length cap) (by simpa using hh.len)
    have hds : (didC (Com.mk h.pc (nx) 0 0 0 0 0 0 0 false 0) (Hart.mk h.regs (nx) 0 0) (.slice A m.length cap)).size = did0.size := by rw [didC_size (h := (Hart.mk h.regs (nx) 0 0)) (by simpa using hh.len)]; rfl
    have hdo := did_one (Com.mk h.pc (nx) 0 0 0 0 0 0 0 false 0) (Hart.mk h.regs (nx) 0 0) (v := .slice A m.length cap) rfl
    obtain ⟨D, hD⟩ : ∃ D, D = didC (Com.mk h.pc (nx) 0 0 0 0 0 0 0 false 0) (Hart.mk h.regs (nx) 0 0) (.slice A m.length cap) := ⟨_, rfl⟩
    rw [← hD] at hdi hds hdo hb
    have HD := Lib.hid hD
    clear hD
    obtain ⟨V, hV⟩ : ∃ V : Value, V = .agg ((Hart.mk h.regs (nx) 0 0) : Hart).cells := ⟨_, rfl⟩
    rw [← hV] at hb
    have HV := Lib.hid hV
    clear hV
    have f1 := hC9.frozen 1
    have q1 := hC9.cell 1
    go_upto_region 67 with (fail)
    try go_simp
    replace hC9 := hC9.set 1 (.int .u32 (nx))
    replace hH9 := hH9.farAt (b := gC) (off := 1) (by omega) (.int .u32 (nx))
    replace hR9 := hR9.farAt (b := gC) (off := 1) (by omega) (.int .u32 (nx))
    replace hbl9 := below_set (b := gC) (off := 1) (u := .int .u32 (nx)) (by omega) hbl9
    replace hF := hF.set (g := gC) (off := 1) (by omega) (.int .u32 (nx))
    clear f1 q1
    have f2 := hC9.frozen 2
    have q2 := hC9.cell 2
    have q33 := (hH9.cell 33).trans (Hart.cells_pc (h := h) (by simpa using hh.len)).2.1
    go_upto_region 68 with (fail)
    try go_simp
    replace hC9 := hC9.set 2 (.int .i64 0)
    replace hH9 := hH9.farAt (b := gC) (off := 2) (by omega) (.int .i64 0)
    replace hR9 := hR9.farAt (b := gC) (off := 2) (by omega) (.int .i64 0)
    replace hbl9 := below_set (b := gC) (off := 2) (u := .int .i64 0) (by omega) hbl9
    replace hF := hF.set (g := gC) (off := 2) (by omega) (.int .i64 0)
    clear f2 q2 q33
    have f32 := hH9.frozen 32
    have q32 := (hH9.cell 32).trans (Hart.cells_pc (h := h) (by simpa using hh.len)).1
    go_upto_region 69 with (fail)
    try go_simp
    replace hC9 := hC9.farAt (b := w.heap.size) (off := 32) (by omega) (.int .u32 (nx))
    replace hH9 := hH9.set 32 (.int .u32 (nx))
    rw [set32 (h := h) (by simpa using hh.len)] at hH9
    try simp only [hst, hca] at hH9
    replace hR9 := hR9.farAt (b := w.heap.size) (off := 32) (by omega) (.int .u32 (nx))
    replace hbl9 := below_set (b := w.heap.size) (off := 32) (u := .int .u32 (nx)) (by omega) hbl9
    replace hF := hF.set (g := w.heap.size) (off := 32) (by omega) (.int .u32 (nx))
    clear f32 q32
    go_step
    refine wpList_load_all rfl 54 _ rfl gC rfl 54 _ _ hC9 Try.underlying54 rfl com_info ?_
    simp only [Act.put, List.setIfInBounds_toArray, List.set_cons_succ, List.set_cons_zero]
    refine wpList_load_as V rfl 51 _ rfl w.heap.size rfl 51 _ _ hH9 Try.underlying51 rfl (hart_info (h := (Hart.mk h.regs (nx) 0 0)) (by simpa using hh.len)) HV.out ?_
    simp only [Act.put, List.setIfInBounds_toArray, List.set_cons_succ, List.set_cons_zero]
    refine wpList_move rfl _ rfl (.slice A m.length cap) rfl ?_
    simp only [Act.put, List.setIfInBounds_toArray, List.set_cons_succ, List.set_cons_zero]
    refine wpList_build_to rfl 58 _ rfl [(0, .agg ((Com.mk h.pc (nx) 0 0 0 0 0 0 0 false 0) : Com).cells), (1, V), (2, .slice A m.length cap)] (by kernel_rfl) _ hb ?_
    simp only [Act.put, List.setIfInBounds_toArray, List.set_cons_succ, List.set_cons_zero]
    refine wpList_store_all rfl 58 _ _ rfl (w.heap.size + 1) D rfl rfl 58 _ hR9 hdi hds hdo ?_
    intro w5 hB5 hg5
    simp only [Act.put, List.setIfInBounds_toArray, List.set_cons_succ, List.set_cons_zero]
    go_wp2_with (fail)
    refine bodyPost_ret (v := .agg D) (results_blk rfl _ _ (w.heap.size + 1) 58 _ _ rfl hB5 Try.underlying58 rfl hdi) rfl ?_
    have hb5 := below_grown hbl9 hg5 hbl9.size (Nat.le_succ _)
    have hF5 := hF.grown hg5 (by omega)
    exact ⟨A, cap, by rw [HD.out], hb5, (hA.below hb5).mono hb5.size, hnil, Or.inr rfl⟩
  · skip
    obtain rfl : X = (Com.mk h.pc (u32 (h.pc + imm % 4294967296)) 0 0 0 0 0 0 0 false 0, Hart.mk h.regs (u32 (h.pc + imm % 4294967296)) 0 0, m) := hX2
    go_upto_region 66 with (first | (go_at_call 30; (with_reducible refine (CH.out _).mono ?_); rintro e w2 ⟨rfl, rfl⟩) | (go_at_call 71; (with_reducible refine (CS3.out _).mono ?_); rintro e w2 ⟨rfl, hb2⟩; replace hC9 := hC9.ext hb2; replace hR9 := hR9.ext hb2; replace hH9 := hH9.ext hb2; replace hI9 := hI9.ext hb2; replace hbl9 := hbl9.trans (hb2.mono hbl9.size); clear d0 d1 c32; have d0 := hI9.cell 0; have d1 := hI9.cell 1; have c32 := (hH9.cell 32).trans p1; clear hb2))
    try go_simp
    clear tt0 tt1 tt2 tt3 tt4 tt5
    have hF := far3_of gC w.heap.size (w.heap.size + 1) hC9
    have hb := did_built (Com.mk h.pc (u32 (h.pc + imm % 4294967296)) 0 0 0 0 0 0 0 false 0) (Hart.mk h.regs (u32 (h.pc + imm % 4294967296)) 0 0) A m.length cap (by simpa using hh.len)
    have hdi := did_info (c := (Com.mk h.pc (u32 (h.pc + imm % 4294967296)) 0 0 0 0 0 0 0 false 0)) (h := (Hart.mk h.regs (u32 (h.pc + imm % 4294967296)) 0 0)) (v := .slice A m.length cap) (by simpa using hh.len)
    have hds : (didC (Com.mk h.pc (u32 (h.pc + imm % 4294967296)) 0 0 0 0 0 0 0 false 0) (Hart.mk h.regs (u32 (h.pc + imm % 4294967296)) 0 0) (.slice A m.length cap)).size = did0.size := by rw [didC_size (h := (Hart.mk h.regs (u32 (h.pc + imm % 4294967296)) 0 0)) (by simpa using hh.len)]; rfl
    have hdo := did_one (Com.mk h.pc (u32 (h.pc + imm % 4294967296)) 0 0 0 0 0 0 0 false 0) (Hart.mk h.regs (u32 (h.pc + imm % 4294967296)) 0 0) (v := .slice A m.length cap) rfl
    obtain ⟨D, hD⟩ : ∃ D, D = didC (Com.mk h.pc (u32 (h.pc + imm % 4294967296)) 0 0 0 0 0 0 0 false 0) (Hart.mk h.regs (u32 (h.pc + imm % 4294967296)) 0 0) (.slice A m.length cap) := ⟨_, rfl⟩
    rw [← hD] at hdi hds hdo hb
    have HD := Lib.hid hD
    clear hD
    obtain ⟨V, hV⟩ : ∃ V : Value, V = .agg ((Hart.mk h.regs (u32 (h.pc + imm % 4294967296)) 0 0) : Hart).cells := ⟨_, rfl⟩
    rw [← hV] at hb
    have HV := Lib.hid hV
    clear hV
    have f1 := hC9.frozen 1
    have q1 := hC9.cell 1
    go_upto_region 67 with (fail)
    try go_simp
    replace hC9 := hC9.set 1 (.int .u32 (u32 (h.pc + imm % 4294967296)))
    replace hH9 := hH9.farAt (b := gC) (off := 1) (by omega) (.int .u32 (u32 (h.pc + imm % 4294967296)))
    replace hR9 := hR9.farAt (b := gC) (off := 1) (by omega) (.int .u32 (u32 (h.pc + imm % 4294967296)))
    replace hbl9 := below_set (b := gC) (off := 1) (u := .int .u32 (u32 (h.pc + imm % 4294967296))) (by omega) hbl9
    replace hF := hF.set (g := gC) (off := 1) (by omega) (.int .u32 (u32 (h.pc + imm % 4294967296)))
    clear f1 q1
    have f2 := hC9.frozen 2
    have q2 := hC9.cell 2
    have q33 := (hH9.cell 33).trans (Hart.cells_pc (h := h) (by simpa using hh.len)).2.1
    go_upto_region 68 with (fail)
    try go_simp
    replace hC9 := hC9.set 2 (.int .i64 0)
    replace hH9 := hH9.farAt (b := gC) (off := 2) (by omega) (.int .i64 0)
    replace hR9 := hR9.farAt (b := gC) (off := 2) (by omega) (.int .i64 0)
    replace hbl9 := below_set (b := gC) (off := 2) (u := .int .i64 0) (by omega) hbl9
    replace hF := hF.set (g := gC) (off := 2) (by omega) (.int .i64 0)
    clear f2 q2 q33
    have f32 := hH9.frozen 32
    have q32 := (hH9.cell 32).trans (Hart.cells_pc (h := h) (by simpa using hh.len)).1
    go_upto_region 69 with (fail)
    try go_simp
    replace hC9 := hC9.farAt (b := w.heap.size) (off := 32) (by omega) (.int .u32 (u32 (h.pc + imm % 4294967296)))
    replace hH9 := hH9.set 32 (.int .u32 (u32 (h.pc + imm % 4294967296)))
    rw [set32 (h := h) (by simpa using hh.len)] at hH9
    try simp only [hst, hca] at hH9
    replace hR9 := hR9.farAt (b := w.heap.size) (off := 32) (by omega) (.int .u32 (u32 (h.pc + imm % 4294967296)))
    replace hbl9 := below_set (b := w.heap.size) (off := 32) (u := .int .u32 (u32 (h.pc + imm % 4294967296))) (by omega) hbl9
    replace hF := hF.set (g := w.heap.size) (off := 32) (by omega) (.int .u32 (u32 (h.pc + imm % 4294967296)))
    clear f32 q32
    go_step
    refine wpList_load_all rfl 54 _ rfl gC rfl 54 _ _ hC9 Try.underlying54 rfl com_info ?_
    simp only [Act.put, List.setIfInBounds_toArray, List.set_cons_succ, List.set_cons_zero]
    refine wpList_load_as V rfl 51 _ rfl w.heap.size rfl 51 _ _ hH9 Try.underlying51 rfl (hart_info (h := (Hart.mk h.regs (u32 (h.pc + imm % 4294967296)) 0 0)) (by simpa using hh.len)) HV.out ?_
    simp only [Act.put, List.setIfInBounds_toArray, List.set_cons_succ, List.set_cons_zero]
    refine wpList_move rfl _ rfl (.slice A m.length cap) rfl ?_
    simp only [Act.put, List.setIfInBounds_toArray, List.set_cons_succ, List.set_cons_zero]
    refine wpList_build_to rfl 58 _ rfl [(0, .agg ((Com.mk h.pc (u32 (h.pc + imm % 4294967296)) 0 0 0 0 0 0 0 false 0) : Com).cells), (1, V), (2, .slice A m.length cap)] (by kernel_rfl) _ hb ?_
    simp only [Act.put, List.setIfInBounds_toArray, List.set_cons_succ, List.set_cons_zero]
    refine wpList_store_all rfl 58 _ _ rfl (w.heap.size + 1) D rfl rfl 58 _ hR9 hdi hds hdo ?_
    intro w5 hB5 hg5
    simp only [Act.put, List.setIfInBounds_toArray, List.set_cons_succ, List.set_cons_zero]
    go_wp2_with (fail)
    refine bodyPost_ret (v := .agg D) (results_blk rfl _ _ (w.heap.size + 1) 58 _ _ rfl hB5 Try.underlying58 rfl hdi) rfl ?_
    have hb5 := below_grown hbl9 hg5 hbl9.size (Nat.le_succ _)
    have hF5 := hF.grown hg5 (by omega)
    exact ⟨A, cap, by rw [HD.out], hb5, (hA.below hb5).mono hb5.size, hnil, Or.inr rfl⟩
end Go.Proofs.Ytapgojgcmlnbgab
