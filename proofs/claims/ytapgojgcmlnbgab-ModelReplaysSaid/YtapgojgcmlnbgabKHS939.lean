/- humpyardref4.Step: stores. Printed by gen_hartr.py. -/
import Derived.Test.YtapgojgcmlnbgabKHS931
set_option linter.unusedSimpArgs false
set_option linter.unusedVariables false

namespace Go.Proofs.Ytapgojgcmlnbgab
open Go.RowKit

theorem own_shape18 {w : World} {base : Nat} {e : TypeId} {size : Nat} {v : Value} {n : Nat} {xs : List Value} (h : w.ownsRow base e size v n xs) : ∃ A cap, v = .slice A n cap := by
  rcases h.2 with ⟨rfl, rfl⟩ | ⟨g, cap, cur, rfl, _⟩
  · exact ⟨_, _, rfl⟩
  · exact ⟨_, _, rfl⟩
set_option maxHeartbeats 4000000 in
set_option maxRecDepth 100000 in
theorem rstep_18 (i : Ins) (h : Hart) (A : Option Addr) (cap : Nat) (m : List Int) (w : World) (X : Com × Hart × List Int) (hh : h.Wf) (hst : h.state = 0) (hca : h.cause = 0) (hl : m.length ≤ 140737488351232) (hm : Bytes m) (hA : IntsAt w w.heap.size .u8 A m) (hnil : A = none → m = [])
    (hok : (loadP m 13 h.pc).2 = true) (hdec : decP (loadP m 13 h.pc).1 = some i) (hi : IsP i = true) (hX : rdoes i h m = X) (hop : i.op = 18) :
    Calls Try.prog 36 #[.agg h.cells, .slice A m.length cap] w (RPost w A m X) := by
  have Hop := Lib.hid hop
  clear hop
  obtain ⟨⟨o1, o2⟩, ⟨hd0, hd1⟩, ⟨ha0, ha1⟩, hb0, hb1⟩ := is_op hi
  have ra := hh.reg i.rs1
  have rb := hh.reg i.rs2
  have hx := loadP_bd hm 13 h.pc
  have CL := Lib.hid (fun W hW => refLoad_any A cap m 13 h.pc W hh.pc0 hh.pc1 (by omega) hm hW)
  obtain ⟨p1, p2, p3⟩ := Hart.cells_pc hh.len
  go_enter Try.func36, Try.ntmps36
  go_upto_region 1 with (fail)
  go_simp
  refine wp_gen fun wa hq => ?_
  have hH : Blk wa w.heap.size 51 h.cells := by rw [hq]; exact (Blk.new w _ _).alloc _
  have hR : Blk wa (w.heap.size + 1) 58 did0 := by rw [hq]; exact Blk.newAt (w.alloc _) 58 _ (by simp)
  have hbl : Below w.heap.size w wa := by rw [hq]; exact ((Below.refl _ _).alloc (Nat.le_refl _) _).alloc (by simp) _
  clear hq
  have c32 := (hH.cell 32).trans p1
  have hAa := (hA.below hbl).mono hbl.size
  generalize loadP m 13 h.pc = L at *
  obtain ⟨x, ok⟩ := L
  dsimp only at hok hdec CL hx
  subst hok
  have CD := Lib.hid (fun W => rdec_any x W hx.1 hx.2)
  have him := dec_imm hx.1 hx.2 hdec
  rw [hdec] at CD
  replace CD : Hid (∀ W, Calls Try.prog 27 #[.int .u32 x] W fun e w' => e = .returned (.tuple #[.agg i.cells, .bool true]) ∧ Below W.heap.size W w') := CD
  clear hdec hx hi
  obtain ⟨op, rd, rs1, rs2, imm⟩ := i
  dsimp only at o1 o2 hd0 hd1 ha0 ha1 hb0 hb1 ra rb him
  go_upto_region 7 with (first
    | (go_at_call 69; (with_reducible refine (CL.out _ hAa).mono ?_); rintro e w2 ⟨rfl, rfl⟩)
    | (go_at_call 27; (with_reducible refine (CD.out _).mono ?_); rintro e w3 ⟨rfl, hb3⟩))
  try go_simp
  refine wp_gen fun wb hq => ?_
  have hI : Blk wb w3.heap.size 40 (Ins.mk op rd rs1 rs2 imm).cells := by rw [hq]; exact Blk.new w3 _ _
  have hbb : Below wa.heap.size wa wb := by rw [hq]; exact hb3.alloc hb3.size _
  have hgI : wa.heap.size ≤ w3.heap.size := hb3.size
  generalize w3.heap.size = gI at *
  clear hq hb3 c32
  have hgW : w.heap.size + 1 < wa.heap.size := hR.lt
  replace hR := hR.ext hbb
  replace hH := hH.ext hbb
  replace hbl := hbl.trans (hbb.mono hbl.size)
  clear hAa
  have hgG : w.heap.size + 1 < gI := by omega
  clear hgI hgW hbb CL CD
  have c32 := (hH.cell 32).trans p1
  obtain ⟨r1, rfl⟩ := Int.eq_ofNat_of_zero_le ha0
  obtain ⟨r2, rfl⟩ := Int.eq_ofNat_of_zero_le hb0
  obtain ⟨rd, rfl⟩ := Int.eq_ofNat_of_zero_le hd0
  have er1 : h.cells[r1]? = some (.int .u32 (h.reg r1)) := Hart.cells_reg (by have := hh.len; omega)
  have er2 : h.cells[r2]? = some (.int .u32 (h.reg r2)) := Hart.cells_reg (by have := hh.len; omega)
  have cr1 := (hH.cell r1).trans er1
  have cr2 := (hH.cell r2).trans er2
  have d0 := hI.cell 0
  have d1 := hI.cell 1
  have d2 := hI.cell 2
  have d3 := hI.cell 3
  have d4 := hI.cell 4
  have hpc0 := hh.pc0
  have hpc1 := hh.pc1
  have CO := Lib.hid (fun W => of_any imm W (by omega) (by omega))
  have CS1 := Lib.hid (fun W => rsum_any h.pc 4 W hpc0 hpc1 (by omega) (by omega))
  have CS2 := Lib.hid (fun W => rsum_any (h.reg r1) (imm % 4294967296) W ra.1 ra.2 (by omega) (by omega))
  have CS3 := Lib.hid (fun W => rsum_any h.pc (imm % 4294967296) W hpc0 hpc1 (by omega) (by omega))
  have hth := u32_bd (h.reg r1 + imm % 4294967296)
  have hnx := u32_bd (h.pc + 4)
  have HX : Hid (rdoes ⟨op, rd, r1, r2, imm⟩ h m = X) := Lib.hid hX
  have hun : u32 imm = imm % 4294967296 := rfl
  have built_c : Try.prog.built 54 [(0, .int .u32 h.pc)] = some (Com.mk h.pc 0 0 0 0 0 0 0 0 false 0).cells := by kernel_rfl
  clear hX
  go_upto_region 13 with (first
    | (go_at_call 59; (with_reducible refine (CO.out _).mono ?_); rintro e w2 ⟨rfl, rfl⟩)
    | (go_at_call 71; (with_reducible refine (CS1.out _).mono ?_); rintro e w2 ⟨rfl, hb2⟩; replace hR := hR.ext hb2; replace hH := hH.ext hb2; replace hI := hI.ext hb2; replace hbl := hbl.trans (hb2.mono hbl.size); have c32 := (hH.cell 32).trans p1; have cr1 := (hH.cell r1).trans er1; have cr2 := (hH.cell r2).trans er2; have d0 := hI.cell 0; have d1 := hI.cell 1; have d4 := hI.cell 4; clear hb2)
    | (go_at_call 71; (with_reducible refine (CS2.out _).mono ?_); rintro e w2 ⟨rfl, hb2⟩; replace hR := hR.ext hb2; replace hH := hH.ext hb2; replace hI := hI.ext hb2; replace hbl := hbl.trans (hb2.mono hbl.size); have c32 := (hH.cell 32).trans p1; have cr1 := (hH.cell r1).trans er1; have cr2 := (hH.cell r2).trans er2; have d0 := hI.cell 0; have d1 := hI.cell 1; have d4 := hI.cell 4; clear hb2))
  try go_simp
  refine wp_gen fun wc hq => ?_
  have hC9 : Blk wc w2.heap.size 54 (Com.mk h.pc 0 0 0 0 0 0 0 0 false 0).cells := by rw [hq]; exact Blk.new w2 _ _
  have hI9 : Blk wc gI 40 (Ins.mk op rd r1 r2 imm).cells := by rw [hq]; exact hI.alloc _
  have hH9 : Blk wc w.heap.size 51 h.cells := by rw [hq]; exact hH.alloc _
  have hR9 : Blk wc (w.heap.size + 1) 58 did0 := by rw [hq]; exact hR.alloc _
  have hbl9 : Below w.heap.size w wc := by rw [hq]; exact hbl.alloc hbl.size _
  have hgC : gI < w2.heap.size := hI.lt
  generalize w2.heap.size = gC at *
  clear hq hI hH hR hbl CO CS1 CS2 c32 cr1 cr2 d0 d1 d2 d3 d4
  have d0 := hI9.cell 0
  have d1 := hI9.cell 1
  have c32 := (hH9.cell 32).trans p1
  generalize hthe : u32 (h.reg r1 + imm % 4294967296) = th at *
  generalize hnxe : u32 (h.pc + 4) = nx at *
  generalize hae : h.reg r1 = ra1 at *
  generalize hbe : h.reg r2 = rb1 at *
  obtain rfl : op = 18 := Hop.out
  clear Hop
  have CSN := Lib.hid (fun W ho => refStore_not A m.length cap 18 th rb1 W hth.1 hth.2 hl ho)
  have CSS := Lib.hid (fun W hW ho => refStore_ok A cap m 18 th rb1 W hth.1 hth.2 hl rb.1 rb.2 hW ho)
  have CZ : Hid (∀ W, Calls Try.prog 73 #[.int .i64 18, .bool true] W fun e w' => e = .returned (.int .i64 4) ∧ W = w') := Lib.hid (fun W => refSize_any 18 true W)
  have CPW : Hid (∀ W, Calls Try.prog 61 #[.int .i64 32] W fun e w' => e = .returned (.int .i64 4294967296) ∧ W = w') := Lib.hid (fun W => power_any 32 W (by omega))
  have hAa := (hA.below hbl9).mono hbl9.size
  have hX3 : X = if storeOk m.length 18 th = true then (Com.mk h.pc nx 0 0 0 0 th 4 (rb1) false 0, Hart.mk h.regs nx 0 0, putW m 18 th.toNat rb1) else rtrap h m 4 := by
    rw [← HX.out]
    unfold rdoes rdid
    simp [hun, hnxe, hthe, hae, hbe, sizeI]
  clear HX
  generalize hso : storeOk m.length 18 th = ok2 at *
  have HSO := Lib.hid hso
  clear hso
  rcases ok2 with _ | _
  · obtain rfl : X = rtrap h m 4 := hX3
    have hH := hH9
    have hR := hR9
    have hbl := hbl9
    clear CSS
    have CL := Lib.hid trivial
    have hdi := did_info (c := trapC h.pc 4) (h := ⟨h.regs, h.pc, 2, 4⟩) (v := .slice A m.length cap) hh.len
    have hds : (didC (trapC h.pc 4) ⟨h.regs, h.pc, 2, 4⟩ (.slice A m.length cap)).size = did0.size := by rw [didC_size (h := ⟨h.regs, h.pc, 2, 4⟩) hh.len]; rfl
    have hdo := did_one (trapC h.pc 4) ⟨h.regs, h.pc, 2, 4⟩ (v := .slice A m.length cap) rfl
    have CT := Lib.hid (fun W => rtrap_any h A m.length cap 4 W hh.len)
    obtain ⟨D, hD⟩ : ∃ D, D = didC (trapC h.pc 4) ⟨h.regs, h.pc, 2, 4⟩ (.slice A m.length cap) := ⟨_, rfl⟩
    rw [← hD] at hdi hds hdo CT
    have HD := Lib.hid hD
    clear hD
    go_wp2_with (first
      | (refine wpList_load_all rfl 51 _ rfl w.heap.size rfl 51 _ _ hH Try.underlying51 rfl (hart_info hh.len) ?_)
      | (go_at_call 69; (with_reducible refine (CL.out _ hAa).mono ?_); rintro e w2 ⟨rfl, rfl⟩)
      | (go_at_call 70; (with_reducible refine (CT.out _).mono ?_); rintro e w9 ⟨rfl, hb9⟩; replace hR := hR.ext hb9; replace hbl := hbl.trans (hb9.mono hbl.size))
      | (refine wpList_store_all rfl 58 _ _ rfl (w.heap.size + 1) D rfl rfl 58 _ hR hdi hds hdo ?_; intro w5 hB5 hg5)| (go_at_call 72; (with_reducible refine (CSN.out _ rfl).mono ?_); rintro e w2 ⟨rfl, rfl⟩))
    refine bodyPost_ret (v := .agg D) (results_blk rfl _ _ (w.heap.size + 1) 58 _ _ rfl hB5 Try.underlying58 rfl hdi) rfl ?_
    have hb5 := below_grown hbl hg5 hbl.size (Nat.le_succ _)
    exact ⟨A, cap, by rw [HD.out]; rfl, hb5, (hA.below hb5).mono hb5.size, hnil, Or.inr rfl⟩
  · obtain rfl : X = (Com.mk h.pc nx 0 0 0 0 th 4 (rb1) false 0, Hart.mk h.regs nx 0 0, putW m 18 th.toNat rb1) := hX3
    clear CSN
    have hg1 := hC9.lt
    have hg2 := hH9.lt
    have hg3 := hR9.lt
    go_upto_region 42 with (first
      | (go_at_call 72; (with_reducible refine (CSS.out _ hAa rfl).mono ?_); rintro e w2 ⟨v, rfl, hb2, hownS⟩; obtain ⟨A', cap', rfl⟩ := own_shape18 hownS; replace hC9 := hC9.ext hb2; replace hR9 := hR9.ext hb2; replace hH9 := hH9.ext hb2; replace hI9 := hI9.ext hb2; replace hbl9 := hbl9.trans (hb2.mono hbl9.size); clear d0 d1 c32; have d0 := hI9.cell 0; have d1 := hI9.cell 1; have c32 := (hH9.cell 32).trans p1; clear hb2)
      | (go_at_call 73; (with_reducible refine (CZ.out _).mono ?_); rintro e w3 ⟨rfl, rfl⟩))
    try go_simp
    have hF := far3_of gC w.heap.size (w.heap.size + 1) hC9
    clear hAa CSS
    have f6 := hC9.frozen 6
    have q6 := hC9.cell 6
    go_upto_region 43 with (fail)
    try go_simp
    replace hC9 := hC9.set 6 (.int .u32 th)
    replace hH9 := hH9.farAt (b := gC) (off := 6) (by omega) (.int .u32 th)
    replace hI9 := hI9.farAt (b := gC) (off := 6) (by omega) (.int .u32 th)
    replace hR9 := hR9.farAt (b := gC) (off := 6) (by omega) (.int .u32 th)
    replace hbl9 := below_set (b := gC) (off := 6) (u := .int .u32 th) (by omega) hbl9
    replace hF := hF.set (g := gC) (off := 6) (by omega) (.int .u32 th)
    clear f6 q6
    clear d0 d1 c32
    have d0 := hI9.cell 0
    have d1 := hI9.cell 1
    have c32 := (hH9.cell 32).trans p1
    have f7 := hC9.frozen 7
    have q7 := hC9.cell 7
    go_upto_region 44 with (fail)
    try go_simp
    replace hC9 := hC9.set 7 (.int .i64 4)
    replace hH9 := hH9.farAt (b := gC) (off := 7) (by omega) (.int .i64 4)
    replace hI9 := hI9.farAt (b := gC) (off := 7) (by omega) (.int .i64 4)
    replace hR9 := hR9.farAt (b := gC) (off := 7) (by omega) (.int .i64 4)
    replace hbl9 := below_set (b := gC) (off := 7) (u := .int .i64 4) (by omega) hbl9
    replace hF := hF.set (g := gC) (off := 7) (by omega) (.int .i64 4)
    clear f7 q7
    clear d0 d1 c32
    have d0 := hI9.cell 0
    have d1 := hI9.cell 1
    have c32 := (hH9.cell 32).trans p1
    have f8 := hC9.frozen 8
    have q8 := hC9.cell 8
    go_upto_region 66 with (fail)
    try go_simp
    replace hC9 := hC9.set 8 (.int .u32 rb1)
    replace hH9 := hH9.farAt (b := gC) (off := 8) (by omega) (.int .u32 rb1)
    replace hI9 := hI9.farAt (b := gC) (off := 8) (by omega) (.int .u32 rb1)
    replace hR9 := hR9.farAt (b := gC) (off := 8) (by omega) (.int .u32 rb1)
    replace hbl9 := below_set (b := gC) (off := 8) (u := .int .u32 rb1) (by omega) hbl9
    replace hF := hF.set (g := gC) (off := 8) (by omega) (.int .u32 rb1)
    clear f8 q8
    clear d0 d1 c32
    have d0 := hI9.cell 0
    have d1 := hI9.cell 1
    have c32 := (hH9.cell 32).trans p1
    clear d0 d1 c32
    have hb := did_built (Com.mk h.pc nx 0 0 0 0 th 4 (rb1) false 0) (Hart.mk h.regs nx 0 0) A' m.length cap' (by simpa using hh.len)
    have hdi := did_info (c := (Com.mk h.pc nx 0 0 0 0 th 4 (rb1) false 0)) (h := (Hart.mk h.regs nx 0 0)) (v := .slice A' m.length cap') (by simpa using hh.len)
    have hds : (didC (Com.mk h.pc nx 0 0 0 0 th 4 (rb1) false 0) (Hart.mk h.regs nx 0 0) (.slice A' m.length cap')).size = did0.size := by rw [didC_size (h := (Hart.mk h.regs nx 0 0)) (by simpa using hh.len)]; rfl
    have hdo := did_one (Com.mk h.pc nx 0 0 0 0 th 4 (rb1) false 0) (Hart.mk h.regs nx 0 0) (v := .slice A' m.length cap') rfl
    obtain ⟨D, hD⟩ : ∃ D, D = didC (Com.mk h.pc nx 0 0 0 0 th 4 (rb1) false 0) (Hart.mk h.regs nx 0 0) (.slice A' m.length cap') := ⟨_, rfl⟩
    rw [← hD] at hdi hds hdo hb
    have HD := Lib.hid hD
    clear hD
    obtain ⟨V, hV⟩ : ∃ V : Value, V = .agg ((Hart.mk h.regs nx 0 0) : Hart).cells := ⟨_, rfl⟩
    rw [← hV] at hb
    have HV := Lib.hid hV
    clear hV
    have f1 := hC9.frozen 1
    have q1 := hC9.cell 1
    go_upto_region 67 with (fail)
    try go_simp
    replace hC9 := hC9.set 1 (.int .u32 (nx))
    replace hH9 := hH9.farAt (b := gC) (off := 1) (by omega) (.int .u32 (nx))
    replace hR9 := hR9.farAt (b := gC) (off := 1) (by omega) (.int .u32 (nx))
    replace hbl9 := below_set (b := gC) (off := 1) (u := .int .u32 (nx)) (by omega) hbl9
    replace hF := hF.set (g := gC) (off := 1) (by omega) (.int .u32 (nx))
    clear f1 q1
    have f2 := hC9.frozen 2
    have q2 := hC9.cell 2
    have q33 := (hH9.cell 33).trans (Hart.cells_pc (h := h) (by simpa using hh.len)).2.1
    go_upto_region 68 with (fail)
    try go_simp
    replace hC9 := hC9.set 2 (.int .i64 0)
    replace hH9 := hH9.farAt (b := gC) (off := 2) (by omega) (.int .i64 0)
    replace hR9 := hR9.farAt (b := gC) (off := 2) (by omega) (.int .i64 0)
    replace hbl9 := below_set (b := gC) (off := 2) (u := .int .i64 0) (by omega) hbl9
    replace hF := hF.set (g := gC) (off := 2) (by omega) (.int .i64 0)
    clear f2 q2 q33
    have f32 := hH9.frozen 32
    have q32 := (hH9.cell 32).trans (Hart.cells_pc (h := h) (by simpa using hh.len)).1
    go_upto_region 69 with (fail)
    try go_simp
    replace hC9 := hC9.farAt (b := w.heap.size) (off := 32) (by omega) (.int .u32 (nx))
    replace hH9 := hH9.set 32 (.int .u32 (nx))
    rw [set32 (h := h) (by simpa using hh.len)] at hH9
    try simp only [hst, hca] at hH9
    replace hR9 := hR9.farAt (b := w.heap.size) (off := 32) (by omega) (.int .u32 (nx))
    replace hbl9 := below_set (b := w.heap.size) (off := 32) (u := .int .u32 (nx)) (by omega) hbl9
    replace hF := hF.set (g := w.heap.size) (off := 32) (by omega) (.int .u32 (nx))
    clear f32 q32
    go_step
    refine wpList_load_all rfl 54 _ rfl gC rfl 54 _ _ hC9 Try.underlying54 rfl com_info ?_
    simp only [Act.put, List.setIfInBounds_toArray, List.set_cons_succ, List.set_cons_zero]
    refine wpList_load_as V rfl 51 _ rfl w.heap.size rfl 51 _ _ hH9 Try.underlying51 rfl (hart_info (h := (Hart.mk h.regs nx 0 0)) (by simpa using hh.len)) HV.out ?_
    simp only [Act.put, List.setIfInBounds_toArray, List.set_cons_succ, List.set_cons_zero]
    refine wpList_move rfl _ rfl (.slice A' m.length cap') rfl ?_
    simp only [Act.put, List.setIfInBounds_toArray, List.set_cons_succ, List.set_cons_zero]
    refine wpList_build_to rfl 58 _ rfl [(0, .agg ((Com.mk h.pc nx 0 0 0 0 th 4 (rb1) false 0) : Com).cells), (1, V), (2, .slice A' m.length cap')] (by kernel_rfl) _ hb ?_
    simp only [Act.put, List.setIfInBounds_toArray, List.set_cons_succ, List.set_cons_zero]
    refine wpList_store_all rfl 58 _ _ rfl (w.heap.size + 1) D rfl rfl 58 _ hR9 hdi hds hdo ?_
    intro w5 hB5 hg5
    simp only [Act.put, List.setIfInBounds_toArray, List.set_cons_succ, List.set_cons_zero]
    go_wp2_with (fail)
    refine bodyPost_ret (v := .agg D) (results_blk rfl _ _ (w.heap.size + 1) 58 _ _ rfl hB5 Try.underlying58 rfl hdi) rfl ?_
    have hb5 := below_grown hbl9 hg5 hbl9.size (Nat.le_succ _)
    have hF5 := hF.grown hg5 (by omega)
    exact ⟨A', cap', by rw [HD.out], hb5, IntsAt.own (hF5.own hownS (by omega) (by omega) (by omega)), own_nil hownS, Or.inl (fun ad h => by subst h; have := (hownS.lt _ rfl).1; omega)⟩
end Go.Proofs.Ytapgojgcmlnbgab
