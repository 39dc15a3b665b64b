/- humpyardref4: its small functions. -/
import Derived.Test.YtapgojgcmlnbgabKHS924
import Derived.Test.YtapgojgcmlnbgabKHS926
import Derived.Test.YtapgojgcmlnbgabKHS925
import Derived.Test.YtapgojgcmlnbgabKHS927
import Derived.Test.YtapgojgcmlnbgabKHS930
set_option linter.unusedSimpArgs false
set_option linter.unusedVariables false

namespace Go.Proofs.Ytapgojgcmlnbgab
open Go.RowKit

theorem find_read (w : Int) : ∀ (n : Nat) (op : Int) (i : Ins), findP w n op = some i → ∃ op form, i = readP op form w
  | 0, _, _, h => by cases h
  | n + 1, op, i, h => by
    have e : findP w (n + 1) op = match kindP op with
      | some k => if tellsB k w = true then some (readP op k.form w) else findP w n (op + 1)
      | none => findP w n (op + 1) := rfl
    rw [e] at h
    split at h
    · split at h
      · exact ⟨_, _, (Option.some.inj h).symm⟩
      · exact find_read w n _ i h
    · exact find_read w n _ i h
theorem dec_imm {w : Int} {i : Ins} (w0 : 0 ≤ w) (w1 : w ≤ 4294967295) (h : decP w = some i) : -2147483648 ≤ i.imm ∧ i.imm ≤ 2147483647 := by
  obtain ⟨op, form, rfl⟩ := find_read w 48 1 i h
  have b1 := cut_hi w 31 31 2 rfl
  have b2 := cut_hi w 12 19 256 rfl
  have b3 := cut_hi w 20 20 2 rfl
  have b4 := cut_hi w 21 30 1024 rfl
  have b5 := cut_hi w 20 31 4096 rfl
  have b6 := cut_hi w 20 24 32 rfl
  have b7 := cut_hi w 7 7 2 rfl
  have b8 := cut_hi w 25 30 64 rfl
  have b9 := cut_hi w 8 11 16 rfl
  have b10 := cut_hi w 25 31 128 rfl
  have b11 := cut_hi w 7 11 32 rfl
  have b12 := cut_hi w 0 11 4096 rfl
  have b13 : cutI w 0 11 ≤ w := by
    have : cutI w 0 11 = w / 1 % 4096 := cut_eq w 0 11 1 4096 rfl rfl
    omega
  unfold readP
  dsimp only
  (repeat' split) <;> (try unfold sgnI) <;> (try split) <;> simp <;> omega

theorem aluP_add (a b : Int) : aluP 28 a b = u32 (a + b) := rfl
set_option maxRecDepth 100000 in
theorem rsum_any (a b : Int) (w : World) (ha0 : 0 ≤ a) (ha1 : a ≤ 4294967295) (hb0 : 0 ≤ b) (hb1 : b ≤ 4294967295) :
    Calls Try.prog 71 #[.int .u32 a, .int .u32 b] w fun e w' => e = .returned (.int .u32 (u32 (a + b))) ∧ Below w.heap.size w w' := by
  have CA := Lib.hid (fun W => refAlu_any 28 a b W ha0 ha1 hb0 hb1)
  rw [aluP_add] at CA
  generalize u32 (a + b) = x at *
  go_enter Try.func71, Try.ntmps71
  go_wp2_with (go_at_call 29; (with_reducible refine (CA.out _).mono ?_); rintro e w2 ⟨rfl, hb2⟩)
  go_ret
  exact ⟨rfl, hb2⟩
set_option maxHeartbeats 1000000 in
set_option maxRecDepth 100000 in
theorem operation_any (op : Int) (w : World) (h : 19 ≤ op ∧ op ≤ 27) : Calls Try.prog 74 #[.int .i64 op] w fun e w' => e = .returned (.int .i64 (immOp op)) ∧ w = w' := by
  obtain rfl | rfl | rfl | rfl | rfl | rfl | rfl | rfl | rfl : op = 19 ∨ op = 20 ∨ op = 21 ∨ op = 22 ∨ op = 23 ∨ op = 24 ∨ op = 25 ∨ op = 26 ∨ op = 27 := by omega
  all_goals
    go_enter Try.func74, Try.ntmps74
    go_wp2
    go_ret
    exact ⟨rfl, rfl⟩
/-- What an instruction did: the commit, the hart, the memory. -/
def didC (c : Com) (h : Hart) (v : Value) : Array Value := (c.cells.toList ++ h.cells.toList ++ [v]).toArray
theorem didC_size {c : Com} {h : Hart} {v : Value} (hl : h.regs.length = 32) : (didC c h v).size = 47 := by
  unfold didC
  simp [Hart.cells, hl]
theorem len_succ {α : Type} {n : Nat} {l : List α} (h : l.length = n + 1) : ∃ a t, l = a :: t ∧ t.length = n := by
  cases l with
  | nil => cases h
  | cons a t => exact ⟨a, t, rfl, by simpa using h⟩
set_option maxRecDepth 100000 in
theorem did_built (c : Com) (h : Hart) (A : Option Addr) (n cap : Nat) (hl : h.regs.length = 32) : Try.prog.built 58 [(0, .agg c.cells), (1, .agg h.cells), (2, .slice A n cap)] = some (didC c h (.slice A n cap)) := by
  obtain ⟨regs, pc, st, ca⟩ := h
  obtain ⟨c0, c1, c2, c3, c4, c5, c6, c7, c8, c9, c10⟩ := c
  dsimp only at hl
  have l0 := hl
  obtain ⟨x0, t0, e0, l1⟩ := len_succ l0
  obtain ⟨x1, t1, e1, l2⟩ := len_succ l1
  obtain ⟨x2, t2, e2, l3⟩ := len_succ l2
  obtain ⟨x3, t3, e3, l4⟩ := len_succ l3
  obtain ⟨x4, t4, e4, l5⟩ := len_succ l4
  obtain ⟨x5, t5, e5, l6⟩ := len_succ l5
  obtain ⟨x6, t6, e6, l7⟩ := len_succ l6
  obtain ⟨x7, t7, e7, l8⟩ := len_succ l7
  obtain ⟨x8, t8, e8, l9⟩ := len_succ l8
  obtain ⟨x9, t9, e9, l10⟩ := len_succ l9
  obtain ⟨x10, t10, e10, l11⟩ := len_succ l10
  obtain ⟨x11, t11, e11, l12⟩ := len_succ l11
  obtain ⟨x12, t12, e12, l13⟩ := len_succ l12
  obtain ⟨x13, t13, e13, l14⟩ := len_succ l13
  obtain ⟨x14, t14, e14, l15⟩ := len_succ l14
  obtain ⟨x15, t15, e15, l16⟩ := len_succ l15
  obtain ⟨x16, t16, e16, l17⟩ := len_succ l16
  obtain ⟨x17, t17, e17, l18⟩ := len_succ l17
  obtain ⟨x18, t18, e18, l19⟩ := len_succ l18
  obtain ⟨x19, t19, e19, l20⟩ := len_succ l19
  obtain ⟨x20, t20, e20, l21⟩ := len_succ l20
  obtain ⟨x21, t21, e21, l22⟩ := len_succ l21
  obtain ⟨x22, t22, e22, l23⟩ := len_succ l22
  obtain ⟨x23, t23, e23, l24⟩ := len_succ l23
  obtain ⟨x24, t24, e24, l25⟩ := len_succ l24
  obtain ⟨x25, t25, e25, l26⟩ := len_succ l25
  obtain ⟨x26, t26, e26, l27⟩ := len_succ l26
  obtain ⟨x27, t27, e27, l28⟩ := len_succ l27
  obtain ⟨x28, t28, e28, l29⟩ := len_succ l28
  obtain ⟨x29, t29, e29, l30⟩ := len_succ l29
  obtain ⟨x30, t30, e30, l31⟩ := len_succ l30
  obtain ⟨x31, t31, e31, l32⟩ := len_succ l31
  obtain rfl := List.eq_nil_of_length_eq_zero l32
  subst e31
  subst e30
  subst e29
  subst e28
  subst e27
  subst e26
  subst e25
  subst e24
  subst e23
  subst e22
  subst e21
  subst e20
  subst e19
  subst e18
  subst e17
  subst e16
  subst e15
  subst e14
  subst e13
  subst e12
  subst e11
  subst e10
  subst e9
  subst e8
  subst e7
  subst e6
  subst e5
  subst e4
  subst e3
  subst e2
  subst e1
  subst e0
  show Program.built _ _ _ = some _
  kernel_rfl
theorem did_one (c : Com) (h : Hart) {v : Value} (hv : v.oneCell' = true) : (didC c h v).all (·.oneCell') = true := by
  rw [Array.all_eq_true_iff_forall_mem]
  intro x hx
  unfold didC at hx
  simp only [List.mem_toArray, List.mem_append, List.mem_cons, List.not_mem_nil, or_false] at hx
  rcases hx with (hx | hx) | rfl
  · have := cells_one c
    rw [Array.all_eq_true_iff_forall_mem] at this
    exact this x (by simpa using hx)
  · have := hart_one h
    rw [Array.all_eq_true_iff_forall_mem] at this
    exact this x (by simpa using hx)
  · exact hv
theorem did_info {c : Com} {h : Hart} {v : Value} (hl : h.regs.length = 32) : (Try.prog.info? 58).map (·.size) = some (didC c h v).size := by rw [didC_size hl]; kernel_rfl
theorem set33 {h : Hart} (hl : h.regs.length = 32) (s : Int) : h.cells.setIfInBounds 33 (.int .i64 s) = (⟨h.regs, h.pc, s, h.cause⟩ : Hart).cells := by
  unfold Hart.cells
  simp [List.setIfInBounds_toArray, List.set_append, hl]
theorem set34 {h : Hart} (hl : h.regs.length = 32) (s : Int) : h.cells.setIfInBounds 34 (.int .i64 s) = (⟨h.regs, h.pc, h.state, s⟩ : Hart).cells := by
  unfold Hart.cells
  simp [List.setIfInBounds_toArray, List.set_append, hl]
theorem set32 {h : Hart} (hl : h.regs.length = 32) (s : Int) : h.cells.setIfInBounds 32 (.int .u32 s) = (⟨h.regs, s, h.state, h.cause⟩ : Hart).cells := by
  unfold Hart.cells
  simp [List.setIfInBounds_toArray, List.set_append, hl]
theorem setR {h : Hart} {k : Nat} (hk : k < h.regs.length) (s : Int) : h.cells.setIfInBounds k (.int .u32 s) = (⟨h.regs.set k s, h.pc, h.state, h.cause⟩ : Hart).cells := by
  unfold Hart.cells
  simp [List.setIfInBounds_toArray, List.set_append, hk, List.map_set]
end Go.Proofs.Ytapgojgcmlnbgab

/- humpyardref4.trap. -/
namespace Go.Proofs.Ytapgojgcmlnbgab
open Go.RowKit

theorem wpList_load_as {P : Program} {ops : Array Oper} {rest : List Oper} {o : Oper} {a : Act} {w : World} {Q : Exit → Act → World → Prop} (V : Value) (hgd : o.guard = none) (ty : TypeId) (x : Operand) (ho : o.op = .load ty x) (g : Nat) (hx : a.eval x = .pointer (some ⟨g, 0, none⟩)) (t : TypeId) (cs : Array Value) (d : TypeDesc) (hg : Blk w g t cs)
    (hu : P.underlying ty = some d) (hd : (match d with | .struct _ | .array _ _ => true | _ => false) = true) (hi : (P.info? ty).map (·.size) = some cs.size) (hV : V = .agg cs)
    (h : wpList P ops Q rest (a.put o.dst V) w) : wpList P ops Q (o :: rest) a w := by
  subst hV
  exact wpList_load_all hgd ty x ho g hx t cs d hg hu hd hi h
theorem wpList_move {P : Program} {ops : Array Oper} {rest : List Oper} {o : Oper} {a : Act} {w : World} {Q : Exit → Act → World → Prop} (hgd : o.guard = none) (x : Operand) (ho : o.op = .move x) (v : Value) (hv : a.eval x = v)
    (h : wpList P ops Q rest (a.put o.dst v) w) : wpList P ops Q (o :: rest) a w :=
  wpList_plain hgd fun K hK => by
    unfold Oper.wp execOp
    simp only [ho, hv, Sem.run_pure]
    exact hK _ _ h
def did0 : Array Value := didC com0 hart0 (.slice none 0 0)
set_option maxHeartbeats 1000000 in
set_option maxRecDepth 100000 in
theorem rtrap_any (h : Hart) (A : Option Addr) (n cap : Nat) (cause : Int) (w : World) (hl : h.regs.length = 32) :
    Calls Try.prog 70 #[.agg h.cells, .slice A n cap, .int .i64 cause] w fun e w' => e = .returned (.agg (didC (trapC h.pc cause) ⟨h.regs, h.pc, 2, cause⟩ (.slice A n cap))) ∧ Below w.heap.size w w' := by
  have hb := did_built (trapC h.pc cause) ⟨h.regs, h.pc, 2, cause⟩ A n cap hl
  have hdi := did_info (c := trapC h.pc cause) (h := ⟨h.regs, h.pc, 2, cause⟩) (v := .slice A n cap) hl
  have hds : (didC (trapC h.pc cause) ⟨h.regs, h.pc, 2, cause⟩ (.slice A n cap)).size = did0.size := by rw [didC_size (h := ⟨h.regs, h.pc, 2, cause⟩) hl]; rfl
  have hdo := did_one (trapC h.pc cause) ⟨h.regs, h.pc, 2, cause⟩ (v := .slice A n cap) rfl
  generalize didC (trapC h.pc cause) ⟨h.regs, h.pc, 2, cause⟩ (.slice A n cap) = D at *
  obtain ⟨V, hV⟩ : ∃ V : Value, V = .agg (⟨h.regs, h.pc, 2, cause⟩ : Hart).cells := ⟨_, rfl⟩
  rw [← hV] at hb
  have HV := Lib.hid hV
  clear hV
  have built_c : Try.prog.built 54 [(0, .int .u32 h.pc), (1, .int .u32 h.pc), (2, .int .i64 2), (3, .int .i64 cause)] = some (trapC h.pc cause).cells := by kernel_rfl
  go_enter Try.func70, Try.ntmps70
  go_upto_region 1 with (fail)
  go_simp
  refine wp_gen fun wa hq => ?_
  have hH : Blk wa w.heap.size 51 h.cells := by rw [hq]; exact (Blk.new w _ _).alloc _
  have hR : Blk wa (w.heap.size + 1) 58 did0 := by rw [hq]; exact Blk.newAt (w.alloc _) 58 _ (by simp)
  have hbl : Below w.heap.size w wa := by rw [hq]; exact ((Below.refl _ _).alloc (Nat.le_refl _) _).alloc (by simp) _
  clear hq
  obtain ⟨p1, p2, p3⟩ := Hart.cells_pc hl
  have c32 := (hH.cell 32).trans p1
  have c33 := (hH.cell 33).trans p2
  have c34 := (hH.cell 34).trans p3
  have f33 := hH.frozen 33
  have f34 := hH.frozen 34
  have hH2 := ((hH.set 33 (.int .i64 2)).set 34 (.int .i64 cause))
  rw [set33 hl, set34 (h := ⟨h.regs, h.pc, 2, h.cause⟩) hl] at hH2
  have hR2 := (hR.farAt (b := w.heap.size) (off := 33) (by omega) (.int .i64 2)).farAt (b := w.heap.size) (off := 34) (by omega) (.int .i64 cause)
  have hbl2 := below_set (b := w.heap.size) (off := 34) (u := .int .i64 cause) (Nat.le_refl _) (below_set (b := w.heap.size) (off := 33) (u := .int .i64 2) (Nat.le_refl _) hbl)
  clear p1 p2 p3
  go_upto_region 4 with (fail)
  try go_simp
  go_step
  refine wpList_move rfl _ rfl (.int .u32 h.pc) rfl ?_
  simp only [Act.put, List.setIfInBounds_toArray, List.set_cons_succ, List.set_cons_zero]
  refine wpList_move rfl _ rfl (.int .u32 h.pc) rfl ?_
  simp only [Act.put, List.setIfInBounds_toArray, List.set_cons_succ, List.set_cons_zero]
  refine wpList_move rfl _ rfl (.int .i64 cause) rfl ?_
  simp only [Act.put, List.setIfInBounds_toArray, List.set_cons_succ, List.set_cons_zero]
  refine wpList_build_to rfl 54 _ rfl [(0, .int .u32 h.pc), (1, .int .u32 h.pc), (2, .int .i64 2), (3, .int .i64 cause)] (by kernel_rfl) _ built_c ?_
  simp only [Act.put, List.setIfInBounds_toArray, List.set_cons_succ, List.set_cons_zero]
  refine wpList_load_as V rfl 51 _ rfl w.heap.size rfl 51 _ _ hH2 Try.underlying51 rfl (hart_info (h := ⟨h.regs, h.pc, 2, cause⟩) hl) HV.out ?_
  simp only [Act.put, List.setIfInBounds_toArray, List.set_cons_succ, List.set_cons_zero]
  refine wpList_move rfl _ rfl (.slice A n cap) rfl ?_
  simp only [Act.put, List.setIfInBounds_toArray, List.set_cons_succ, List.set_cons_zero]
  refine wpList_build_to rfl 58 _ rfl [(0, .agg (trapC h.pc cause).cells), (1, V), (2, .slice A n cap)] (by kernel_rfl) _ hb ?_
  simp only [Act.put, List.setIfInBounds_toArray, List.set_cons_succ, List.set_cons_zero]
  refine wpList_store_all rfl 58 _ _ rfl (w.heap.size + 1) D rfl rfl 58 _ hR2 hdi hds hdo ?_
  intro w5 hB5 hg5
  simp only [Act.put, List.setIfInBounds_toArray, List.set_cons_succ, List.set_cons_zero]
  go_wp2_with (fail)
  exact bodyPost_ret (v := .agg D) (results_blk rfl _ _ (w.heap.size + 1) 58 _ _ rfl hB5 Try.underlying58 rfl hdi) rfl ⟨rfl, below_grown hbl2 hg5 hbl2.size (Nat.le_succ _)⟩
end Go.Proofs.Ytapgojgcmlnbgab

/- humpyardref4.Step: what fails; loads. -/
namespace Go.Proofs.Ytapgojgcmlnbgab
open Go.RowKit

/-- What Step of the document returns. -/
def RPost (w : World) (A0 : Option Addr) (m : List Int) (R : Com × Hart × List Int) (e : Ending) (w' : World) : Prop :=
  ∃ A cap, e = .returned (.agg (didC R.1 R.2.1 (.slice A m.length cap))) ∧ Below w.heap.size w w' ∧ IntsAt w' w'.heap.size .u8 A R.2.2 ∧ (A = none → R.2.2 = []) ∧ ((∀ ad, A = some ad → w.heap.size ≤ ad.block) ∨ A = A0)
set_option maxHeartbeats 2000000 in
set_option maxRecDepth 100000 in
theorem rstep_load (h : Hart) (A : Option Addr) (cap : Nat) (m : List Int) (w : World) (hh : h.Wf) (hl : m.length ≤ 140737488351232) (hm : Bytes m) (hA : IntsAt w w.heap.size .u8 A m) (hnil : A = none → m = [])
    (hno : (loadP m 13 h.pc).2 = false) :
    Calls Try.prog 36 #[.agg h.cells, .slice A m.length cap] w (RPost w A m (rtrap h m 1)) := by
  have CL := Lib.hid (fun W hW => refLoad_any A cap m 13 h.pc W hh.pc0 hh.pc1 (by omega) hm hW)
  obtain ⟨p1, p2, p3⟩ := Hart.cells_pc hh.len
  go_enter Try.func36, Try.ntmps36
  go_upto_region 1 with (fail)
  go_simp
  refine wp_gen fun wa hq => ?_
  have hH : Blk wa w.heap.size 51 h.cells := by rw [hq]; exact (Blk.new w _ _).alloc _
  have hR : Blk wa (w.heap.size + 1) 58 did0 := by rw [hq]; exact Blk.newAt (w.alloc _) 58 _ (by simp)
  have hbl : Below w.heap.size w wa := by rw [hq]; exact ((Below.refl _ _).alloc (Nat.le_refl _) _).alloc (by simp) _
  clear hq
  have c32 := (hH.cell 32).trans p1
  have hAa := (hA.below hbl).mono hbl.size
  generalize loadP m 13 h.pc = L at *
  obtain ⟨x, ok⟩ := L
  dsimp only at hno CL
  subst hno
  have hdi := did_info (c := trapC h.pc 1) (h := ⟨h.regs, h.pc, 2, 1⟩) (v := .slice A m.length cap) hh.len
  have hds : (didC (trapC h.pc 1) ⟨h.regs, h.pc, 2, 1⟩ (.slice A m.length cap)).size = did0.size := by rw [didC_size (h := ⟨h.regs, h.pc, 2, 1⟩) hh.len]; rfl
  have hdo := did_one (trapC h.pc 1) ⟨h.regs, h.pc, 2, 1⟩ (v := .slice A m.length cap) rfl
  have CT := Lib.hid (fun W => rtrap_any h A m.length cap 1 W hh.len)
  obtain ⟨D, hD⟩ : ∃ D, D = didC (trapC h.pc 1) ⟨h.regs, h.pc, 2, 1⟩ (.slice A m.length cap) := ⟨_, rfl⟩
  rw [← hD] at hdi hds hdo CT
  have HD := Lib.hid hD
  clear hD
  go_wp2_with (first
    | (refine wpList_load_all rfl 51 _ rfl w.heap.size rfl 51 _ _ hH Try.underlying51 rfl (hart_info hh.len) ?_)
    | (go_at_call 69; (with_reducible refine (CL.out _ hAa).mono ?_); rintro e w2 ⟨rfl, rfl⟩)
    | (go_at_call 70; (with_reducible refine (CT.out _).mono ?_); rintro e w9 ⟨rfl, hb9⟩; replace hR := hR.ext hb9; replace hbl := hbl.trans (hb9.mono hbl.size))
    | (refine wpList_store_all rfl 58 _ _ rfl (w.heap.size + 1) D rfl rfl 58 _ hR hdi hds hdo ?_; intro w5 hB5 hg5))
  refine bodyPost_ret (v := .agg D) (results_blk rfl _ _ (w.heap.size + 1) 58 _ _ rfl hB5 Try.underlying58 rfl hdi) rfl ?_
  have hb5 := below_grown hbl hg5 hbl.size (Nat.le_succ _)
  exact ⟨A, cap, by rw [HD.out]; rfl, hb5, (hA.below hb5).mono hb5.size, hnil, Or.inr rfl⟩
set_option maxHeartbeats 2000000 in
set_option maxRecDepth 100000 in
theorem rstep_word (h : Hart) (A : Option Addr) (cap : Nat) (m : List Int) (w : World) (hh : h.Wf) (hl : m.length ≤ 140737488351232) (hm : Bytes m) (hA : IntsAt w w.heap.size .u8 A m) (hnil : A = none → m = [])
    (hok : (loadP m 13 h.pc).2 = true) (hno : decP (loadP m 13 h.pc).1 = none) :
    Calls Try.prog 36 #[.agg h.cells, .slice A m.length cap] w (RPost w A m (rtrap h m 2)) := by
  have hx := loadP_bd hm 13 h.pc
  have CL := Lib.hid (fun W hW => refLoad_any A cap m 13 h.pc W hh.pc0 hh.pc1 (by omega) hm hW)
  obtain ⟨p1, p2, p3⟩ := Hart.cells_pc hh.len
  go_enter Try.func36, Try.ntmps36
  go_upto_region 1 with (fail)
  go_simp
  refine wp_gen fun wa hq => ?_
  have hH : Blk wa w.heap.size 51 h.cells := by rw [hq]; exact (Blk.new w _ _).alloc _
  have hR : Blk wa (w.heap.size + 1) 58 did0 := by rw [hq]; exact Blk.newAt (w.alloc _) 58 _ (by simp)
  have hbl : Below w.heap.size w wa := by rw [hq]; exact ((Below.refl _ _).alloc (Nat.le_refl _) _).alloc (by simp) _
  clear hq
  have c32 := (hH.cell 32).trans p1
  have hAa := (hA.below hbl).mono hbl.size
  generalize loadP m 13 h.pc = L at *
  obtain ⟨x, ok⟩ := L
  dsimp only at hok hno CL hx
  subst hok
  have CD := Lib.hid (fun W => rdec_any x W hx.1 hx.2)
  rw [hno] at CD
  go_upto_region 5 with (first
    | (go_at_call 69; (with_reducible refine (CL.out _ hAa).mono ?_); rintro e w2 ⟨rfl, rfl⟩)
    | (go_at_call 27; (with_reducible refine (CD.out _).mono ?_); rintro e w3 ⟨rfl, hb3⟩))
  try go_simp
  refine wp_gen fun wb hq => ?_
  have hI : Blk wb w3.heap.size 40 insZ.cells := by rw [hq]; exact Blk.new w3 _ _
  have hbb : Below wa.heap.size wa wb := by rw [hq]; exact hb3.alloc hb3.size _
  have hgI : wa.heap.size ≤ w3.heap.size := hb3.size
  generalize w3.heap.size = gI at *
  clear hq hb3 c32
  have hgW : w.heap.size + 1 < wa.heap.size := hR.lt
  replace hR := hR.ext hbb
  replace hH := hH.ext hbb
  replace hbl := hbl.trans (hbb.mono hbl.size)
  clear hAa
  have hgG : w.heap.size + 1 < gI := by omega
  clear hgI hgW hbb CL CD
  have c32 := (hH.cell 32).trans p1
  have hdi := did_info (c := trapC h.pc 2) (h := ⟨h.regs, h.pc, 2, 2⟩) (v := .slice A m.length cap) hh.len
  have hds : (didC (trapC h.pc 2) ⟨h.regs, h.pc, 2, 2⟩ (.slice A m.length cap)).size = did0.size := by rw [didC_size (h := ⟨h.regs, h.pc, 2, 2⟩) hh.len]; rfl
  have hdo := did_one (trapC h.pc 2) ⟨h.regs, h.pc, 2, 2⟩ (v := .slice A m.length cap) rfl
  have CT := Lib.hid (fun W => rtrap_any h A m.length cap 2 W hh.len)
  obtain ⟨D, hD⟩ : ∃ D, D = didC (trapC h.pc 2) ⟨h.regs, h.pc, 2, 2⟩ (.slice A m.length cap) := ⟨_, rfl⟩
  rw [← hD] at hdi hds hdo CT
  have HD := Lib.hid hD
  clear hD
  go_wp2_with (first
    | (refine wpList_load_all rfl 51 _ rfl w.heap.size rfl 51 _ _ hH Try.underlying51 rfl (hart_info hh.len) ?_)
    | (go_at_call 69; (with_reducible refine (CL.out _ hAa).mono ?_); rintro e w2 ⟨rfl, rfl⟩)
    | (go_at_call 70; (with_reducible refine (CT.out _).mono ?_); rintro e w9 ⟨rfl, hb9⟩; replace hR := hR.ext hb9; replace hbl := hbl.trans (hb9.mono hbl.size))
    | (refine wpList_store_all rfl 58 _ _ rfl (w.heap.size + 1) D rfl rfl 58 _ hR hdi hds hdo ?_; intro w5 hB5 hg5))
  refine bodyPost_ret (v := .agg D) (results_blk rfl _ _ (w.heap.size + 1) 58 _ _ rfl hB5 Try.underlying58 rfl hdi) rfl ?_
  have hb5 := below_grown hbl hg5 hbl.size (Nat.le_succ _)
  exact ⟨A, cap, by rw [HD.out]; rfl, hb5, (hA.below hb5).mono hb5.size, hnil, Or.inr rfl⟩
end Go.Proofs.Ytapgojgcmlnbgab

/- humpyardref4.Step: the middle. -/
namespace Go.Proofs.Ytapgojgcmlnbgab
open Go.RowKit

/-- Three blocks apart, all that lay there lies there as it lay. -/
structure Far3 (a b c : Nat) (w w' : World) : Prop where
  size : w.heap.size ≤ w'.heap.size
  block : ∀ k, k < w.heap.size → k ≠ a → k ≠ b → k ≠ c → w'.heap[k]? = w.heap[k]?
theorem Far3.refl (a b c : Nat) (w : World) : Far3 a b c w w := ⟨Nat.le_refl _, fun _ _ _ _ _ => rfl⟩
theorem far3_of {w : World} {g : Nat} {t : TypeId} {cs : Array Value} (a b c : Nat) (_h : Blk w g t cs) : Far3 a b c w w := Far3.refl a b c w
theorem Far3.set {a b c : Nat} {w w' : World} (h : Far3 a b c w w') {g off : Nat} (hg : g = a ∨ g = b ∨ g = c) (u : Value) : Far3 a b c w (w'.setCell ⟨g, off, none⟩ u) :=
  ⟨by simpa using h.size, fun k hk h1 h2 h3 => (Below.heap_setCell w' ⟨g, off, none⟩ u k (by show k ≠ g; omega)).trans (h.block k hk h1 h2 h3)⟩
theorem Far3.grown {a b c : Nat} {w w1 w' : World} (h : Far3 a b c w w1) {g : Nat} (k : w1.grownBy w' (some g)) (hg : g = a ∨ g = b ∨ g = c) : Far3 a b c w w' :=
  ⟨Nat.le_trans h.size k.size, fun j hj h1 h2 h3 => (k.block j (Nat.lt_of_lt_of_le hj h.size) (fun e => by injection e; omega)).trans (h.block j hj h1 h2 h3)⟩
theorem Far3.own {a b c : Nat} {w w' : World} (h : Far3 a b c w w') {base : Nat} {e : TypeId} {size : Nat} {v : Value} {n : Nat} {xs : List Value} (ho : w.ownsRow base e size v n xs) (ha : a < base) (hb : b < base) (hc : c < base) : w'.ownsRow base e size v n xs :=
  ⟨ho.1, ho.2.imp id fun ⟨g, cap, cur, e, l, hh, r⟩ => ⟨g, cap, cur, e, l, by
    have hg : g < w.heap.size := by
      rcases Nat.lt_or_ge g w.heap.size with h' | h'
      · exact h'
      · rw [Array.getElem?_eq_none h'] at hh; cases hh
    rw [← hh]
    exact h.block g hg (by omega) (by omega) (by omega), r⟩⟩
end Go.Proofs.Ytapgojgcmlnbgab
