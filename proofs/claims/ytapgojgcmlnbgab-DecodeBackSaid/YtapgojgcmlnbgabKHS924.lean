/- The walk of hart.Step. -/
import Derived.Test.YtapgojgcmlnbgabKHS923
set_option linter.unusedSimpArgs false
set_option linter.unusedVariables false

namespace Go.Proofs.Ytapgojgcmlnbgab
open Go.RowKit

section
variable {P : Program} {fn : Func} {tmps : Array Value} {w : World} {ad ad2 : Addr} {v u x y z : Value} {p q a b c : Tmp} {ty ty2 : TypeId}
theorem results_cctt (h : fn.results = #[.cell p ty, .cell q ty2, .tmp a, .tmp b]) (hp : tmps.getD p undef = .pointer (some ad)) (hq : tmps.getD q undef = .pointer (some ad2)) (ha : tmps.getD a undef = x) (hb : tmps.getD b undef = y)
    (hl : (loadVar ty ad).run P w = .ok v w) (hl2 : (loadVar ty2 ad2).run P w = .ok u w) : (results fn tmps).run P w = .ok (.tuple #[v, u, x, y]) w := by
  have hp' : tmps[p]?.getD undef = .pointer (some ad) := by simpa using hp
  have hq' : tmps[q]?.getD undef = .pointer (some ad2) := by simpa using hq
  have ha' : tmps[a]?.getD undef = x := by simpa using ha
  have hb' : tmps[b]?.getD undef = y := by simpa using hb
  simp [results, h, hp', hq', ha', hb', asAddr, hl, hl2]
end
theorem own_mono {w : World} {base base' : Nat} {e : TypeId} {size : Nat} {v : Value} {n : Nat} {xs : List Value} (h : w.ownsRow base e size v n xs) (hb : base' ≤ base) : w.ownsRow base' e size v n xs :=
  ⟨h.1, h.2.imp id fun ⟨g, cap, cur, e, l, r⟩ => ⟨g, cap, cur, e, Nat.le_trans hb l, r⟩⟩
def hart0 : Hart := ⟨List.replicate 32 0, 0, 0, 0⟩
def com0 : Com := ⟨0, 0, 0, 0, 0, 0, 0, 0, 0, false, 0⟩
def okS (h : Hart) (m : List Int) : Bool := mayH h && decide (h.state = 0) && decide (m.length ≤ 4096)
def stepC (h : Hart) (m : List Int) : Com := if okS h m = true then comP h m else com0
def stepH (h : Hart) (m : List Int) : Hart := if okS h m = true then goH h m else hart0
theorem hart0_len : hart0.regs.length = 32 := rfl
theorem hart_load {w : World} {g : Nat} {h : Hart} (hl : h.regs.length = 32) (hB : Blk w g 51 h.cells) : (loadVar 51 ⟨g, 0, none⟩).run Try.prog w = .ok (.agg h.cells) w := by
  rw [run_loadVar_blk w g 0 51 51 h.cells h.cells.size _ hB Try.underlying51 rfl (hart_info hl) (by omega), extract_whole _ _ rfl]
theorem com_load {w : World} {g : Nat} {c : Com} (hB : Blk w g 54 c.cells) : (loadVar 54 ⟨g, 0, none⟩).run Try.prog w = .ok (.agg c.cells) w := by
  rw [run_loadVar_blk w g 0 54 54 c.cells c.cells.size _ hB Try.underlying54 rfl com_info (by omega), extract_whole _ _ rfl]
theorem built_hart0 : Try.prog.built 51 [] = some hart0.cells := by kernel_rfl
theorem built_com0 : Try.prog.built 54 [] = some com0.cells := by kernel_rfl
set_option maxHeartbeats 4000000 in
set_option maxRecDepth 100000 in
theorem step_any (h : Hart) (A : Option Addr) (cap : Nat) (m : List Int) (w : World) (hh : h.Wf) (hl : m.length ≤ 140737488355328) (hm : Bytes m) (hA : IntsAt w w.heap.size .u8 A m) (hnil : A = none → m = []) :
    Calls Try.prog 35 #[.agg h.cells, .slice A m.length cap] w fun e w' => Below w.heap.size w w' ∧ ∃ v, e = .returned (.tuple #[.agg (stepC h m).cells, .agg (stepH h m).cells, v, .bool (okS h m)]) ∧
      (okS h m = true → w'.ownsRow w.heap.size 5 1 v m.length ((goM h m).map (.int .u8))) ∧ (okS h m = false → v = .slice none 0 0) := by
  have CM := Lib.hid (fun W => hmay_any h W hh.len)
  have HSC := Lib.hid (show stepC h m = if okS h m = true then comP h m else com0 from rfl)
  have HSH := Lib.hid (show stepH h m = if okS h m = true then goH h m else hart0 from rfl)
  have HOK := Lib.hid (show okS h m = (mayH h && decide (h.state = 0) && decide (m.length ≤ 4096)) from rfl)
  generalize stepC h m = sc at *
  generalize stepH h m = sh at *
  generalize okS h m = ok at *
  go_enter Try.func35, Try.ntmps35
  go_upto_region 1 with (fail)
  go_simp
  refine wp_gen fun wa hq => ?_
  have hH : Blk wa w.heap.size 51 h.cells := by rw [hq]; exact ((Blk.new w _ _).alloc _).alloc _
  have hR4 : Blk wa (w.heap.size + 1) 54 com0.cells := by rw [hq]; exact (Blk.newAt (w.alloc _) 54 _ (by simp)).alloc _
  have hR5 : Blk wa (w.heap.size + 2) 51 hart0.cells := by rw [hq]; exact Blk.newAt ((w.alloc _).alloc _) 51 _ (by simp)
  have hbl : Below w.heap.size w wa := by rw [hq]; exact (((Below.refl _ _).alloc (Nat.le_refl _) _).alloc (by simp) _).alloc (by simp; omega) _
  clear hq
  have c33 := (hH.cell 33).trans (Hart.cells_pc hh.len).2.1
  rcases hmay : mayH h with _ | _
  · rw [hmay] at CM HOK
    obtain rfl : ok = false := by simpa using HOK.out
    obtain rfl : sc = com0 := HSC.out
    obtain rfl : sh = hart0 := HSH.out
    clear HSC HSH HOK hA hnil
    go_wp2_with (first
      | (refine wpList_load_all rfl 51 _ rfl w.heap.size rfl 51 _ _ hH Try.underlying51 rfl (hart_info hh.len) ?_)
      | (go_at_call 33; (with_reducible refine (CM.out _).mono ?_); rintro e w2 ⟨rfl, hb2⟩; replace hbl := hbl.trans (hb2.mono hbl.size); replace hR4 := hR4.ext hb2; replace hR5 := hR5.ext hb2; replace hH := hH.ext hb2; have c33' := (hH.cell 33).trans (Hart.cells_pc hh.len).2.1)
      | (refine wpList_build_to rfl 54 _ rfl [] rfl _ built_com0 ?_)
      | (refine wpList_build_to rfl 51 _ rfl [] rfl _ built_hart0 ?_)
      | (refine wpList_store_all rfl 54 _ _ rfl (w.heap.size + 1) com0.cells rfl rfl 54 _ hR4 com_info rfl (cells_one com0) ?_; intro w5 hB5 hg5; replace hR5 := hR5.grown hg5 (fun e => by injection e; omega); replace hbl := below_grown hbl hg5 hbl.size (by omega))
      | (refine wpList_store_all rfl 51 _ _ rfl (w.heap.size + 2) hart0.cells rfl rfl 51 _ hR5 (hart_info hart0_len) rfl (hart_one hart0) ?_; intro w6 hB6 hg6; replace hB5 := hB5.grown hg6 (fun e => by injection e; omega); replace hbl := below_grown hbl hg6 hbl.size (by omega)))
    refine bodyPost_ret (results_cctt rfl rfl rfl rfl rfl (com_load hB5) (hart_load hart0_len hB6)) rfl ?_
    first | exact ⟨hbl, rfl⟩ | exact ⟨hbl, _, rfl, (fun e => by cases e), fun _ => rfl⟩
  rw [hmay] at CM HOK
  by_cases hst : h.state = 0
  rotate_left
  · have hst' : (h.state != 0) = true := by simpa using hst
    obtain rfl : ok = false := by simpa [hst] using HOK.out
    obtain rfl : sc = com0 := HSC.out
    obtain rfl : sh = hart0 := HSH.out
    clear HSC HSH HOK hA hnil hst hmay
    go_wp2_with (first
      | (refine wpList_load_all rfl 51 _ rfl w.heap.size rfl 51 _ _ hH Try.underlying51 rfl (hart_info hh.len) ?_)
      | (go_at_call 33; (with_reducible refine (CM.out _).mono ?_); rintro e w2 ⟨rfl, hb2⟩; replace hbl := hbl.trans (hb2.mono hbl.size); replace hR4 := hR4.ext hb2; replace hR5 := hR5.ext hb2; replace hH := hH.ext hb2; have c33' := (hH.cell 33).trans (Hart.cells_pc hh.len).2.1)
      | (refine wpList_build_to rfl 54 _ rfl [] rfl _ built_com0 ?_)
      | (refine wpList_build_to rfl 51 _ rfl [] rfl _ built_hart0 ?_)
      | (refine wpList_store_all rfl 54 _ _ rfl (w.heap.size + 1) com0.cells rfl rfl 54 _ hR4 com_info rfl (cells_one com0) ?_; intro w5 hB5 hg5; replace hR5 := hR5.grown hg5 (fun e => by injection e; omega); replace hbl := below_grown hbl hg5 hbl.size (by omega))
      | (refine wpList_store_all rfl 51 _ _ rfl (w.heap.size + 2) hart0.cells rfl rfl 51 _ hR5 (hart_info hart0_len) rfl (hart_one hart0) ?_; intro w6 hB6 hg6; replace hB5 := hB5.grown hg6 (fun e => by injection e; omega); replace hbl := below_grown hbl hg6 hbl.size (by omega)))
    refine bodyPost_ret (results_cctt rfl rfl rfl rfl rfl (com_load hB5) (hart_load hart0_len hB6)) rfl ?_
    first | exact ⟨hbl, rfl⟩ | exact ⟨hbl, _, rfl, (fun e => by cases e), fun _ => rfl⟩
  by_cases hlen : m.length ≤ 4096
  rotate_left
  · have hst' : (h.state != 0) = false := by simpa using hst
    have hlen' : decide ((4096 : Int) < (m.length : Int)) = true := by simp; omega
    obtain rfl : ok = false := by simpa [hst, hlen] using HOK.out
    obtain rfl : sc = com0 := HSC.out
    obtain rfl : sh = hart0 := HSH.out
    clear HSC HSH HOK hA hnil hst hmay hlen
    go_wp2_with (first
      | (refine wpList_load_all rfl 51 _ rfl w.heap.size rfl 51 _ _ hH Try.underlying51 rfl (hart_info hh.len) ?_)
      | (go_at_call 33; (with_reducible refine (CM.out _).mono ?_); rintro e w2 ⟨rfl, hb2⟩; replace hbl := hbl.trans (hb2.mono hbl.size); replace hR4 := hR4.ext hb2; replace hR5 := hR5.ext hb2; replace hH := hH.ext hb2; have c33' := (hH.cell 33).trans (Hart.cells_pc hh.len).2.1)
      | (refine wpList_build_to rfl 54 _ rfl [] rfl _ built_com0 ?_)
      | (refine wpList_build_to rfl 51 _ rfl [] rfl _ built_hart0 ?_)
      | (refine wpList_store_all rfl 54 _ _ rfl (w.heap.size + 1) com0.cells rfl rfl 54 _ hR4 com_info rfl (cells_one com0) ?_; intro w5 hB5 hg5; replace hR5 := hR5.grown hg5 (fun e => by injection e; omega); replace hbl := below_grown hbl hg5 hbl.size (by omega))
      | (refine wpList_store_all rfl 51 _ _ rfl (w.heap.size + 2) hart0.cells rfl rfl 51 _ hR5 (hart_info hart0_len) rfl (hart_one hart0) ?_; intro w6 hB6 hg6; replace hB5 := hB5.grown hg6 (fun e => by injection e; omega); replace hbl := below_grown hbl hg6 hbl.size (by omega)))
    refine bodyPost_ret (results_cctt rfl rfl rfl rfl rfl (com_load hB5) (hart_load hart0_len hB6)) rfl ?_
    first | exact ⟨hbl, rfl⟩ | exact ⟨hbl, _, rfl, (fun e => by cases e), fun _ => rfl⟩
  have hst' : (h.state != 0) = false := by simpa using hst
  have hlen' : decide ((4096 : Int) < (m.length : Int)) = false := by simp; omega
  obtain rfl : ok = true := by simpa [hst, hlen] using HOK.out
  have HC := Lib.hid (show comP h m = sc from HSC.out.symm)
  have HHh := Lib.hid (show goH h m = sh from HSH.out.symm)
  have CC := Lib.hid (fun W (hW : IntsAt W W.heap.size .u8 A m) => cloneBytes_any A m.length cap (m.map (.int .u8)) W (by omega) (by simp) (ints_oneCell _ _) hW.cells (fun e => by rw [hnil e]; rfl))
  have hshl : sh.regs.length = 32 := by rw [← HHh.out]; exact (applyH_wf (comP_wf hh hm) hh).len
  clear HSC HSH HOK hst hmay
  go_upto_region 3 with (first
    | (refine wpList_load_all rfl 51 _ rfl w.heap.size rfl 51 _ _ hH Try.underlying51 rfl (hart_info hh.len) ?_)
    | (go_at_call 33; (with_reducible refine (CM.out _).mono ?_); rintro e w2 ⟨rfl, hb2⟩; replace hbl := hbl.trans (hb2.mono hbl.size); replace hR4 := hR4.ext hb2; replace hR5 := hR5.ext hb2; replace hH := hH.ext hb2; have c33' := (hH.cell 33).trans (Hart.cells_pc hh.len).2.1))
  try go_simp
  clear hst' hlen' c33 c33' CM
  have hA3 := (hA.below hbl).mono hbl.size
  have hsz3 := hbl.size
  go_upto_region 4 with (go_at_call 67; (with_reducible refine (CC.out _ hA3).mono ?_); rintro e w3 ⟨v, rfl, hown, hb3⟩; obtain ⟨A3, cap3, rfl⟩ := own_value hown)
  try go_simp
  have hzz : w.heap.size ≤ w2.heap.size := hbl.size
  have hR5l := hR5.lt
  replace hbl := hbl.trans (hb3.mono hbl.size)
  replace hR4 := hR4.ext hb3
  replace hR5 := hR5.ext hb3
  replace hH := hH.ext hb3
  have hne : ∀ k, k < w2.heap.size → (Value.slice A3 m.length cap3).ownBlock ≠ some k := fun k hk e => by have := (hown.lt k e).1; omega
  have CGo := Lib.hid (go_any h w.heap.size 51 A3 w2.heap.size cap3 m w3 hh hH (by omega) hm hown (hne _ (by omega)))
  rw [HC.out, HHh.out] at CGo
  clear HC HHh CC hA3 hsz3 hb3
  go_upto_region 5 with (go_at_call 68; (with_reducible refine CGo.out.mono ?_); rintro e w4 ⟨rfl, hH4, hM4, hT4⟩)
  try go_simp
  refine wp_gen fun wb hq => ?_
  have hsz4 := hT4.size
  have hsz3 := hH.lt
  have hg9 : w3.heap.size ≤ w4.heap.size := hT4.size
  have hw3 : w.heap.size + 2 < w3.heap.size := hR5.lt
  have hC : Blk wb w4.heap.size 54 sc.cells := by rw [hq]; exact Blk.new w4 _ _
  have hH5 : Blk wb w.heap.size 51 sh.cells := by rw [hq]; exact hH4.alloc _
  have hR4b : Blk wb (w.heap.size + 1) 54 com0.cells := by rw [hq]; exact (hT4.blk hR4 (fun e => by injection e; omega) (fun e => hne _ (by omega) e.symm)).alloc _
  have hR5b : Blk wb (w.heap.size + 2) 51 hart0.cells := by rw [hq]; exact (hT4.blk hR5 (fun e => by injection e; omega) (fun e => hne _ (by omega) e.symm)).alloc _
  have hMb : wb.ownsRow w2.heap.size 5 1 (.slice A3 m.length cap3) m.length ((goM h m).map (.int .u8)) := by rw [hq]; exact hM4.alloc _
  have hbb : Below w.heap.size w wb := by
    rw [hq]
    exact (Two.below hbl hT4 (by omega) (fun j hj => by injection hj; omega) (fun j hj => by have := (hown.lt j hj).1; omega)).alloc (by omega) _
  generalize w4.heap.size = g9 at *
  clear hq hH4 hM4 hT4 hbl hR4 hR5 hH hown CGo
  refine wp_region_ord 100 3 103 [0, 1, 2, 3, 4, 5, 6] (fun w' => Blk w' g9 54 sc.cells ∧ Blk w' w.heap.size 51 sh.cells) (fun w' => w' = _) (by kernel_rfl) (by kernel_rfl) (by kernel_rfl) rfl (fun w' hw => by rw [hw]; exact ⟨hC.ext (Below.refl _ _).drew, hH5.ext (Below.refl _ _).drew⟩) rfl ?_
  repeat' (first
    | refine wpO_plain rfl rfl ?_
    | (refine' wpOW_ever _ (by decide) (by decide) (fun wq K hK => ?_) ?_ ?_
       rotate_left 1
       · (go_wp2_with (fail)
          all_goals exact hK)
       · rfl)
    | (refine' wpOW_reads _ (by decide) (by decide) (by decide) (fun wq hwq K hK => ?_) ?_ ?_
       rotate_left 1
       · (skip
          first
          | ((first | (refine wp_load_all 54 _ rfl g9 rfl 54 _ _ hwq.1 Try.underlying54 rfl com_info ?_) | (refine wp_load_all 51 _ rfl w.heap.size rfl 51 _ _ hwq.2 Try.underlying51 rfl (hart_info hshl) ?_)); (simp only [Act.put, List.setIfInBounds_toArray, List.set_cons_succ, List.set_cons_zero]); exact hK)
          | (go_wp2_with (fail)
             all_goals exact hK))
       · rfl)
    | (refine' wpOW_calls _ (by decide) (by decide) (by decide) (fun wq hwq K hK => ?_) ?_ ?_
       rotate_left 1
       · (skip
          first
          | ((first | (refine wp_load_all 54 _ rfl g9 rfl 54 _ _ hwq.1 Try.underlying54 rfl com_info ?_) | (refine wp_load_all 51 _ rfl w.heap.size rfl 51 _ _ hwq.2 Try.underlying51 rfl (hart_info hshl) ?_)); (simp only [Act.put, List.setIfInBounds_toArray, List.set_cons_succ, List.set_cons_zero]); exact hK)
          | (go_wp2_with (fail)
             all_goals exact hK _ hwq))
       · rfl)
    | (refine wpO_guardT rfl rfl rfl rfl ?_ ?_ <;> intro hc <;> first | (cases hc; done) | ((try cases hc); simp only [Act.put, List.setIfInBounds_toArray, List.set_cons_succ, List.set_cons_zero]))
    | (refine wpO_guardF rfl rfl rfl rfl ?_ ?_ <;> intro hc <;> first | (cases hc; done) | ((try cases hc); simp only [Act.put, List.setIfInBounds_toArray, List.set_cons_succ, List.set_cons_zero]))
    | refine wpO_guardU rfl rfl rfl rfl ?_)
  refine wpOW_beside (by decide) (by decide) (by decide) (by kernel_rfl) (fun w1 hw1 K hK => ?_)
  have hbd := fun B => drew_below hw1 B
  replace hC := hC.ext (hbd _)
  replace hH5 := hH5.ext (hbd _)
  replace hR4b := hR4b.ext (hbd _)
  replace hR5b := hR5b.ext (hbd _)
  replace hMb := own_keep hMb (hbd _)
  replace hbb := hbb.trans (hbd _)
  clear hw1 hbd
  refine wp_store_all 54 _ _ rfl (w.heap.size + 1) sc.cells rfl rfl 54 _ hR4b com_info rfl (cells_one sc) ?_
  intro w5 hB5 hg5
  replace hC := hC.grown hg5 (fun e => by injection e; omega)
  replace hH5 := hH5.grown hg5 (fun e => by injection e; omega)
  replace hR5b := hR5b.grown hg5 (fun e => by injection e; omega)
  replace hMb := hMb.kept hg5 (Or.inr (hne _ (by omega)))
  replace hbb := below_grown hbb hg5 hbb.size (by omega)
  refine hK undef _ ⟨hC, hH5⟩ ?_
  simp only [Act.put, List.setIfInBounds_toArray, List.set_cons_succ, List.set_cons_zero]
  clear hK K hR4b hg5
  repeat' (first
    | refine wpO_plain rfl rfl ?_
    | (refine' wpOW_ever _ (by decide) (by decide) (fun wq K hK => ?_) ?_ ?_
       rotate_left 1
       · (go_wp2_with (fail)
          all_goals exact hK)
       · rfl)
    | (refine' wpOW_reads _ (by decide) (by decide) (by decide) (fun wq hwq K hK => ?_) ?_ ?_
       rotate_left 1
       · (skip
          first
          | ((first | (refine wp_load_all 54 _ rfl g9 rfl 54 _ _ hwq.1 Try.underlying54 rfl com_info ?_) | (refine wp_load_all 51 _ rfl w.heap.size rfl 51 _ _ hwq.2 Try.underlying51 rfl (hart_info hshl) ?_)); (simp only [Act.put, List.setIfInBounds_toArray, List.set_cons_succ, List.set_cons_zero]); exact hK)
          | (go_wp2_with (fail)
             all_goals exact hK))
       · rfl)
    | (refine' wpOW_calls _ (by decide) (by decide) (by decide) (fun wq hwq K hK => ?_) ?_ ?_
       rotate_left 1
       · (skip
          first
          | ((first | (refine wp_load_all 54 _ rfl g9 rfl 54 _ _ hwq.1 Try.underlying54 rfl com_info ?_) | (refine wp_load_all 51 _ rfl w.heap.size rfl 51 _ _ hwq.2 Try.underlying51 rfl (hart_info hshl) ?_)); (simp only [Act.put, List.setIfInBounds_toArray, List.set_cons_succ, List.set_cons_zero]); exact hK)
          | (go_wp2_with (fail)
             all_goals exact hK _ hwq))
       · rfl)
    | (refine wpO_guardT rfl rfl rfl rfl ?_ ?_ <;> intro hc <;> first | (cases hc; done) | ((try cases hc); simp only [Act.put, List.setIfInBounds_toArray, List.set_cons_succ, List.set_cons_zero]))
    | (refine wpO_guardF rfl rfl rfl rfl ?_ ?_ <;> intro hc <;> first | (cases hc; done) | ((try cases hc); simp only [Act.put, List.setIfInBounds_toArray, List.set_cons_succ, List.set_cons_zero]))
    | refine wpO_guardU rfl rfl rfl rfl ?_)
  refine wpOW_solo (by decide) (by decide) (by decide) (by kernel_rfl) (fun wx hwx K hK => ?_)
  subst hwx
  refine wp_store_all 51 _ _ rfl (w.heap.size + 2) sh.cells rfl rfl 51 _ hR5b (hart_info hshl) (by rw [Hart.cells_size hshl, Hart.cells_size hart0_len]) (hart_one sh) ?_
  intro w6 hB6 hg6
  replace hB5 := hB5.grown hg6 (fun e => by injection e; omega)
  replace hMb := hMb.kept hg6 (Or.inr (hne _ (by omega)))
  replace hbb := below_grown hbb hg6 hbb.size (by omega)
  refine hK undef _ (fun _ => True) trivial ?_
  simp only [Act.put, List.setIfInBounds_toArray, List.set_cons_succ, List.set_cons_zero]
  clear hK K hR5b hg6 hC hH5
  repeat' (first
    | refine wpO_plain rfl rfl ?_
    | (refine' wpOW_ever _ (by decide) (by decide) (fun wq K hK => ?_) ?_ ?_
       rotate_left 1
       · (go_wp2_with (fail)
          all_goals exact hK)
       · rfl)
    | (refine' wpOW_reads _ (by decide) (by decide) (by decide) (fun wq hwq K hK => ?_) ?_ ?_
       rotate_left 1
       · (skip
          first
          | (fail)
          | (go_wp2_with (fail)
             all_goals exact hK))
       · rfl)
    | (refine' wpOW_calls _ (by decide) (by decide) (by decide) (fun wq hwq K hK => ?_) ?_ ?_
       rotate_left 1
       · (skip
          first
          | (fail)
          | (go_wp2_with (fail)
             all_goals exact hK _ hwq))
       · rfl)
    | (refine wpO_guardT rfl rfl rfl rfl ?_ ?_ <;> intro hc <;> first | (cases hc; done) | ((try cases hc); simp only [Act.put, List.setIfInBounds_toArray, List.set_cons_succ, List.set_cons_zero]))
    | (refine wpO_guardF rfl rfl rfl rfl ?_ ?_ <;> intro hc <;> first | (cases hc; done) | ((try cases hc); simp only [Act.put, List.setIfInBounds_toArray, List.set_cons_succ, List.set_cons_zero]))
    | refine wpO_guardU rfl rfl rfl rfl ?_)
  refine wpO_nil ?_
  rintro w7 rfl
  go_wp2_with (fail)
  refine bodyPost_ret (results_cctt rfl rfl rfl rfl rfl (com_load hB5) (hart_load hshl hB6)) rfl ?_
  have hM9 := own_mono hMb hzz
  first | exact ⟨hbb, hM9⟩ | exact ⟨hbb, _, rfl, (fun _ => hM9), (fun e => by cases e)⟩ | exact ⟨hbb, _, rfl, hM9⟩
end Go.Proofs.Ytapgojgcmlnbgab
