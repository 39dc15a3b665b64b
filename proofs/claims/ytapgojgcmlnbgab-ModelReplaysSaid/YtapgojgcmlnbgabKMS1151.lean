/- ModelSplits, walked. -/
import Derived.Test.YtapgojgcmlnbgabKMR949
set_option linter.unusedSimpArgs false
set_option linter.unusedVariables false

namespace Go.Proofs.Ytapgojgcmlnbgab
open Go.RowKit

set_option maxHeartbeats 2000000 in
set_option maxRecDepth 100000 in
theorem modelSplits_out (h : Hart) (A : Option Addr) (cap : Nat) (m : List Int) (a b : Int) (w : World) (_hh : h.Wf) (_hl : m.length ≤ 140737488351232) (hab : a < 0 ∨ b < 0 ∨ 1000 < a ∨ 1000 < b) :
    Calls Try.prog 14 #[.agg h.cells, .slice A m.length cap, .int .i64 a, .int .i64 b] w fun e w' => e = .returned (.bool true) ∧ Below w.heap.size w w' := by
  have hq0 := Below.refl w.heap.size w
  rcases (by simp only [decide_eq_true_eq, decide_eq_false_iff_not]; omega : (decide (a < 0) = true) ∨ (decide (a < 0) = false ∧ decide (b < 0) = true) ∨ (decide (a < 0) = false ∧ decide (b < 0) = false ∧ decide (1000 < a) = true) ∨ (decide (a < 0) = false ∧ decide (b < 0) = false ∧ decide (1000 < a) = false ∧ decide (1000 < b) = true)) with t1 | ⟨t1, t2⟩ | ⟨t1, t2, t3⟩ | ⟨t1, t2, t3, t4⟩
  all_goals
    clear hab
    go_enter Try.func14, Try.ntmps14
    go_upto_region 1 with (fail)
    go_simp
    refine wp_gen fun wa hq => ?_
    have hbl : Below w.heap.size w wa := by rw [hq]; exact (Below.refl _ _).alloc (Nat.le_refl _) _
    clear hq
    go_wp2
    go_ret
    exact ⟨rfl, hbl⟩
theorem wrongP_two {h : Hart} {m : List Int} {s t : Int} (h0 : 0 ≤ s) (h1 : s ≤ 2000) (h2 : 0 ≤ t) (h3 : t ≤ 2000) : wrongP h m s = wrongP h m t := by
  unfold wrongP
  split
  · rfl
  · rw [if_neg (by omega), if_neg (by omega)]
set_option maxHeartbeats 2000000 in
set_option maxRecDepth 100000 in
theorem modelSplits_no (h : Hart) (A : Option Addr) (cap : Nat) (m : List Int) (a b : Int) (w : World) (hh : h.Wf) (hl : m.length ≤ 140737488351232) (ha0 : 0 ≤ a) (ha1 : a ≤ 1000) (hb0 : 0 ≤ b) (hb1 : b ≤ 1000) (hno : wrongP h m a ≠ 0) :
    Calls Try.prog 14 #[.agg h.cells, .slice A m.length cap, .int .i64 a, .int .i64 b] w fun e w' => e = .returned (.bool true) ∧ Below w.heap.size w w' := by
  have hno2 : wrongP h m (a + b) ≠ 0 := by rw [← wrongP_two (h := h) (m := m) (s := a) (t := a + b) ha0 (by omega) (by omega) (by omega)]; exact hno
  have CR := Lib.hid (fun W => run_no h A cap m a W hh hl (by omega) (by omega) hno)
  have CR2 := Lib.hid (fun W => run_no h A cap m (a + b) W hh hl (by omega) (by omega) hno2)
  rw [← wrongP_two (h := h) (m := m) (s := a) (t := a + b) ha0 (by omega) (by omega) (by omega)] at CR2
  clear hno2
  generalize wrongP h m a = X at *
  have e1 : (X == X) = true := by simp
  have e2 : (X != 0) = true := by simpa using hno
  have t1 : decide (a < 0) = false := decide_eq_false (by omega)
  have t2 : decide (b < 0) = false := decide_eq_false (by omega)
  have t3 : decide (1000 < a) = false := decide_eq_false (by omega)
  have t4 : decide (1000 < b) = false := decide_eq_false (by omega)
  clear hno
  go_enter Try.func14, Try.ntmps14
  go_upto_region 1 with (fail)
  go_simp
  refine wp_gen fun wa hq => ?_
  have hH : Blk wa w.heap.size 51 h.cells := by rw [hq]; exact Blk.new w _ _
  have hbl : Below w.heap.size w wa := by rw [hq]; exact (Below.refl _ _).alloc (Nat.le_refl _) _
  clear hq
  go_upto_region 3 with (fail)
  try go_simp
  clear t1 t2 t3 t4
  go_upto_region 4 with (first
    | (refine wpList_load_all rfl 51 _ rfl w.heap.size rfl 51 _ _ hH Try.underlying51 rfl (hart_info hh.len) ?_)
    | (go_at_call 39; (with_reducible refine (CR.out _).mono ?_); rintro e w2 ⟨rfl, hb2⟩; replace hbl := hbl.trans (hb2.mono hbl.size); replace hH := hH.ext hb2; clear hb2)
    | (refine wpList_store_all rfl 51 _ _ rfl w2.heap.size hart0.cells rfl rfl 51 _ (Blk.new w2 _ _) (hart_info hart0_len) rfl (hart_one hart0) ?_; intro w3 hX hg3))
  try go_simp
  have hz2 := hH.lt
  have hz3 := hg3.size
  simp only [World.size_alloc] at hz3
  replace hH := (hH.alloc (.cells hart0.cells 51)).grown hg3 (fun e => by injection e; omega)
  replace hbl := below_grown (hbl.alloc hbl.size (.cells hart0.cells 51)) hg3 (by have := hbl.size; simp; omega) hbl.size
  clear hg3 hX
  go_upto_region 5 with (first
    | (refine wpList_load_all rfl 51 _ rfl w.heap.size rfl 51 _ _ hH Try.underlying51 rfl (hart_info hh.len) ?_)
    | (go_at_call 39; (with_reducible refine (CR2.out _).mono ?_); rintro e w4 ⟨rfl, hb2⟩; replace hbl := hbl.trans (hb2.mono hbl.size); clear hb2)
    | (refine wpList_store_all rfl 51 _ _ rfl w4.heap.size hart0.cells rfl rfl 51 _ (Blk.new w4 _ _) (hart_info hart0_len) rfl (hart_one hart0) ?_; intro w5 hX hg3))
  try go_simp
  replace hbl := below_grown (hbl.alloc hbl.size (.cells hart0.cells 51)) hg3 (by have := hbl.size; simp; omega) hbl.size
  go_wp2
  go_ret
  exact ⟨rfl, hbl⟩
theorem own_none {w : World} {base : Nat} {e : TypeId} {size : Nat} {A : Option Addr} {n cap : Nat} {xs : List Value} (h : w.ownsRow base e size (.slice A n cap) n xs) : A = none → n = 0 ∧ cap = 0 := by
  intro hA
  subst hA
  rcases h.2 with ⟨hv, hn⟩ | ⟨g, c, cur, hv, _⟩
  · injection hv with _ _ h3
    exact ⟨hn, h3⟩
  · cases hv
set_option maxHeartbeats 4000000 in
set_option maxRecDepth 100000 in
theorem modelSplits_ok (h : Hart) (A : Option Addr) (cap : Nat) (m : List Int) (a b : Nat) (w : World) (hh : h.Wf) (hl : m.length ≤ 140737488351232) (hm : Bytes m) (hA : IntsAt w w.heap.size .u8 A m) (hnil : A = none → m = []) (ha1 : a ≤ 1000) (hb1 : b ≤ 1000) (hno : wrongP h m a = 0) :
    Calls Try.prog 14 #[.agg h.cells, .slice A m.length cap, .int .i64 a, .int .i64 b] w fun e w' => e = .returned (.bool true) ∧ Below w.heap.size w w' := by
  obtain ⟨hmay, hlen⟩ : mayH h = true ∧ m.length ≤ 4096 := by
    unfold wrongP at hno
    split at hno
    · cases hno
    · rename_i h1
      exact ⟨by cases hh : mayH h <;> simp_all, by omega⟩
  have hno2 : wrongP h m ((a : Int) + (b : Int)) = 0 := by rw [← wrongP_two (h := h) (m := m) (s := a) (t := (a : Int) + b) (by omega) (by omega) (by omega) (by omega)]; exact hno
  have CR := Lib.hid (fun W hW => run_ok h A cap m a W hh hl hm hW hnil hno)
  have CR2 := Lib.hid (fun W hW => run_ok h A cap m ((a : Int) + (b : Int)) W hh hl hm hW hnil hno2)
  obtain ⟨hok, hml, hcw, hll, hst⟩ := runP_ok a (h := h) (m := m) ⟨hh, hmay, hm⟩
  rw [Int.toNat_natCast] at CR
  rw [show ((a : Int) + (b : Int)).toNat = a + b by omega, runP_add] at CR2
  have hsome : a = 0 ∨ h.state ≠ 0 ∨ 0 < (runP a h m).1.length := by
    by_cases h0 : a = 0
    · exact Or.inl h0
    · by_cases hs : h.state = 0
      · exact Or.inr (Or.inr (runP_some m (by omega) hs))
      · exact Or.inr (Or.inl hs)
  have hno3 : wrongP (runP a h m).2.1 (runP a h m).2.2 b = 0 := by
    unfold wrongP
    rw [if_neg (by rw [hok.may, hml]; simp; omega), if_neg (by omega)]
  obtain ⟨hok3, hml3, hcw3, hll3, _⟩ := runP_ok b (h := (runP a h m).2.1) (m := (runP a h m).2.2) hok
  have CR3 := Lib.hid (fun (W : World) (A : Option Addr) (cap : Nat) (hW : IntsAt W W.heap.size .u8 A (runP a h m).2.2) (hn : A = none → (runP a h m).2.2 = []) => run_ok (runP a h m).2.1 A cap (runP a h m).2.2 b W hok.hart (by omega) hok.bytes hW hn hno3)
  rw [Int.toNat_natCast] at CR3
  have hxl := hok.hart.len
  have hzl := hok3.hart.len
  have EH := Lib.hid (fun W => hart_eql hok3.hart (may_num hok3.may) W)
  rw [hml] at CR3 hml3
  obtain ⟨R, hR⟩ : ∃ R, runP a h m = R := ⟨_, rfl⟩
  rw [hR] at CR CR2 CR3 hxl hzl EH hsome hll hll3 hcw hcw3 hml hml3
  clear hR hok hok3 hno hno2 hno3 hmay hst
  obtain ⟨Lk, x, M1⟩ := R
  dsimp only at CR CR2 CR3 hxl hzl EH hsome hll hll3 hcw hcw3 hml hml3
  obtain ⟨R3, hR3⟩ : ∃ R3, runP b x M1 = R3 := ⟨_, rfl⟩
  rw [hR3] at CR2 CR3 hzl EH hll3 hcw3 hml3
  clear hR3
  obtain ⟨Lj, z, M3⟩ := R3
  dsimp only at CR2 CR3 hzl EH hll3 hcw3 hml3
  have HCW := Lib.hid (fun c (hc : c ∈ Lk ++ Lj) => (List.mem_append.1 hc).elim (fun h => (hcw c h).1) (fun h => (hcw3 c h).1))
  have HML := Lib.hid hml
  have HML3 := Lib.hid hml3
  have hlk : (Lk ++ Lj).length = Lk.length + Lj.length := List.length_append
  have hlv : comsV (Lk ++ Lj) = comsV Lk ++ comsV Lj := comsV_append _ _
  generalize Lk ++ Lj = LL at *
  have HLK := Lib.hid hlk
  have HLV := Lib.hid hlv
  have hl2 : LL.length ≤ 2000 := by omega
  clear hlk hlv
  clear hcw hcw3 hml hml3
  have t1 : decide ((a : Int) < 0) = false := decide_eq_false (by omega)
  have t2 : decide ((b : Int) < 0) = false := decide_eq_false (by omega)
  have t3 : decide (1000 < (a : Int)) = false := decide_eq_false (by omega)
  have t4 : decide (1000 < (b : Int)) = false := decide_eq_false (by omega)
  have p2 := (Hart.cells_pc hh.len).2.1
  obtain ⟨i0, hi, hz0, hz1, hz2⟩ := info_parts coms_info
  have Hsome := Lib.hid hsome
  clear hsome
  go_enter Try.func14, Try.ntmps14
  go_upto_region 1 with (fail)
  go_simp
  refine wp_gen fun wa hq => ?_
  have hH : Blk wa w.heap.size 51 h.cells := by rw [hq]; exact Blk.new w _ _
  have hbl : Below w.heap.size w wa := by rw [hq]; exact (Below.refl _ _).alloc (Nat.le_refl _) _
  clear hq
  go_upto_region 3 with (fail)
  try go_simp
  clear t1 t2 t3 t4
  have hAa := (hA.below hbl).mono hbl.size
  go_upto_region 4 with (first
    | (refine wpList_load_all rfl 51 _ rfl w.heap.size rfl 51 _ _ hH Try.underlying51 rfl (hart_info hh.len) ?_)
    | (go_at_call 39; (with_reducible refine (CR.out _ hAa).mono ?_); rintro e wq1 ⟨AQ1, cQ1, AM1, cM1, rfl, hbq1, hLq1, hMq1⟩)
    | (refine wpList_store_all rfl 51 _ _ rfl wq1.heap.size (x).cells rfl rfl 51 _ (Blk.new wq1 _ _) (hart_info hxl) (by rw [Hart.cells_size hxl]; rfl) (hart_one (x)) ?_; intro wr1 hXq1 hgq1))
  try go_simp
  have hb2q1 := hbq1.trans ((((Below.refl wq1.heap.size wq1).alloc (Nat.le_refl _) (.cells hart0.cells 51)).grown hgq1 (by simp) (fun k hk => by cases hk; exact Nat.le_refl _)).mono hbq1.size)
  have hb3q1 : Below wq1.heap.size wq1 wr1 := (((Below.refl wq1.heap.size wq1).alloc (Nat.le_refl _) (.cells hart0.cells 51)).grown hgq1 (by simp) (fun k hk => by cases hk; exact Nat.le_refl _))
  have hzq1 := hb3q1.size
  have hz2q1 := hbq1.size
  have hC1 := ((ComsAt.own hLq1).below hb3q1).mono hzq1
  have hn1 := own_none hLq1
  have hI1 := (IntsAt.own hMq1).below hb3q1
  replace hI1 := hI1.mono hzq1
  have hN1 := own_nil hMq1
  replace hbl := hbl.trans (hb2q1.mono hbl.size)
  clear hLq1 hMq1 hgq1 hb3q1 hbq1
  replace hH := hH.ext hb2q1
  clear hb2q1 hAa CR
  have hAa := (hA.below hbl).mono hbl.size
  go_upto_region 5 with (first
    | (refine wpList_load_all rfl 51 _ rfl w.heap.size rfl 51 _ _ hH Try.underlying51 rfl (hart_info hh.len) ?_)
    | (go_at_call 39; (with_reducible refine (CR2.out _ hAa).mono ?_); rintro e wq2 ⟨AQ2, cQ2, AM2, cM2, rfl, hbq2, hLq2, hMq2⟩)
    | (refine wpList_store_all rfl 51 _ _ rfl wq2.heap.size (z).cells rfl rfl 51 _ (Blk.new wq2 _ _) (hart_info hzl) (by rw [Hart.cells_size hzl]; rfl) (hart_one (z)) ?_; intro wr2 hXq2 hgq2))
  try go_simp
  have hb2q2 := hbq2.trans ((((Below.refl wq2.heap.size wq2).alloc (Nat.le_refl _) (.cells hart0.cells 51)).grown hgq2 (by simp) (fun k hk => by cases hk; exact Nat.le_refl _)).mono hbq2.size)
  have hb3q2 : Below wq2.heap.size wq2 wr2 := (((Below.refl wq2.heap.size wq2).alloc (Nat.le_refl _) (.cells hart0.cells 51)).grown hgq2 (by simp) (fun k hk => by cases hk; exact Nat.le_refl _))
  have hzq2 := hb3q2.size
  have hz2q2 := hbq2.size
  have hC2 := ((ComsAt.own hLq2).below hb3q2).mono hzq2
  have hn2 := own_none hLq2
  have hI2 := (IntsAt.own hMq2).below hb3q2
  replace hI2 := hI2.mono hzq2
  have hN2 := own_nil hMq2
  replace hbl := hbl.trans (hb2q2.mono hbl.size)
  clear hLq2 hMq2 hgq2 hb3q2 hbq2
  replace hH := hH.ext hb2q2
  replace hXq1 := hXq1.ext hb2q2
  replace hC1 := (hC1.below hb2q2).mono hb2q2.size
  replace hI1 := (hI1.below hb2q2).mono hb2q2.size
  clear hb2q2 hAa CR2
  go_upto_region 7 with (fail)
  try go_simp
  have CR4 := Lib.hid (fun W hW => CR3.out W AM1 cM1 hW hN1)
  clear CR3
  go_upto_region 8 with (first
    | (refine wpList_load_all rfl 51 _ rfl wq1.heap.size rfl 51 _ _ hXq1 Try.underlying51 rfl (hart_info hxl) ?_)
    | (go_at_call 39; (with_reducible refine (CR4.out _ hI1).mono ?_); rintro e wq3 ⟨AQ3, cQ3, AM3, cM3, rfl, hbq3, hLq3, hMq3⟩)
    | (refine wpList_store_all rfl 51 _ _ rfl wq3.heap.size (z).cells rfl rfl 51 _ (Blk.new wq3 _ _) (hart_info hzl) (by rw [Hart.cells_size hzl]; rfl) (hart_one (z)) ?_; intro wr3 hXq3 hgq3))
  try go_simp
  have hb2q3 := hbq3.trans ((((Below.refl wq3.heap.size wq3).alloc (Nat.le_refl _) (.cells hart0.cells 51)).grown hgq3 (by simp) (fun k hk => by cases hk; exact Nat.le_refl _)).mono hbq3.size)
  have hb3q3 : Below wq3.heap.size wq3 wr3 := (((Below.refl wq3.heap.size wq3).alloc (Nat.le_refl _) (.cells hart0.cells 51)).grown hgq3 (by simp) (fun k hk => by cases hk; exact Nat.le_refl _))
  have hzq3 := hb3q3.size
  have hz2q3 := hbq3.size
  have hC3 := ((ComsAt.own hLq3).below hb3q3).mono hzq3
  have hn3 := own_none hLq3
  have hI3 := (IntsAt.own hMq3).below hb3q3
  replace hI3 := hI3.mono hzq3
  have hN3 := own_nil hMq3
  replace hbl := hbl.trans (hb2q3.mono hbl.size)
  clear hLq3 hMq3 hgq3 hb3q3 hbq3
  replace hH := hH.ext hb2q3
  replace hXq2 := hXq2.ext hb2q3
  replace hC1 := (hC1.below hb2q3).mono hb2q3.size
  replace hC2 := (hC2.below hb2q3).mono hb2q3.size
  replace hI2 := (hI2.below hb2q3).mono hb2q3.size
  clear hb2q3 CR4 hXq1 hI1
  have hown0 := World.ownsRow_lit (base := wr3.heap.size) (e := 54) (size := 11) wr3 #[] 0 (Nat.le_refl _) (by unfold maxLen; omega) rfl
  have hC1c := Lib.hid hC1.cells
  have hC3c := Lib.hid hC3.cells
  have hC1l := Lib.hid (comsV_len Lk)
  have hC3l := Lib.hid (comsV_len Lj)
  have hC3b := Lib.hid hC3
  go_upto_region 9 with (first
    | (at_builtin; refine wpList_append_any rfl (.tmp 82) (.tmp 83) 64 rfl wr3.heap.size 54 i0 _ 11 64 Try.underlying64 hi hz0 hz1 hz2 rfl (by decide) _ 0 [] rfl hown0 AQ1 Lk.length cQ1 (comsV Lk) rfl hC1l.out hn1 (fun ad hd j u hu => (World.cell?_alloc_lt _ _ _ (World.block_lt_of_cell? _ _ (hC1c.out ad hd j u hu))).trans (hC1c.out ad hd j u hu)) (comsV_oneCell _) (by unfold maxLen; omega) (by omega) (by simp) ?_; intro v5 w5 hown5 hg5; have hb5 : Below wr3.heap.size wr3 w5 := ((Below.refl _ _).alloc (Nat.le_refl _) _).grown hg5 (by simp) (fun k hk => by cases hk; exact Nat.le_refl _))
    | (at_builtin; refine wpList_append_any rfl (.tmp 84) (.tmp 85) 64 rfl wr3.heap.size 54 i0 _ 11 64 Try.underlying64 hi hz0 hz1 hz2 rfl (by decide) v5 (0 + Lk.length) ([] ++ comsV Lk) rfl hown5 AQ3 Lj.length cQ3 (comsV Lj) rfl hC3l.out hn3 ((hC3b.out.below hb5).cells) (comsV_oneCell _) (by unfold maxLen; omega) (by omega) (by have := hb5.size; omega) ?_; intro v6 w6 hown6 hg6))
  try go_simp
  have hb6 : Below wr3.heap.size wr3 w6 := hb5.grown hg6 (by have := hb5.size; omega) (fun k hk => (hown5.lt k hk).1)
  rw [List.nil_append, Nat.zero_add, ← HLV.out, ← HLK.out] at hown6
  obtain ⟨A6, c6, rfl⟩ := own_value hown6
  have hC6 := ComsAt.own hown6
  replace hH := hH.ext hb6
  replace hXq2 := hXq2.ext hb6
  replace hXq3 := hXq3.ext hb6
  replace hC2 := (hC2.below hb6).mono hb6.size
  replace hI2 := (hI2.below hb6)
  replace hI3 := (hI3.below hb6)
  replace hbl := hbl.trans (hb6.mono hbl.size)
  have hz6 := hb6.size
  have CSM := Lib.hid (msame_any A6 AQ2 c6 cQ2 LL w6 (by omega) HCW.out hC6 hC2)
  clear hown5 hown6 hg5 hg6 hb5 hb6 hC1 hC2 hC3 hC6 hown0 hC1c hC3c hC1l hC3l hC3b hz0 hz1 hz2 hi
  by_cases ha : (a : Int) = 0
  · have s1 : ((a : Int) == 0) = true := by simpa using ha
    clear ha
    go_wp2_with (first
      | (refine wpList_wanted rfl fun K hK => ?_; first
        | (refine wp_load_all 51 _ rfl wq2.heap.size rfl 51 _ _ hXq2 Try.underlying51 rfl (hart_info hzl) ?_; refine hK _ _ ?_)
        | (refine wp_load_all 51 _ rfl wq3.heap.size rfl 51 _ _ hXq3 Try.underlying51 rfl (hart_info hzl) ?_; refine hK _ _ ?_)
        | (refine wp_eql_self 51 _ _ _ rfl z.cells rfl rfl hart_guard (EH.out _) ?_; refine hK _ _ ?_))
      | (go_at_call 42; (with_reducible refine CSM.out.mono ?_); rintro e w7 ⟨rfl, hb7⟩; have hz7 := hb7.size; replace hbl := hbl.trans (hb7.mono hbl.size); replace hXq2 := hXq2.ext hb7; replace hXq3 := hXq3.ext hb7; replace hH := hH.ext hb7; replace hI2 := hI2.below (hb7.mono (by omega)); replace hI3 := hI3.below (hb7.mono (by omega)); have c33 := (hH.cell 33).trans p2; clear hb7)
      | (go_at_call 37; (with_reducible refine (bytes_same_n AM2 AM3 cM2 cM3 M3 m.length _ wr3.heap.size wr3.heap.size HML3.out hI2 hN2 hI3 hN3).mono ?_); rintro e w8 ⟨rfl, rfl⟩))
    go_ret
    refine ⟨ret_bool ?_, hbl⟩
    first | rfl | exact decide_eq_true HP.out
  have s1 : ((a : Int) == 0) = false := by simpa using ha
  by_cases hs : h.state = 0
  · have s2 : (h.state != 0) = false := by simpa using hs
    have HP : Hid (0 < Lk.length) := Lib.hid (by have := Hsome.out; omega)
    clear ha hs
    go_wp2_with (first
      | (refine wpList_wanted rfl fun K hK => ?_; first
        | (refine wp_load_all 51 _ rfl wq2.heap.size rfl 51 _ _ hXq2 Try.underlying51 rfl (hart_info hzl) ?_; refine hK _ _ ?_)
        | (refine wp_load_all 51 _ rfl wq3.heap.size rfl 51 _ _ hXq3 Try.underlying51 rfl (hart_info hzl) ?_; refine hK _ _ ?_)
        | (refine wp_eql_self 51 _ _ _ rfl z.cells rfl rfl hart_guard (EH.out _) ?_; refine hK _ _ ?_))
      | (go_at_call 42; (with_reducible refine CSM.out.mono ?_); rintro e w7 ⟨rfl, hb7⟩; have hz7 := hb7.size; replace hbl := hbl.trans (hb7.mono hbl.size); replace hXq2 := hXq2.ext hb7; replace hXq3 := hXq3.ext hb7; replace hH := hH.ext hb7; replace hI2 := hI2.below (hb7.mono (by omega)); replace hI3 := hI3.below (hb7.mono (by omega)); have c33 := (hH.cell 33).trans p2; clear hb7)
      | (go_at_call 37; (with_reducible refine (bytes_same_n AM2 AM3 cM2 cM3 M3 m.length _ wr3.heap.size wr3.heap.size HML3.out hI2 hN2 hI3 hN3).mono ?_); rintro e w8 ⟨rfl, rfl⟩))
    go_ret
    refine ⟨ret_bool ?_, hbl⟩
    first | rfl | exact decide_eq_true HP.out
  · have s2 : (h.state != 0) = true := by simpa using hs
    clear ha hs
    go_wp2_with (first
      | (refine wpList_wanted rfl fun K hK => ?_; first
        | (refine wp_load_all 51 _ rfl wq2.heap.size rfl 51 _ _ hXq2 Try.underlying51 rfl (hart_info hzl) ?_; refine hK _ _ ?_)
        | (refine wp_load_all 51 _ rfl wq3.heap.size rfl 51 _ _ hXq3 Try.underlying51 rfl (hart_info hzl) ?_; refine hK _ _ ?_)
        | (refine wp_eql_self 51 _ _ _ rfl z.cells rfl rfl hart_guard (EH.out _) ?_; refine hK _ _ ?_))
      | (go_at_call 42; (with_reducible refine CSM.out.mono ?_); rintro e w7 ⟨rfl, hb7⟩; have hz7 := hb7.size; replace hbl := hbl.trans (hb7.mono hbl.size); replace hXq2 := hXq2.ext hb7; replace hXq3 := hXq3.ext hb7; replace hH := hH.ext hb7; replace hI2 := hI2.below (hb7.mono (by omega)); replace hI3 := hI3.below (hb7.mono (by omega)); have c33 := (hH.cell 33).trans p2; clear hb7)
      | (go_at_call 37; (with_reducible refine (bytes_same_n AM2 AM3 cM2 cM3 M3 m.length _ wr3.heap.size wr3.heap.size HML3.out hI2 hN2 hI3 hN3).mono ?_); rintro e w8 ⟨rfl, rfl⟩))
    go_ret
    refine ⟨ret_bool ?_, hbl⟩
    first | rfl | exact decide_eq_true HP.out
end Go.Proofs.Ytapgojgcmlnbgab
