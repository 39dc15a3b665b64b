/- What package model comes to, in plain Lean. -/
import Derived.Test.YtapgojgcmlnbgabKHS903
import Derived.Test.YtapgojgcmlnbgabKHS925
import Derived.Test.YtapgojgcmlnbgabKHS900
import Derived.Test.YtapgojgcmlnbgabKHS916
import Derived.Laws.AppendOwn
set_option linter.unusedSimpArgs false
set_option linter.unusedVariables false

namespace Go.Proofs.Ytapgojgcmlnbgab
open Go

/-- So many steps of a hart: the commits, the hart, the memory. -/
def runP : Nat → Hart → List Int → List Com × Hart × List Int
  | 0, h, m => ([], h, m)
  | n + 1, h, m => if h.state = 0 then (comP h m :: (runP n (goH h m) (goM h m)).1, (runP n (goH h m) (goM h m)).2) else ([], h, m)
theorem runP_stop {h : Hart} (hs : h.state ≠ 0) (m : List Int) : ∀ n, runP n h m = ([], h, m)
  | 0 => rfl
  | n + 1 => by unfold runP; rw [if_neg hs]
theorem runP_step {h : Hart} (hs : h.state = 0) (m : List Int) (n : Nat) : runP (n + 1) h m = (comP h m :: (runP n (goH h m) (goM h m)).1, (runP n (goH h m) (goM h m)).2) := by
  conv => lhs; unfold runP
  rw [if_pos hs]
theorem runP_add (a b : Nat) : ∀ (h : Hart) (m : List Int), runP (a + b) h m = ((runP a h m).1 ++ (runP b (runP a h m).2.1 (runP a h m).2.2).1, (runP b (runP a h m).2.1 (runP a h m).2.2).2) := by
  induction a with
  | zero => intro h m; simp [runP]
  | succ a ih =>
    intro h m
    rw [show a + 1 + b = (a + b) + 1 by omega]
    by_cases hs : h.state = 0
    · rw [runP_step hs, runP_step hs, ih]
      rfl
    · rw [runP_stop hs, runP_stop hs, runP_stop hs]
      rfl
structure RunOk (h : Hart) (m : List Int) : Prop where
  hart : h.Wf
  may : mayH h = true
  bytes : Bytes m
theorem RunOk.next {h : Hart} {m : List Int} (k : RunOk h m) : RunOk (goH h m) (goM h m) :=
  ⟨applyH_wf (comP_wf k.hart k.bytes) k.hart, applyH_may (comP_wf k.hart k.bytes) k.may, applyM_bytes k.bytes⟩
theorem goM_length (h : Hart) (m : List Int) : (goM h m).length = m.length := applyM_length _ _
theorem runP_ok : ∀ (n : Nat) {h : Hart} {m : List Int}, RunOk h m → RunOk (runP n h m).2.1 (runP n h m).2.2 ∧ (runP n h m).2.2.length = m.length ∧ (∀ c ∈ (runP n h m).1, c.Wf ∧ c.Fits m.length) ∧ (runP n h m).1.length ≤ n ∧ ((runP n h m).1.length = n ∨ (runP n h m).2.1.state ≠ 0)
  | 0, _, _, k => ⟨k, rfl, fun c hc => (by cases hc), Nat.le_refl _, Or.inl rfl⟩
  | n + 1, h, m, k => by
    by_cases hs : h.state = 0
    · rw [runP_step hs]
      obtain ⟨h1, h2, h3, h4, h5⟩ := runP_ok n k.next
      rw [goM_length] at h2 h3
      refine ⟨h1, h2, fun c hc => ?_, by simpa using h4, by simpa using h5⟩
      rcases List.mem_cons.1 hc with rfl | hc
      · exact ⟨comP_wf k.hart k.bytes, comP_fits _ _⟩
      · exact h3 c hc
    · rw [runP_stop hs]
      exact ⟨k, rfl, fun c hc => (by cases hc), Nat.zero_le _, Or.inr hs⟩
theorem runP_some {n : Nat} {h : Hart} (m : List Int) (hn : 0 < n) (hs : h.state = 0) : 0 < (runP n h m).1.length := by
  obtain ⟨k, rfl⟩ : ∃ k, n = k + 1 := ⟨n - 1, by omega⟩
  rw [runP_step hs]
  simp
end Go.Proofs.Ytapgojgcmlnbgab

/- Rows of commits. -/
namespace Go.Proofs.Ytapgojgcmlnbgab
open Go.RowKit

/-- The cells of a row of commits. -/
def comsV (l : List Com) : List Value := l.flatMap fun c => c.cells.toList
theorem com_len (c : Com) : c.cells.toList.length = 11 := rfl
theorem comsV_len : ∀ l : List Com, (comsV l).length = l.length * 11
  | [] => rfl
  | c :: l => by
    have ih := comsV_len l
    unfold comsV at ih ⊢
    rw [List.flatMap_cons, List.length_append, ih, com_len, List.length_cons]
    omega
theorem comsV_append (l k : List Com) : comsV (l ++ k) = comsV l ++ comsV k := by unfold comsV; rw [List.flatMap_append]
theorem comsV_one (c : Com) : comsV [c] = c.cells.toList := by unfold comsV; simp
theorem comsV_at : ∀ (l : List Com) (k : Nat) (c : Com), l[k]? = some c → ((comsV l).drop (k * 11)).take 11 = c.cells.toList
  | [], _, _, h => by cases h
  | d :: l, 0, c, h => by
    cases h
    show ((comsV (d :: l)).drop 0).take 11 = _
    have e : comsV (d :: l) = d.cells.toList ++ comsV l := by unfold comsV; rw [List.flatMap_cons]
    rw [e, List.drop_zero]
    exact List.take_left' (com_len d)
  | d :: l, k + 1, c, h => by
    have e : comsV (d :: l) = d.cells.toList ++ comsV l := by unfold comsV; rw [List.flatMap_cons]
    rw [e, show (k + 1) * 11 = 11 + k * 11 by omega, ← List.drop_drop, List.drop_left' (com_len d)]
    exact comsV_at l k c (by simpa using h)
theorem comsV_oneCell (l : List Com) : ∀ u ∈ comsV l, u.oneCell' = true := by
  intro u hu
  unfold comsV at hu
  obtain ⟨c, _, hc⟩ := List.mem_flatMap.1 hu
  have := cells_one c
  rw [Array.all_eq_true_iff_forall_mem] at this
  exact this u (by simpa using hc)
/-- A row of commits that reads, below a place. -/
def ComsAt (w : World) (B : Nat) (A : Option Addr) (l : List Com) : Prop :=
  l ≠ [] → ∃ g cur, A = some ⟨g, 0, none⟩ ∧ g < B ∧ Blk w g 54 cur ∧ l.length * 11 ≤ cur.size ∧ cur.toList.take (l.length * 11) = comsV l
theorem ComsAt.below {w w' : World} {B : Nat} {A : Option Addr} {l : List Com} (h : ComsAt w B A l) (hb : Below B w w') : ComsAt w' B A l := fun hne => by
  obtain ⟨g, cur, h1, h2, h3, h4, h5⟩ := h hne
  exact ⟨g, cur, h1, h2, h3.below hb h2, h4, h5⟩
theorem ComsAt.mono {w : World} {B B' : Nat} {A : Option Addr} {l : List Com} (h : ComsAt w B A l) (hB : B ≤ B') : ComsAt w B' A l := fun hne => by
  obtain ⟨g, cur, h1, h2, h3, h4, h5⟩ := h hne
  exact ⟨g, cur, h1, Nat.lt_of_lt_of_le h2 hB, h3, h4, h5⟩
theorem ComsAt.own {w : World} {base : Nat} {A : Option Addr} {cap n : Nat} {l : List Com} (h : w.ownsRow base 54 11 (.slice A n cap) n (comsV l)) : ComsAt w w.heap.size A l := fun hne => by
  have hn : n = l.length := by have := h.1; rw [comsV_len] at this; omega
  have h0 : 0 < l.length := List.length_pos_iff.2 hne
  subst hn
  rcases h.2 with ⟨_, h2⟩ | ⟨g, c, cur, hv, _, hh, hc, _, hs, ht⟩
  · omega
  · injection hv with hv1 hv2 hv3
    subst hv1
    have hB : Blk w g 54 cur := hh
    exact ⟨g, cur, rfl, hB.lt, hB, by rw [hs]; exact Nat.mul_le_mul_right 11 hc, ht⟩
theorem ComsAt.len {w : World} {base : Nat} {A : Option Addr} {cap n : Nat} {l : List Com} (h : w.ownsRow base 54 11 (.slice A n cap) n (comsV l)) : n = l.length := by
  have := h.1; rw [comsV_len] at this; omega
/-- The cells, for an append. -/
theorem ComsAt.cells {w : World} {B : Nat} {A : Option Addr} {l : List Com} (h : ComsAt w B A l) : ∀ ad, A = some ad → ∀ j u, (comsV l)[j]? = some u → w.cell? (ad.add j) = some u := by
  intro ad hA j u hu
  have hne : l ≠ [] := by intro e; subst e; cases hu
  obtain ⟨g, cur, h1, h2, h3, h4, h5⟩ := h hne
  rw [h1] at hA
  cases hA
  rw [Addr.add_lit, Nat.zero_add, h3.cell, ← Array.getElem?_toList, ← hu, ← h5, List.getElem?_take]
  rw [if_pos]
  have := (List.getElem?_eq_some_iff.1 hu).1
  rw [comsV_len] at this
  exact this
theorem ComsAt.at_ {w : World} {B : Nat} {A : Option Addr} {l : List Com} (h : ComsAt w B A l) {k : Nat} (hk : k < l.length) :
    ∃ g cur, A = some ⟨g, 0, none⟩ ∧ g < B ∧ Blk w g 54 cur ∧ k * 11 + 11 ≤ cur.size ∧ cur.extract (k * 11) (k * 11 + 11) = (l[k]'hk).cells := by
  have hne : l ≠ [] := by intro e; subst e; simp at hk
  obtain ⟨g, cur, h1, h2, h3, h4, h5⟩ := h hne
  have hk11 : k * 11 + 11 ≤ l.length * 11 := by omega
  refine ⟨g, cur, h1, h2, h3, by omega, ?_⟩
  apply Array.toList_inj.1
  rw [Array.toList_extract, List.extract_eq_take_drop, show k * 11 + 11 - k * 11 = 11 by omega, ← comsV_at l k _ (List.getElem?_eq_getElem hk), ← h5, List.drop_take, List.take_take]
  congr 1
  omega
/-- A slice literal of one struct. -/
theorem lit_cells (w : World) (cs : Array Value) (t : TypeId) : ∀ ad, some (⟨w.heap.size, 0, none⟩ : Addr) = some ad → ∀ j v, cs.toList[j]? = some v → (w.alloc (.cells cs t)).cell? (ad.add j) = some v := by
  intro ad h j v hj
  cases h
  rw [Addr.add_lit, Nat.zero_add, World.cell?_alloc_new]
  simpa using hj
theorem neq_self' {P : Program} {t : TypeId} {cs : Array Value} (w : World) (h : (binOp .eql t (.agg cs) (.agg cs)).run P w = .ok (.bool true) w) : (binOp .neq t (.agg cs) (.agg cs)).run P w = .ok (.bool false) w := by
  rw [run_eql_struct] at h
  rw [run_neq_struct]
  generalize hr : (Op.equalIn 10000 t (.agg cs) (.agg cs)).run P w = r at h ⊢
  cases r with
  | ok b w' =>
    simp only [Result.andThen_ok] at h ⊢
    injection h with h1 h2
    injection h1 with h1
    subst h1 h2
    rfl
  | _ => cases h
theorem wp_neq_self' {P : Program} {o : Oper} {a : Act} {w : World} {K : Act → World → Prop} {Q : Exit → Act → World → Prop} (t : TypeId) (x y : Operand) (r : TypeId) (ho : o.op = .binOp .neq t x y r) (cs : Array Value) (hx : a.eval x = .agg cs) (hy : a.eval y = .agg cs)
    (hg : P.eqGuardType P.depth t = false) (hs : (binOp .neq t (.agg cs) (.agg cs)).run P w = .ok (.bool false) w) (hk : K (a.put o.dst (.bool false)) w) : o.wp P a w K Q := by
  have hq := run_eqGuard_agg (P := P) (w := w) .neq t x y cs cs hg
  unfold Oper.wp execOp
  simp only [ho, hx, hy, hs, hq, Sem.run_bind, Sem.run_pure, Result.andThen_ok]
  exact hk
theorem coms_info : (Try.prog.info? 54).map (fun i => (i.zero, i.size, i.bytes)) = some (some (.agg com0.cells), 11, 64) := by kernel_rfl
end Go.Proofs.Ytapgojgcmlnbgab

/- humpyardref5.Same, of two rows that read alike; Wrong. -/
namespace Go.Proofs.Ytapgojgcmlnbgab
open Go.RowKit

theorem com_size : (Try.prog.info? 54).map (·.size) = some 11 := by kernel_rfl
set_option maxRecDepth 100000 in
set_option maxHeartbeats 1000000 in
theorem msame_any (A A' : Option Addr) (cap cap' : Nat) (l : List Com) (w : World) (hl : l.length ≤ 1000000) (hw : ∀ c ∈ l, c.Wf) (hA : ComsAt w w.heap.size A l) (hA' : ComsAt w w.heap.size A' l) :
    Calls Try.prog 42 #[.slice A l.length cap, .slice A' l.length cap'] w fun e w' => e = .returned (.bool true) ∧ Below w.heap.size w w' := by
  obtain ⟨N, hN⟩ : ∃ N, N = l.length := ⟨_, rfl⟩
  rw [← hN] at hl ⊢
  have HA := Lib.hid hA
  have HA' := Lib.hid hA'
  have HW := Lib.hid hw
  have HN := Lib.hid hN
  clear hA hA' hw hN
  have e0 : ((N : Int) != (N : Int)) = false := by simp
  go_enter Try.func42, Try.ntmps42
  go_upto_region 4 with (fail)
  clear e0
  go_loopw [5] (fun v wr => ∃ k : Nat, v = .int .i64 k ∧ k ≤ N ∧ Below w.heap.size w wr) (fun v _ => N + 1 - (intOf v).toNat)
  case atStart => exact ⟨0, rfl, Nat.zero_le _, Below.refl _ _⟩
  case round =>
    obtain ⟨k, rfl, hk, hb⟩ := hrel
    by_cases hlt : k < N
    · have hk' : k < l.length := by rw [← HN.out]; exact hlt
      obtain ⟨g, cur, rfl, hgB, hB, hs, he⟩ := (HA.out.below hb).at_ hk'
      obtain ⟨g', cur', rfl, hgB', hB', hs', he'⟩ := (HA'.out.below hb).at_ hk'
      have hc := Lib.hid (com_eql (HW.out _ (List.getElem_mem hk')))
      generalize l[k] = c at he he' hc
      have He := Lib.hid he
      have He' := Lib.hid he'
      clear he he'
      go_upto_region 6 with (fail)
      refine wp_region_below (by kernel_rfl) (by kernel_rfl) ?_
      repeat' (first
        | refine wpMix_plain rfl ?_
        | (refine' wpMixW_quiet _ (fun wq hwq K hK => ?_) ?_ ?_
           rotate_left 1
           · (skip
              first
              | ((first | (refine wp_load_blk 54 _ rfl g (k * 11) rfl 54 cur 11 _ (hB.ext hwq) Try.underlying54 rfl com_size hs ?_; rw [He.out]; exact hK _ hwq) | (refine wp_load_blk 54 _ rfl g' (k * 11) rfl 54 cur' 11 _ (hB'.ext hwq) Try.underlying54 rfl com_size hs' ?_; rw [He'.out]; exact hK _ hwq) | (refine wp_neq_self' 54 _ _ _ rfl c.cells rfl rfl com_guard (neq_self' _ (hc.out _)) ?_; exact hK _ hwq)))
              | (go_wp2_with (fail)
                 all_goals exact hK _ hwq))
           · rfl)
        | (refine wpMix_guardT rfl rfl rfl ?_ ?_ <;> intro hc <;> first | (cases hc; done) | ((try cases hc); simp only [Act.put, List.setIfInBounds_toArray, List.set_cons_succ, List.set_cons_zero]))
        | (refine wpMix_guardF rfl rfl rfl ?_ ?_ <;> intro hc <;> first | (cases hc; done) | ((try cases hc); simp only [Act.put, List.setIfInBounds_toArray, List.set_cons_succ, List.set_cons_zero]))
        | refine wpMix_guardU rfl rfl rfl ?_)
      all_goals
        refine wpMix_nil ?_
        intro w9 hw9
        simp only [Act.put, List.setIfInBounds_toArray, List.set_cons_succ, List.set_cons_zero]
        have hb9 := hb.trans (hw9.mono hb.size)
        go_wp2
        go_roundw
        case rel => exact ⟨k + 1, by go_num, by omega, hb9⟩
        case measure => simp [intOf]; omega
    · obtain rfl : k = N := by omega
      have e1 : decide ((k : Int) < k) = false := by simp
      go_wp2
      go_ret
      exact ⟨rfl, hb⟩
/-- What is wrong with a run. -/
def wrongP (h : Hart) (m : List Int) (steps : Int) : Int := if mayH h = false ∨ 4096 < m.length then 2 else if steps < 0 ∨ 2000 < steps then 3 else 0
set_option maxRecDepth 100000 in
set_option maxHeartbeats 1000000 in
theorem mwrong_any (h : Hart) (A : Option Addr) (cap : Nat) (m : List Int) (steps : Int) (w : World) (hh : h.Wf) (hl : m.length ≤ 140737488351232) (s0 : -9223372036854775808 ≤ steps) (s1 : steps ≤ 9223372036854775807) :
    Calls Try.prog 40 #[.agg h.cells, .slice A m.length cap, .int .i64 steps] w fun e w' => e = .returned (.int .i64 (wrongP h m steps)) ∧ Below w.heap.size w w' := by
  have CR := Lib.hid (fun W => rmay_any h W hh.len)
  generalize hx : wrongP h m steps = X
  unfold wrongP at hx
  have Hx := Lib.hid hx
  clear hx
  obtain ⟨N, hN⟩ : ∃ N, N = m.length := ⟨_, rfl⟩
  rw [← hN] at Hx hl ⊢
  clear hN
  rcases hm : mayH h with _ | _
  all_goals
    rw [hm] at CR Hx
    go_enter Try.func40, Try.ntmps40
    go_upto_region 1 with (fail)
    go_simp
    refine wp_gen fun wa hq => ?_
    have hH : Blk wa w.heap.size 51 h.cells := by rw [hq]; exact Blk.new w _ _
    have hbl : Below w.heap.size w wa := by rw [hq]; exact (Below.refl _ _).alloc (Nat.le_refl _) _
    clear hq
    go_wp2_with (first
      | (refine wpList_load_all rfl 51 _ rfl w.heap.size rfl 51 _ _ hH Try.underlying51 rfl (hart_info hh.len) ?_)
      | (go_at_call 34; (with_reducible refine (CR.out _).mono ?_); rintro e w2 ⟨rfl, hb2⟩))
    all_goals
      go_ret
      refine ⟨ret_int ?_, hbl.trans (hb2.mono hbl.size)⟩
      have hX := Hx.out
      simp at *
      first | omega | (rw [← hX]; (repeat' split) <;> omega)
end Go.Proofs.Ytapgojgcmlnbgab

/- model.Run. -/
namespace Go.Proofs.Ytapgojgcmlnbgab
open Go.RowKit

section
variable {P : Program} {fn : Func} {tmps : Array Value} {w : World} {ad : Addr} {v x y z : Value} {p a b c : Tmp} {ty : TypeId}
theorem results_tctt (h : fn.results = #[.tmp a, .cell p ty, .tmp b, .tmp c]) (hp : tmps.getD p undef = .pointer (some ad)) (ha : tmps.getD a undef = x) (hb : tmps.getD b undef = y) (hc : tmps.getD c undef = z)
    (hl : (loadVar ty ad).run P w = .ok v w) : (results fn tmps).run P w = .ok (.tuple #[x, v, y, z]) w := by
  have hp' : tmps[p]?.getD undef = .pointer (some ad) := by simpa using hp
  have ha' : tmps[a]?.getD undef = x := by simpa using ha
  have hb' : tmps[b]?.getD undef = y := by simpa using hb
  have hc' : tmps[c]?.getD undef = z := by simpa using hc
  simp [results, h, hp', ha', hb', hc', asAddr, hl]
theorem results_tct (h : fn.results = #[.tmp a, .cell p ty, .tmp b]) (hp : tmps.getD p undef = .pointer (some ad)) (ha : tmps.getD a undef = x) (hb : tmps.getD b undef = y)
    (hl : (loadVar ty ad).run P w = .ok v w) : (results fn tmps).run P w = .ok (.tuple #[x, v, y]) w := by
  have hp' : tmps[p]?.getD undef = .pointer (some ad) := by simpa using hp
  have ha' : tmps[a]?.getD undef = x := by simpa using ha
  have hb' : tmps[b]?.getD undef = y := by simpa using hb
  simp [results, h, hp', ha', hb', asAddr, hl]
end
theorem own_two {w w' : World} {base : Nat} {e : TypeId} {size : Nat} {v : Value} {n : Nat} {xs : List Value} (ho : w.ownsRow base e size v n xs) {b : Nat} {mo : Option Nat} (k : Two (some b) mo w w') (hb : b < base) (hm : ∀ j, mo = some j → j < base) : w'.ownsRow base e size v n xs :=
  ⟨ho.1, ho.2.imp id fun ⟨g, cap, cur, e, l, hh, r⟩ => ⟨g, cap, cur, e, l, by
    have hg : g < w.heap.size := by
      rcases Nat.lt_or_ge g w.heap.size with h' | h'
      · exact h'
      · rw [Array.getElem?_eq_none h'] at hh; cases hh
    rw [← hh]
    exact k.block g hg (fun e => by injection e; omega) (fun e => by have := hm g e.symm; omega), r⟩⟩
theorem own_far {w w' : World} {base : Nat} {e : TypeId} {size : Nat} {v : Value} {n : Nat} {xs : List Value} (ho : w.ownsRow base e size v n xs) {g : Nat} (k : w.grownBy w' (some g)) (hg : g < base) : w'.ownsRow base e size v n xs :=
  own_two ho (b := g) (mo := none) ⟨k.os, k.tape, k.output, k.size, fun j hj h1 _ => k.block j hj h1⟩ hg (fun j hj => by cases hj)
def sliceLen : Value → Nat
  | .slice _ n _ => n
  | _ => 0
set_option maxRecDepth 100000 in
set_option maxHeartbeats 1000000 in
theorem run_no (h : Hart) (A : Option Addr) (cap : Nat) (m : List Int) (steps : Int) (w : World) (hh : h.Wf) (hl : m.length ≤ 140737488351232) (s0 : -9223372036854775808 ≤ steps) (s1 : steps ≤ 9223372036854775807) (hno : wrongP h m steps ≠ 0) :
    Calls Try.prog 39 #[.agg h.cells, .slice A m.length cap, .int .i64 steps] w fun e w' => e = .returned (.tuple #[.slice none 0 0, .agg hart0.cells, .slice none 0 0, .int .i64 (wrongP h m steps)]) ∧ Below w.heap.size w w' := by
  have CM := Lib.hid (fun W => hmay_any h W hh.len)
  obtain ⟨X, hx⟩ : ∃ X, wrongP h m steps = X := ⟨_, rfl⟩
  rw [hx] at hno ⊢
  unfold wrongP at hx
  obtain ⟨N, hN⟩ : ∃ N, N = m.length := ⟨_, rfl⟩
  rw [← hN] at hx hl ⊢
  clear hN
  rcases hm : mayH h with _ | _
  · rw [hm] at CM hx
    obtain rfl : X = 2 := by rw [← hx, if_pos (Or.inl rfl)]
    clear hx hno hm
    go_enter Try.func39, Try.ntmps39
    go_upto_region 1 with (fail)
    go_simp
    refine wp_gen fun wa hq => ?_
    have hH : Blk wa w.heap.size 51 h.cells := by rw [hq]; exact (Blk.new w _ _).alloc _
    have hR : Blk wa (w.heap.size + 1) 51 hart0.cells := by rw [hq]; exact Blk.newAt (w.alloc _) 51 _ (by simp)
    have hbl : Below w.heap.size w wa := by rw [hq]; exact ((Below.refl _ _).alloc (Nat.le_refl _) _).alloc (by simp) _
    clear hq
    go_wp2_with (first
      | (refine wpList_load_all rfl 51 _ rfl w.heap.size rfl 51 _ _ hH Try.underlying51 rfl (hart_info hh.len) ?_)
      | (go_at_call 33; (with_reducible refine (CM.out _).mono ?_); rintro e w2 ⟨rfl, hb2⟩; replace hbl := hbl.trans (hb2.mono hbl.size); replace hR := hR.ext hb2; clear hb2)
      | (refine wpList_build_to rfl 51 _ rfl [] rfl _ built_hart0 ?_)
      | (refine wpList_store_all rfl 51 _ _ rfl (w.heap.size + 1) hart0.cells rfl rfl 51 _ hR (hart_info hart0_len) rfl (hart_one hart0) ?_; intro w6 hB6 hg6))
    refine bodyPost_ret (results_tctt rfl rfl rfl rfl rfl (hart_load hart0_len hB6)) rfl ?_
    exact ⟨rfl, below_grown hbl hg6 hbl.size (by omega)⟩
  rw [hm] at CM hx
  by_cases hN : 4096 < N
  · obtain rfl : X = 2 := by rw [← hx, if_pos (Or.inr hN)]
    have f1 : decide ((4096 : Int) < (N : Int)) = true := decide_eq_true (by omega)
    clear hx hno hm
    go_enter Try.func39, Try.ntmps39
    go_upto_region 1 with (fail)
    go_simp
    refine wp_gen fun wa hq => ?_
    have hH : Blk wa w.heap.size 51 h.cells := by rw [hq]; exact (Blk.new w _ _).alloc _
    have hR : Blk wa (w.heap.size + 1) 51 hart0.cells := by rw [hq]; exact Blk.newAt (w.alloc _) 51 _ (by simp)
    have hbl : Below w.heap.size w wa := by rw [hq]; exact ((Below.refl _ _).alloc (Nat.le_refl _) _).alloc (by simp) _
    clear hq
    go_wp2_with (first
      | (refine wpList_load_all rfl 51 _ rfl w.heap.size rfl 51 _ _ hH Try.underlying51 rfl (hart_info hh.len) ?_)
      | (go_at_call 33; (with_reducible refine (CM.out _).mono ?_); rintro e w2 ⟨rfl, hb2⟩; replace hbl := hbl.trans (hb2.mono hbl.size); replace hR := hR.ext hb2; clear hb2)
      | (refine wpList_build_to rfl 51 _ rfl [] rfl _ built_hart0 ?_)
      | (refine wpList_store_all rfl 51 _ _ rfl (w.heap.size + 1) hart0.cells rfl rfl 51 _ hR (hart_info hart0_len) rfl (hart_one hart0) ?_; intro w6 hB6 hg6))
    refine bodyPost_ret (results_tctt rfl rfl rfl rfl rfl (hart_load hart0_len hB6)) rfl ?_
    exact ⟨rfl, below_grown hbl hg6 hbl.size (by omega)⟩
  rw [if_neg (by simp; omega)] at hx
  have f1 : decide ((4096 : Int) < (N : Int)) = false := decide_eq_false (by omega)
  by_cases hs : steps < 0
  · obtain rfl : X = 3 := by rw [← hx, if_pos (Or.inl hs)]
    have f2 : decide (steps < 0) = true := decide_eq_true hs
    clear hx hno hm hs
    go_enter Try.func39, Try.ntmps39
    go_upto_region 1 with (fail)
    go_simp
    refine wp_gen fun wa hq => ?_
    have hH : Blk wa w.heap.size 51 h.cells := by rw [hq]; exact (Blk.new w _ _).alloc _
    have hR : Blk wa (w.heap.size + 1) 51 hart0.cells := by rw [hq]; exact Blk.newAt (w.alloc _) 51 _ (by simp)
    have hbl : Below w.heap.size w wa := by rw [hq]; exact ((Below.refl _ _).alloc (Nat.le_refl _) _).alloc (by simp) _
    clear hq
    go_wp2_with (first
      | (refine wpList_load_all rfl 51 _ rfl w.heap.size rfl 51 _ _ hH Try.underlying51 rfl (hart_info hh.len) ?_)
      | (go_at_call 33; (with_reducible refine (CM.out _).mono ?_); rintro e w2 ⟨rfl, hb2⟩; replace hbl := hbl.trans (hb2.mono hbl.size); replace hR := hR.ext hb2; clear hb2)
      | (refine wpList_build_to rfl 51 _ rfl [] rfl _ built_hart0 ?_)
      | (refine wpList_store_all rfl 51 _ _ rfl (w.heap.size + 1) hart0.cells rfl rfl 51 _ hR (hart_info hart0_len) rfl (hart_one hart0) ?_; intro w6 hB6 hg6))
    refine bodyPost_ret (results_tctt rfl rfl rfl rfl rfl (hart_load hart0_len hB6)) rfl ?_
    exact ⟨rfl, below_grown hbl hg6 hbl.size (by omega)⟩
  by_cases hs2 : 2000 < steps
  · obtain rfl : X = 3 := by rw [← hx, if_pos (Or.inr hs2)]
    have f2 : decide (steps < 0) = false := decide_eq_false hs
    have f3 : decide (2000 < steps) = true := decide_eq_true hs2
    clear hx hno hm hs hs2
    go_enter Try.func39, Try.ntmps39
    go_upto_region 1 with (fail)
    go_simp
    refine wp_gen fun wa hq => ?_
    have hH : Blk wa w.heap.size 51 h.cells := by rw [hq]; exact (Blk.new w _ _).alloc _
    have hR : Blk wa (w.heap.size + 1) 51 hart0.cells := by rw [hq]; exact Blk.newAt (w.alloc _) 51 _ (by simp)
    have hbl : Below w.heap.size w wa := by rw [hq]; exact ((Below.refl _ _).alloc (Nat.le_refl _) _).alloc (by simp) _
    clear hq
    go_wp2_with (first
      | (refine wpList_load_all rfl 51 _ rfl w.heap.size rfl 51 _ _ hH Try.underlying51 rfl (hart_info hh.len) ?_)
      | (go_at_call 33; (with_reducible refine (CM.out _).mono ?_); rintro e w2 ⟨rfl, hb2⟩; replace hbl := hbl.trans (hb2.mono hbl.size); replace hR := hR.ext hb2; clear hb2)
      | (refine wpList_build_to rfl 51 _ rfl [] rfl _ built_hart0 ?_)
      | (refine wpList_store_all rfl 51 _ _ rfl (w.heap.size + 1) hart0.cells rfl rfl 51 _ hR (hart_info hart0_len) rfl (hart_one hart0) ?_; intro w6 hB6 hg6))
    refine bodyPost_ret (results_tctt rfl rfl rfl rfl rfl (hart_load hart0_len hB6)) rfl ?_
    exact ⟨rfl, below_grown hbl hg6 hbl.size (by omega)⟩
  exact absurd (by rw [← hx, if_neg (by omega)]) hno
end Go.Proofs.Ytapgojgcmlnbgab

/- model.Run, of what may be. -/
namespace Go.Proofs.Ytapgojgcmlnbgab
open Go.RowKit

set_option maxRecDepth 100000 in
set_option maxHeartbeats 4000000 in
theorem run_ok (h : Hart) (A : Option Addr) (cap : Nat) (m : List Int) (steps : Int) (w : World) (hh : h.Wf) (hl : m.length ≤ 140737488351232) (hm : Bytes m) (hA : IntsAt w w.heap.size .u8 A m) (hnil : A = none → m = []) (hno : wrongP h m steps = 0) :
    Calls Try.prog 39 #[.agg h.cells, .slice A m.length cap, .int .i64 steps] w fun e w' => ∃ AL cL A2 c2, e = .returned (.tuple #[.slice AL (runP steps.toNat h m).1.length cL, .agg (runP steps.toNat h m).2.1.cells, .slice A2 m.length c2, .int .i64 0]) ∧ Below w.heap.size w w' ∧
      w'.ownsRow w.heap.size 54 11 (.slice AL (runP steps.toNat h m).1.length cL) (runP steps.toNat h m).1.length (comsV (runP steps.toNat h m).1) ∧ w'.ownsRow w.heap.size 5 1 (.slice A2 m.length c2) m.length ((runP steps.toNat h m).2.2.map (.int .u8)) := by
  obtain ⟨⟨hmay, hlen⟩, hs0, hs1⟩ : (mayH h = true ∧ m.length ≤ 4096) ∧ 0 ≤ steps ∧ steps ≤ 2000 := by
    unfold wrongP at hno
    split at hno
    · cases hno
    · rename_i h1
      split at hno
      · cases hno
      · exact ⟨by cases hh : mayH h <;> simp_all <;> omega, by omega⟩
  obtain ⟨N, rfl⟩ := Int.eq_ofNat_of_zero_le hs0
  rw [Int.toNat_natCast]
  have CM := Lib.hid (fun W => hmay_any h W hh.len)
  rw [hmay] at CM
  have f1 : decide ((4096 : Int) < (m.length : Int)) = false := decide_eq_false (by omega)
  have f2 : decide ((2000 : Int) < (N : Int)) = false := decide_eq_false (by omega)
  have CC := Lib.hid (fun W (hW : IntsAt W W.heap.size .u8 A m) => cloneBytes_any A m.length cap (m.map (.int .u8)) W (by omega) (by simp) (ints_oneCell _ _) hW.cells (fun e => by rw [hnil e]; rfl))
  obtain ⟨R, hRn⟩ : ∃ R, runP N h m = R := ⟨_, rfl⟩
  have hrun : RunOk h m ∧ m.length = m.length ∧ runP N h m = ([] ++ (runP (N - 0) h m).1, (runP (N - 0) h m).2) := ⟨⟨hh, hmay, hm⟩, rfl, by simp⟩
  rw [hRn] at hrun ⊢
  clear hno hRn
  obtain ⟨i0, hi, hz0, hz1, hz2⟩ := info_parts coms_info
  go_enter Try.func39, Try.ntmps39
  go_upto_region 1 with (fail)
  go_simp
  refine wp_gen fun wa hq => ?_
  have hH : Blk wa w.heap.size 51 h.cells := by rw [hq]; exact (Blk.new w _ _).alloc _
  have hR : Blk wa (w.heap.size + 1) 51 hart0.cells := by rw [hq]; exact Blk.newAt (w.alloc _) 51 _ (by simp)
  have hbl : Below w.heap.size w wa := by rw [hq]; exact ((Below.refl _ _).alloc (Nat.le_refl _) _).alloc (by simp) _
  clear hq
  go_upto_region 5 with (first
    | (refine wpList_load_all rfl 51 _ rfl w.heap.size rfl 51 _ _ hH Try.underlying51 rfl (hart_info hh.len) ?_)
    | (go_at_call 33; (with_reducible refine (CM.out _).mono ?_); rintro e w2 ⟨rfl, hb2⟩; replace hbl := hbl.trans (hb2.mono hbl.size); replace hR := hR.ext hb2; replace hH := hH.ext hb2; clear hb2))
  try go_simp
  clear f1 f2 CM
  have hA3 := (hA.below hbl).mono hbl.size
  have hz2' := hR.lt
  go_upto_region 6 with (go_at_call 67; (with_reducible refine (CC.out _ hA3).mono ?_); rintro e w3 ⟨v, rfl, hM, hb3⟩; obtain ⟨A3, cap3, rfl⟩ := own_value hM)
  try go_simp
  replace hbl := hbl.trans (hb3.mono hbl.size)
  replace hH := hH.ext hb3
  replace hR := hR.ext hb3
  have hzM := hb3.size
  have hmb : ∀ j, (Value.slice A3 m.length cap3).ownBlock = some j → w2.heap.size ≤ j ∧ j < w3.heap.size := fun j hj => hM.lt j hj
  obtain ⟨B1, hB1⟩ : ∃ B1, B1 = w2.heap.size := ⟨_, rfl⟩
  obtain ⟨B2, hB2⟩ : ∃ B2, B2 = w3.heap.size := ⟨_, rfl⟩
  rw [← hB1] at hM hmb hz2' hzM
  rw [← hB2] at hmb hzM
  have hB2' : B2 ≤ w3.heap.size := by omega
  clear hB1 hB2 hA3 hb3 CC
  have HRUN := Lib.hid hrun
  clear hrun
  go_upto_region 7 with (fail)
  go_loopw [11] (fun v wr => ∃ (k : Nat) (AL : Option Addr) (cL : Nat) (ls : List Com) (h' : Hart) (m' : List Int), v = .slice AL k cL ∧ k ≤ N ∧ Below w.heap.size w wr ∧ Blk wr w.heap.size 51 h'.cells ∧ Blk wr (w.heap.size + 1) 51 hart0.cells ∧ wr.ownsRow B1 5 1 (.slice A3 m.length cap3) m.length (m'.map (.int .u8)) ∧ wr.ownsRow B2 54 11 (.slice AL k cL) k (comsV ls) ∧ B2 ≤ wr.heap.size ∧ Hid (RunOk h' m' ∧ m'.length = m.length ∧ R = (ls ++ (runP (N - k) h' m').1, (runP (N - k) h' m').2))) (fun v _ => N + 1 - sliceLen v)
  case atStart => exact ⟨0, none, 0, [], h, m, rfl, Nat.zero_le _, hbl, hH, hR, hM, World.ownsRow_nil _ _ _ _, hB2', Lib.hid ⟨HRUN.out.1, rfl, HRUN.out.2.2⟩⟩
  case round =>
    clear hbl hH hR hM hB2' HRUN
    obtain ⟨k, AL, cL, ls, h', m', rfl, hk, hb, hH, hR, hM, hL, hB2', Hrel⟩ := hrel
    obtain ⟨hok, hml, Hr⟩ := Hrel.out
    clear Hrel
    have c33 := (hH.cell 33).trans (Hart.cells_pc hok.hart.len).2.1
    by_cases hlt : k < N
    · have t1 : decide ((k : Int) < (N : Int)) = true := decide_eq_true (by omega)
      by_cases hst : h'.state = 0
      · have t2 : (h'.state == 0) = true := by simpa using hst
        have hnx := hok.next
        rw [show N - k = (N - (k + 1)) + 1 by omega, runP_step hst] at Hr
        have hml2 : (goM h' m').length = m.length := (applyM_length _ _).trans hml
        have CG : Calls Try.prog 68 #[.pointer (some ⟨w.heap.size, 0, none⟩), .slice A3 m.length cap3] wr fun e w' => e = .returned (.agg (comP h' m').cells) ∧ Blk w' w.heap.size 51 (goH h' m').cells ∧ w'.ownsRow B1 5 1 (.slice A3 m.length cap3) m.length ((goM h' m').map (.int .u8)) ∧ Two (some w.heap.size) (Value.slice A3 m.length cap3).ownBlock wr w' := by
          rw [← hml] at hM ⊢
          exact go_any h' w.heap.size 51 A3 B1 cap3 m' wr hok.hart hH (by omega) hok.bytes hM (fun e => by have := hM.lt _ e; omega)
        have CG := Lib.hid CG
        generalize comP h' m' = C at *
        generalize goH h' m' = h9 at *
        generalize goM h' m' = m9 at *
        obtain ⟨HR, hHR⟩ : ∃ HR, HR = runP (N - (k + 1)) h9 m9 := ⟨_, rfl⟩
        rw [← hHR] at Hr
        have Hnew : Hid (RunOk h9 m9 ∧ m9.length = m.length ∧ R = ((ls ++ [C]) ++ (runP (N - (k + 1)) h9 m9).1, (runP (N - (k + 1)) h9 m9).2)) := Lib.hid ⟨hnx, hml2, by rw [Hr, ← hHR]; simp⟩
        clear Hr hHR HR hnx hml2 hok hst
        go_upto_region 8 with (fail)
        try go_simp
        clear c33 t1 t2
        go_wp2_with (first
          | (go_at_call 68; (with_reducible refine CG.out.mono ?_); rintro e w7 ⟨rfl, hH7, hM7, hT⟩; have hL7 := own_two hL hT (by omega) (fun j hj => (hmb j hj).2); have hR7 := hT.blk hR (fun e => by injection e; omega) (fun e => by have := (hmb _ e.symm).1; omega); have hb7 := Two.below hb hT hb.size (fun j hj => by injection hj; omega) (fun j hj => by have := (hmb j hj).1; omega); have hz7 := hT.size)
          | (at_builtin; refine wpList_append_any rfl (.tmp 41) (.tmp 44) 64 rfl B2 54 i0 _ 11 64 Try.underlying64 hi hz0 hz1 hz2 rfl (by decide) (.slice AL k cL) k (comsV ls) rfl (hL7.alloc _) (some ⟨w7.heap.size, 0, none⟩) 1 1 C.cells.toList rfl (com_len C) (fun h => by cases h) (lit_cells w7 C.cells _) (fun u hu => comsV_oneCell [C] u (by rw [comsV_one]; exact hu)) (by unfold maxLen; omega) (by omega) (by simp; omega) ?_; intro v8 w8 hL8 hg8))
        have hzl : ∀ j, (Value.slice AL k cL).ownBlock = some j → B2 ≤ j := fun j hj => (hL7.lt j hj).1
        have hH8 := (hH7.alloc (.cells C.cells 54)).grown hg8 (fun e => by have := hzl _ e.symm; omega)
        have hR8 := (hR7.alloc (.cells C.cells 54)).grown hg8 (fun e => by have := hzl _ e.symm; omega)
        have hb8 := (hb7.alloc hb7.size (.cells C.cells 54)).grown hg8 (by have := hb7.size; simp; omega) (fun j hj => by have := hzl j hj; omega)
        have hM8 := (hM7.alloc (.cells C.cells 54)).kept hg8 (by
          rcases hv : (Value.slice A3 m.length cap3).ownBlock with _ | b
          · exact Or.inl rfl
          · right; intro e; have := hzl b e.symm; have := (hmb b hv).2; omega)
        have hz8 := hg8.size
        simp only [World.size_alloc] at hz8
        rw [← comsV_one C, ← comsV_append] at hL8
        obtain ⟨A8, cap8, rfl⟩ := own_value hL8
        go_roundw
        case rel => exact ⟨k + 1, A8, cap8, ls ++ [C], h9, m9, rfl, by omega, hb8, hH8, hR8, hM8, hL8, by omega, Hnew⟩
        case measure => simp [sliceLen]; omega
      · have t2 : (h'.state == 0) = false := by simpa using hst
        have hfin : (ls ++ (runP (N - k) h' m').1, (runP (N - k) h' m').2) = (ls, h', m') := by rw [runP_stop hst]; simp
        clear hst
        rw [hfin] at Hr
        have HF := Lib.hid Hr
        clear Hr
        have hhl := hok.hart.len
        go_upto_region 9 with (fail)
        try go_simp
        refine wp_region_ob 109 2 111 [0, 1, 2, 3, 4, 5, 6] (by kernel_rfl) (by kernel_rfl) (by kernel_rfl) rfl ?_
        repeat' (first
          | refine wpO_plain rfl rfl ?_
          | (refine' wpOW_ever _ (by decide) (by decide) (fun wq K hK => ?_) ?_ ?_
             rotate_left 1
             · (go_wp2_with (fail)
                all_goals exact hK)
             · rfl)
          | (refine' wpOW_reads _ (by decide) (by decide) (by decide) (fun wq hwq K hK => ?_) ?_ ?_
             rotate_left 1
             · (skip
                first
                | ((refine wp_load_all 51 _ rfl w.heap.size rfl 51 _ _ (hH.ext hwq) Try.underlying51 rfl (hart_info hhl) ?_; exact hK))
                | (go_wp2_with (fail)
                   all_goals exact hK))
             · rfl)
          | (refine' wpOW_calls _ (by decide) (by decide) (by decide) (fun wq hwq K hK => ?_) ?_ ?_
             rotate_left 1
             · (skip
                first
                | ((refine wp_load_all 51 _ rfl w.heap.size rfl 51 _ _ (hH.ext hwq) Try.underlying51 rfl (hart_info hhl) ?_; exact hK))
                | (go_wp2_with (fail)
                   all_goals exact hK _ hwq))
             · rfl)
          | (refine wpO_guardT rfl rfl rfl rfl ?_ ?_ <;> intro hc <;> first | (cases hc; done) | ((try cases hc); simp only [Act.put, List.setIfInBounds_toArray, List.set_cons_succ, List.set_cons_zero]))
          | (refine wpO_guardF rfl rfl rfl rfl ?_ ?_ <;> intro hc <;> first | (cases hc; done) | ((try cases hc); simp only [Act.put, List.setIfInBounds_toArray, List.set_cons_succ, List.set_cons_zero]))
          | refine wpO_guardU rfl rfl rfl rfl ?_)
        refine wpOW_solo (by decide) (by decide) (by decide) (by kernel_rfl) (fun w1 hw1 K1 hK1 => ?_)
        have hR1 : Blk w1 (w.heap.size + 1) 51 hart0.cells := by rw [hw1]; exact hR.ext (Below.refl _ _).drew
        have hM1 := own_keep hM (w' := w1) (by rw [hw1]; exact (Below.refl _ _).drew)
        have hL1 := own_keep hL (w' := w1) (by rw [hw1]; exact (Below.refl _ _).drew)
        have hb1 : Below w.heap.size w w1 := by rw [hw1]; exact hb.drew
        clear hw1
        refine wp_store_blk 51 _ _ rfl (w.heap.size + 1) 0 h'.cells rfl rfl 51 _ hR1 (hart_info hhl) (by rw [Hart.cells_size hhl]; decide) (hart_one h') ?_
        intro w2 hB2 hg2
        rw [splice_whole _ _ (by rw [Hart.cells_size hhl]; rfl)] at hB2
        refine hK1 _ _ (fun _ => True) trivial ?_
        simp only [Act.put, List.setIfInBounds_toArray, List.set_cons_succ, List.set_cons_zero]
        repeat' (first
          | refine wpO_plain rfl rfl ?_
          | (refine' wpOW_ever _ (by decide) (by decide) (fun wq K hK => ?_) ?_ ?_
             rotate_left 1
             · (go_wp2_with (fail)
                all_goals exact hK)
             · rfl)
          | (refine' wpOW_reads _ (by decide) (by decide) (by decide) (fun wq hwq K hK => ?_) ?_ ?_
             rotate_left 1
             · (skip
                first
                | (fail)
                | (go_wp2_with (fail)
                   all_goals exact hK))
             · rfl)
          | (refine' wpOW_calls _ (by decide) (by decide) (by decide) (fun wq hwq K hK => ?_) ?_ ?_
             rotate_left 1
             · (skip
                first
                | (fail)
                | (go_wp2_with (fail)
                   all_goals exact hK _ hwq))
             · rfl)
          | (refine wpO_guardT rfl rfl rfl rfl ?_ ?_ <;> intro hc <;> first | (cases hc; done) | ((try cases hc); simp only [Act.put, List.setIfInBounds_toArray, List.set_cons_succ, List.set_cons_zero]))
          | (refine wpO_guardF rfl rfl rfl rfl ?_ ?_ <;> intro hc <;> first | (cases hc; done) | ((try cases hc); simp only [Act.put, List.setIfInBounds_toArray, List.set_cons_succ, List.set_cons_zero]))
          | refine wpO_guardU rfl rfl rfl rfl ?_)
        refine wpO_nil ?_
        rintro w3 rfl
        go_wp2
        refine bodyPost_ret (results_tctt (x := .slice AL k cL) (y := .slice A3 m.length cap3) (z := .int .i64 0) rfl rfl rfl rfl rfl (hart_load hhl hB2)) rfl ?_
        have e1 := congrArg (·.1) HF.out
        have e2 := congrArg (·.2.1) HF.out
        have e3 := congrArg (·.2.2) HF.out
        dsimp only at e1 e2 e3
        refine ⟨AL, cL, A3, cap3, ?_, below_grown hb1 hg2 hb1.size (by omega), ?_, ?_⟩
        · rw [e1, e2, ← ComsAt.len hL1]
        · rw [e1, ← ComsAt.len hL1]
          exact own_mono (own_far hL1 hg2 (by omega)) (by omega)
        · rw [e3]
          exact own_mono (own_far hM1 hg2 (by omega)) (by omega)
    · obtain rfl : k = N := by omega
      have t1 : decide ((k : Int) < (k : Int)) = false := by simp
      have hfin : (ls ++ (runP (k - k) h' m').1, (runP (k - k) h' m').2) = (ls, h', m') := by rw [Nat.sub_self]; simp [runP]
      rw [hfin] at Hr
      have HF := Lib.hid Hr
      clear Hr
      have hhl := hok.hart.len
      go_upto_region 9 with (fail)
      try go_simp
      refine wp_region_ob 109 2 111 [0, 1, 2, 3, 4, 5, 6] (by kernel_rfl) (by kernel_rfl) (by kernel_rfl) rfl ?_
      repeat' (first
        | refine wpO_plain rfl rfl ?_
        | (refine' wpOW_ever _ (by decide) (by decide) (fun wq K hK => ?_) ?_ ?_
           rotate_left 1
           · (go_wp2_with (fail)
              all_goals exact hK)
           · rfl)
        | (refine' wpOW_reads _ (by decide) (by decide) (by decide) (fun wq hwq K hK => ?_) ?_ ?_
           rotate_left 1
           · (skip
              first
              | ((refine wp_load_all 51 _ rfl w.heap.size rfl 51 _ _ (hH.ext hwq) Try.underlying51 rfl (hart_info hhl) ?_; exact hK))
              | (go_wp2_with (fail)
                 all_goals exact hK))
           · rfl)
        | (refine' wpOW_calls _ (by decide) (by decide) (by decide) (fun wq hwq K hK => ?_) ?_ ?_
           rotate_left 1
           · (skip
              first
              | ((refine wp_load_all 51 _ rfl w.heap.size rfl 51 _ _ (hH.ext hwq) Try.underlying51 rfl (hart_info hhl) ?_; exact hK))
              | (go_wp2_with (fail)
                 all_goals exact hK _ hwq))
           · rfl)
        | (refine wpO_guardT rfl rfl rfl rfl ?_ ?_ <;> intro hc <;> first | (cases hc; done) | ((try cases hc); simp only [Act.put, List.setIfInBounds_toArray, List.set_cons_succ, List.set_cons_zero]))
        | (refine wpO_guardF rfl rfl rfl rfl ?_ ?_ <;> intro hc <;> first | (cases hc; done) | ((try cases hc); simp only [Act.put, List.setIfInBounds_toArray, List.set_cons_succ, List.set_cons_zero]))
        | refine wpO_guardU rfl rfl rfl rfl ?_)
      refine wpOW_solo (by decide) (by decide) (by decide) (by kernel_rfl) (fun w1 hw1 K1 hK1 => ?_)
      have hR1 : Blk w1 (w.heap.size + 1) 51 hart0.cells := by rw [hw1]; exact hR.ext (Below.refl _ _).drew
      have hM1 := own_keep hM (w' := w1) (by rw [hw1]; exact (Below.refl _ _).drew)
      have hL1 := own_keep hL (w' := w1) (by rw [hw1]; exact (Below.refl _ _).drew)
      have hb1 : Below w.heap.size w w1 := by rw [hw1]; exact hb.drew
      clear hw1
      refine wp_store_blk 51 _ _ rfl (w.heap.size + 1) 0 h'.cells rfl rfl 51 _ hR1 (hart_info hhl) (by rw [Hart.cells_size hhl]; decide) (hart_one h') ?_
      intro w2 hB2 hg2
      rw [splice_whole _ _ (by rw [Hart.cells_size hhl]; rfl)] at hB2
      refine hK1 _ _ (fun _ => True) trivial ?_
      simp only [Act.put, List.setIfInBounds_toArray, List.set_cons_succ, List.set_cons_zero]
      repeat' (first
        | refine wpO_plain rfl rfl ?_
        | (refine' wpOW_ever _ (by decide) (by decide) (fun wq K hK => ?_) ?_ ?_
           rotate_left 1
           · (go_wp2_with (fail)
              all_goals exact hK)
           · rfl)
        | (refine' wpOW_reads _ (by decide) (by decide) (by decide) (fun wq hwq K hK => ?_) ?_ ?_
           rotate_left 1
           · (skip
              first
              | (fail)
              | (go_wp2_with (fail)
                 all_goals exact hK))
           · rfl)
        | (refine' wpOW_calls _ (by decide) (by decide) (by decide) (fun wq hwq K hK => ?_) ?_ ?_
           rotate_left 1
           · (skip
              first
              | (fail)
              | (go_wp2_with (fail)
                 all_goals exact hK _ hwq))
           · rfl)
        | (refine wpO_guardT rfl rfl rfl rfl ?_ ?_ <;> intro hc <;> first | (cases hc; done) | ((try cases hc); simp only [Act.put, List.setIfInBounds_toArray, List.set_cons_succ, List.set_cons_zero]))
        | (refine wpO_guardF rfl rfl rfl rfl ?_ ?_ <;> intro hc <;> first | (cases hc; done) | ((try cases hc); simp only [Act.put, List.setIfInBounds_toArray, List.set_cons_succ, List.set_cons_zero]))
        | refine wpO_guardU rfl rfl rfl rfl ?_)
      refine wpO_nil ?_
      rintro w3 rfl
      go_wp2
      refine bodyPost_ret (results_tctt (x := .slice AL k cL) (y := .slice A3 m.length cap3) (z := .int .i64 0) rfl rfl rfl rfl rfl (hart_load hhl hB2)) rfl ?_
      have e1 := congrArg (·.1) HF.out
      have e2 := congrArg (·.2.1) HF.out
      have e3 := congrArg (·.2.2) HF.out
      dsimp only at e1 e2 e3
      refine ⟨AL, cL, A3, cap3, ?_, below_grown hb1 hg2 hb1.size (by omega), ?_, ?_⟩
      · rw [e1, e2, ← ComsAt.len hL1]
      · rw [e1, ← ComsAt.len hL1]
        exact own_mono (own_far hL1 hg2 (by omega)) (by omega)
      · rw [e3]
        exact own_mono (own_far hM1 hg2 (by omega)) (by omega)
end Go.Proofs.Ytapgojgcmlnbgab

/- append to one of the call's own: where the new row lies. -/
namespace Go.Proofs.Ytapgojgcmlnbgab
open Go Go.RowKit
theorem append_where {P : Program} (w : World) (base : Nat) (t ty e : TypeId) (i : TypeInfo) (z : Value) (size bytes : Nat) (ht : P.underlying t = some (.slice e)) (hi : P.info? e = some i) (hz : i.zero = some z)
    (hsize : i.size = size) (hby : i.bytes = bytes) (hzs : z.cells.size = size) (hsz : 0 < size)
    (v : Value) (n : Nat) (xs : List Value) (hown : w.ownsRow base e size v n xs)
    (a : Addr) (m c : Nat) (news : List Value) (hl : news.length = m * size) (hnews : ∀ j u, news[j]? = some u → w.cell? (a.add j) = some u) (h1 : ∀ u ∈ news, u.oneCell' = true)
    (h63 : n + m ≤ maxLen) (hbytes : (n + m) * bytes ≤ 140737488355328) (v' : Value) (w' : World) (hr : (Builtin.append_ #[t, t] ty #[v, .slice (some a) m c]).run P w = .ok v' w') :
    v'.ownBlock = v.ownBlock ∨ ∀ k, v'.ownBlock = some k → w.heap.size ≤ k := by
  have hsmall : n + m ≤ 9223372036854775807 := by simp only [maxLen] at h63; omega
  rcases hown.2 with ⟨rfl, rfl⟩ | ⟨g, cap, cur, rfl, hbg, hg, hnc, hcm, hcs, htake⟩
  · have hx : xs = [] := List.eq_nil_of_length_eq_zero (by simpa using hown.1)
    subst hx
    obtain ⟨v2, w2, h2, h3, _⟩ := run_append_own (P := P) w w.heap.size t ty e i z size bytes ht hi hz hsize hby hzs hsz _ 0 [] (World.ownsRow_nil _ _ _ _) a m c news hl hnews h1 h63 hbytes (Nat.le_refl _)
    rw [hr] at h2
    injection h2 with h2 h2'
    subst h2
    exact Or.inr fun k hk => (h3.lt k hk).1
  · subst hsize
    subst hby
    by_cases hroom : n + m ≤ cap
    · have hfit : n * i.size + news.length ≤ cur.size := by rw [hl, hcs, ← Nat.add_mul]; exact Nat.mul_le_mul_right _ hroom
      have h2 := run_append_room (P := P) w t ty e i ht hi g n cap cur hg a m c news hl hnews h1 hroom hfit
      rw [hr] at h2
      injection h2 with h2 h2'
      subst h2
      exact Or.inl rfl
    · have holds : ∀ j u, xs[j]? = some u → w.cell? ((⟨g, 0, none⟩ : Addr).add j) = some u := hown.cells (g := g) rfl
      have h2 := run_append_grow (P := P) w t ty e i z ht hi hz ⟨g, 0, none⟩ n cap xs hown.1 holds a m c news hl hnews (by omega) (by omega) (growslice_fits (by omega) hbytes)
      rw [hr] at h2
      injection h2 with h2 h2'
      subst h2
      right
      intro k hk
      simp [Value.ownBlock] at hk
      omega
theorem wpList_append_at {P : Program} {w : World} {ops : Array Oper} {rest : List Oper} {o : Oper} {a : Act} {Q : Exit → Act → World → Prop} (hgd : o.guard = none) (s x : Operand) (t : TypeId)
    (ho : o.op = .call { callee := .builtin .append, args := #[s, x], argTypes := #[t, t] })
    (base : Nat) (e : TypeId) (i : TypeInfo) (z : Value) (size bytes : Nat) (ht : P.underlying t = some (.slice e)) (hi : P.info? e = some i) (hz : i.zero = some z)
    (hsize : i.size = size) (hby : i.bytes = bytes) (hzs : z.cells.size = size) (hsz : 0 < size)
    (v : Value) (n : Nat) (xs : List Value) (hs : a.eval s = v) (hown : w.ownsRow base e size v n xs)
    (ad : Addr) (m c : Nat) (news : List Value) (hx : a.eval x = .slice (some ad) m c) (hl : news.length = m * size) (hnews : ∀ j u, news[j]? = some u → w.cell? (ad.add j) = some u) (h1 : ∀ u ∈ news, u.oneCell' = true)
    (h63 : n + m ≤ maxLen) (hbytes : (n + m) * bytes ≤ 140737488355328) (hbase : base ≤ w.heap.size)
    (h : ∀ v' w', w'.ownsRow base e size v' (n + m) (xs ++ news) → w.grownBy w' v.ownBlock → (v'.ownBlock = v.ownBlock ∨ ∀ k, v'.ownBlock = some k → w.heap.size ≤ k) → wpList P ops Q rest (a.put o.dst v') w') : wpList P ops Q (o :: rest) a w :=
  wpList_plain hgd fun _ hK => by
    obtain ⟨v', w', hr, h2, h3, h4⟩ := run_append_own (P := P) w base t o.type e i z size bytes ht hi hz hsize hby hzs hsz v n xs hown ad m c news hl hnews h1 h63 hbytes hbase
    have h5 := append_where w base t o.type e i z size bytes ht hi hz hsize hby hzs hsz v n xs hown ad m c news hl hnews h1 h63 hbytes v' w' hr
    unfold Oper.wp execOp
    simp only [ho, resolve, invoke, builtin, Sem.run_bind, Sem.run_pure, Result.andThen_ok, List.map_toArray, List.map_cons, List.map_nil, hs, hx, hr]
    exact hK _ _ (h v' w' h2 h3 h5)
end Go.Proofs.Ytapgojgcmlnbgab
