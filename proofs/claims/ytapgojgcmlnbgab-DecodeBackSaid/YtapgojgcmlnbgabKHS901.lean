/- Structs and arrays by value, out of and into a block that is known whole: at any place in it, the cells whatever they are. -/
import Derived.Test.YtapgojgcmlnbgabKHS900
import Derived.Laws.Rows
import Derived.Laws.Tables
import Derived.Laws.CopyRow
import Derived.WalkKit
set_option linter.unusedSimpArgs false
set_option linter.unusedVariables false

namespace Go.Proofs.Ytapgojgcmlnbgab
open Go Go.RowKit

/-- The cells vs laid over cur from place o on. -/
def splice (cur : Array Value) (o : Nat) (vs : List Value) : Array Value := (cur.toList.take o ++ vs ++ cur.toList.drop (o + vs.length)).toArray
theorem splice_size (cur : Array Value) (o : Nat) (vs : List Value) (h : o + vs.length ≤ cur.size) : (splice cur o vs).size = cur.size := by
  simp [splice]; omega
theorem splice_get (cur : Array Value) (o : Nat) (vs : List Value) (h : o + vs.length ≤ cur.size) (i : Nat) : (splice cur o vs)[i]? = if i < o then cur[i]? else if i < o + vs.length then vs[i - o]? else cur[i]? := by
  have ht : (cur.toList.take o).length = o := by simp; omega
  simp only [splice, List.getElem?_toArray]
  by_cases h1 : i < o
  · rw [if_pos h1, List.getElem?_append_left (by simp; omega), List.getElem?_append_left (by omega), List.getElem?_take, if_pos h1]
    simp
  · rw [if_neg h1]
    by_cases h2 : i < o + vs.length
    · rw [if_pos h2, List.getElem?_append_left (by simp; omega), List.getElem?_append_right (by omega), ht]
    · rw [if_neg h2, List.getElem?_append_right (by simp; omega), List.getElem?_drop]
      simp only [List.length_append, ht]
      rw [show o + vs.length + (i - (o + vs.length)) = i by omega]
      simp
theorem splice_whole (cur : Array Value) (vs : Array Value) (h : vs.size = cur.size) : splice cur 0 vs.toList = vs := by
  apply Array.ext_getElem?
  intro i
  rw [splice_get cur 0 vs.toList (by simp; omega)]
  simp
  intro hi
  rw [Array.getElem?_eq_none (by omega), Array.getElem?_eq_none (by omega)]

section
variable {P : Program} {ops : Array Oper} {rest : List Oper} {o : Oper} {a : Act} {w : World} {Q : Exit → Act → World → Prop}
theorem run_loadVar_blk (w : World) (g off : Nat) (t ty : TypeId) (cs : Array Value) (n : Nat) (d : TypeDesc) (hg : Blk w g t cs) (hu : P.underlying ty = some d)
    (hd : (match d with | .struct _ | .array _ _ => true | _ => false) = true) (hi : (P.info? ty).map (·.size) = some n) (hn : off + n ≤ cs.size) :
    (loadVar ty ⟨g, off, none⟩).run P w = .ok (.agg (cs.extract off (off + n))) w := by
  have hsz : (cs.extract off (off + n)).size = n := by simp; omega
  have hl : (loadCells ⟨g, off, none⟩ (cs.extract off (off + n)).toList.length).run P w = .ok (cs.extract off (off + n)).toList.toArray w :=
    run_loadCells_list (P := P) w ⟨g, off, none⟩ (cs.extract off (off + n)).toList (fun j v hv => by
      have hadd : (⟨g, off, none⟩ : Addr).add j = ⟨g, off + j, none⟩ := by unfold Addr.add; split <;> simp_all
      rw [hadd, hg.cell]
      rw [Array.getElem?_toList, Array.getElem?_extract] at hv
      split at hv
      · exact hv
      · cases hv)
  cases hq : P.info? ty with
  | none => simp [hq] at hi
  | some i =>
    have hs : i.size = n := by simpa [hq] using hi
    have hagg : (isAgg ty).run P w = .ok true w := by
      unfold isAgg
      rw [Sem.run_bind, run_underlying hu w]
      cases d <;> simp_all
    rw [Array.length_toList, Array.toArray_toList, hsz] at hl
    simp [loadVar, Sem.run_bind, hagg, sizeOf, typeInfo, hq, hs, hl]
theorem wp_load_blk {K : Act → World → Prop} (ty : TypeId) (x : Operand) (ho : o.op = .load ty x) (g off : Nat) (hx : a.eval x = .pointer (some ⟨g, off, none⟩)) (t : TypeId) (cs : Array Value) (n : Nat) (d : TypeDesc) (hg : Blk w g t cs)
    (hu : P.underlying ty = some d) (hd : (match d with | .struct _ | .array _ _ => true | _ => false) = true) (hi : (P.info? ty).map (·.size) = some n) (hn : off + n ≤ cs.size)
    (h : K (a.put o.dst (.agg (cs.extract off (off + n)))) w) : o.wp P a w K Q := by
  unfold Oper.wp execOp
  simp only [ho, hx, Instr.loadAt, Instr.sureAddr, Sem.run_bind, Sem.run_pure, Result.andThen_ok, run_loadVar_blk w g off t ty cs n d hg hu hd hi hn]
  exact h
theorem wpList_load_blk (hgd : o.guard = none) (ty : TypeId) (x : Operand) (ho : o.op = .load ty x) (g off : Nat) (hx : a.eval x = .pointer (some ⟨g, off, none⟩)) (t : TypeId) (cs : Array Value) (n : Nat) (d : TypeDesc) (hg : Blk w g t cs)
    (hu : P.underlying ty = some d) (hd : (match d with | .struct _ | .array _ _ => true | _ => false) = true) (hi : (P.info? ty).map (·.size) = some n) (hn : off + n ≤ cs.size)
    (h : wpList P ops Q rest (a.put o.dst (.agg (cs.extract off (off + n)))) w) : wpList P ops Q (o :: rest) a w :=
  wpList_plain hgd fun _ hK => wp_load_blk ty x ho g off hx t cs n d hg hu hd hi hn (hK _ _ h)
theorem extract_whole (cs : Array Value) (n : Nat) (h : cs.size = n) : cs.extract 0 (0 + n) = cs := by
  subst h
  simp
/-- The whole block by value. -/
theorem wp_load_all {K : Act → World → Prop} (ty : TypeId) (x : Operand) (ho : o.op = .load ty x) (g : Nat) (hx : a.eval x = .pointer (some ⟨g, 0, none⟩)) (t : TypeId) (cs : Array Value) (d : TypeDesc) (hg : Blk w g t cs)
    (hu : P.underlying ty = some d) (hd : (match d with | .struct _ | .array _ _ => true | _ => false) = true) (hi : (P.info? ty).map (·.size) = some cs.size)
    (h : K (a.put o.dst (.agg cs)) w) : o.wp P a w K Q :=
  wp_load_blk ty x ho g 0 hx t cs cs.size d hg hu hd hi (by omega) (by rw [extract_whole cs _ rfl]; exact h)
theorem wpList_load_all (hgd : o.guard = none) (ty : TypeId) (x : Operand) (ho : o.op = .load ty x) (g : Nat) (hx : a.eval x = .pointer (some ⟨g, 0, none⟩)) (t : TypeId) (cs : Array Value) (d : TypeDesc) (hg : Blk w g t cs)
    (hu : P.underlying ty = some d) (hd : (match d with | .struct _ | .array _ _ => true | _ => false) = true) (hi : (P.info? ty).map (·.size) = some cs.size)
    (h : wpList P ops Q rest (a.put o.dst (.agg cs)) w) : wpList P ops Q (o :: rest) a w :=
  wpList_plain hgd fun _ hK => wp_load_all ty x ho g hx t cs d hg hu hd hi (hK _ _ h)

theorem run_storeVar_blk (w : World) (g off : Nat) (t ty : TypeId) (old cells : Array Value) (hg : Blk w g t old) (hi : (P.info? ty).map (·.size) = some cells.size)
    (hn : off + cells.size ≤ old.size) (h1 : cells.all (·.oneCell') = true) :
    (storeVar ty ⟨g, off, none⟩ (.agg cells)).run P w = .ok () (w.setRow g (splice old off cells.toList)) := by
  have := run_storeCells_at P g off t cells.toList 0 old w hg (by simp; omega) (fun v hv => (Array.all_eq_true_iff_forall_mem.1 h1) v (by simpa using hv))
  cases hq : P.info? ty with
  | none => simp [hq] at hi
  | some i =>
    have hs : cells.size = i.size := by simp [hq] at hi; omega
    simpa [storeVar, sizeOf, typeInfo, hq, Value.cells, hs, splice] using this
theorem Blk.setRow {w : World} {g : Nat} {t : TypeId} {old : Array Value} (hg : Blk w g t old) (cs : Array Value) : Blk (w.setRow g cs) g t cs := setRow_heap w g old cs t (0, 0) hg
theorem grownBy_setRow (w : World) (g : Nat) (cs : Array Value) : w.grownBy (w.setRow g cs) (some g) :=
  ⟨rfl, rfl, rfl, by simp, fun i _ hne => by
    simp only [World.setRow, Array.getElem?_modify]
    rw [if_neg (fun e => hne (by rw [e]))]⟩
theorem wp_store_blk {K : Act → World → Prop} (ty : TypeId) (x y : Operand) (ho : o.op = .store ty x y) (g off : Nat) (cells : Array Value) (hx : a.eval x = .pointer (some ⟨g, off, none⟩)) (hy : a.eval y = .agg cells)
    (t : TypeId) (old : Array Value) (hg : Blk w g t old) (hi : (P.info? ty).map (·.size) = some cells.size) (hn : off + cells.size ≤ old.size) (h1 : cells.all (·.oneCell') = true)
    (h : ∀ w', Blk w' g t (splice old off cells.toList) → w.grownBy w' (some g) → K (a.put o.dst undef) w') : o.wp P a w K Q := by
  unfold Oper.wp execOp
  simp only [ho, hx, hy, Instr.storeAt, Instr.sureAddr, Sem.run_bind, Sem.run_pure, Result.andThen_ok, run_storeVar_blk w g off t ty old cells hg hi hn h1]
  exact h _ (hg.setRow _) (grownBy_setRow _ _ _)
theorem wpList_store_blk (hgd : o.guard = none) (ty : TypeId) (x y : Operand) (ho : o.op = .store ty x y) (g off : Nat) (cells : Array Value) (hx : a.eval x = .pointer (some ⟨g, off, none⟩)) (hy : a.eval y = .agg cells)
    (t : TypeId) (old : Array Value) (hg : Blk w g t old) (hi : (P.info? ty).map (·.size) = some cells.size) (hn : off + cells.size ≤ old.size) (h1 : cells.all (·.oneCell') = true)
    (h : ∀ w', Blk w' g t (splice old off cells.toList) → w.grownBy w' (some g) → wpList P ops Q rest (a.put o.dst undef) w') : wpList P ops Q (o :: rest) a w :=
  wpList_plain hgd fun _ hK => wp_store_blk ty x y ho g off cells hx hy t old hg hi hn h1 fun w' h2 h3 => hK _ _ (h w' h2 h3)
/-- A whole block by value. -/
theorem wpList_store_all (hgd : o.guard = none) (ty : TypeId) (x y : Operand) (ho : o.op = .store ty x y) (g : Nat) (cells : Array Value) (hx : a.eval x = .pointer (some ⟨g, 0, none⟩)) (hy : a.eval y = .agg cells)
    (t : TypeId) (old : Array Value) (hg : Blk w g t old) (hi : (P.info? ty).map (·.size) = some cells.size) (hn : cells.size = old.size) (h1 : cells.all (·.oneCell') = true)
    (h : ∀ w', Blk w' g t cells → w.grownBy w' (some g) → wpList P ops Q rest (a.put o.dst undef) w') : wpList P ops Q (o :: rest) a w :=
  wpList_store_blk hgd ty x y ho g 0 cells hx hy t old hg hi (by omega) h1 fun w' h2 h3 => h w' (by rwa [splice_whole _ _ hn] at h2) h3
end

/-- A composite literal, its parts known. -/
theorem wpList_build_to {P : Program} {ops : Array Oper} {rest : List Oper} {o : Oper} {a : Act} {w : World} {Q : Exit → Act → World → Prop} (hg : o.guard = none) (t : TypeId) (parts : Array (Nat × Operand)) (ho : o.op = .build t parts) (vals : List (Nat × Value))
    (hv : (parts.map fun (i, x) => (i, a.eval x)).toList = vals) (cs : Array Value) (hf : P.built t vals = some cs)
    (h : wpList P ops Q rest (a.put o.dst (.agg cs)) w) : wpList P ops Q (o :: rest) a w :=
  wpList_build hg t parts ho (by rw [hv, hf]; rfl) (by rw [hv, hf]; exact h)
/-- The results of a function whose one result lies in a block known whole. -/
theorem results_blk {P : Program} {fn : Func} {p : Tmp} {ty : TypeId} (h : fn.results = #[.cell p ty]) (tmps : Array Value) (w : World) (g : Nat) (t : TypeId) (cs : Array Value) (d : TypeDesc)
    (hp : tmps.getD p undef = .pointer (some ⟨g, 0, none⟩)) (hg : Blk w g t cs) (hu : P.underlying ty = some d) (hd : (match d with | .struct _ | .array _ _ => true | _ => false) = true) (hi : (P.info? ty).map (·.size) = some cs.size) :
    (results fn tmps).run P w = .ok (.agg cs) w := results_cell_row h tmps w g t cs (0, 0) d hp hg hu hd hi
theorem below_grown {B : Nat} {w0 w w' : World} {g : Nat} (hb : Below B w0 w) (hg : w.grownBy w' (some g)) (hw : B ≤ w.heap.size) (hB : B ≤ g) : Below B w0 w' := hb.grown hg hw (fun k hk => by cases hk; exact hB)
theorem Blk.farAt {w : World} {g : Nat} {t : TypeId} {cs : Array Value} (h : Blk w g t cs) {b off : Nat} (hp : g ≠ b) (u : Value) : Blk (w.setCell ⟨b, off, none⟩ u) g t cs := h.far hp u
theorem below_set {B : Nat} {w0 w : World} {b off : Nat} {u : Value} (hB : B ≤ b) (hb : Below B w0 w) : Below B w0 (w.setCell ⟨b, off, none⟩ u) := hb.setCell hB u
theorem Blk.newAt (w : World) (t : TypeId) (cs : Array Value) {g : Nat} (hg : g = w.heap.size) : Blk (w.alloc (.cells cs t)) g t cs := by subst hg; exact Blk.new w t cs
end Go.Proofs.Ytapgojgcmlnbgab

/- What package decode comes to, in plain Lean; and that it is what the document's answer comes to. -/
namespace Go.Proofs.Ytapgojgcmlnbgab
open Go

/-- api.Ins. -/
structure Ins where
  op : Int
  rd : Int
  rs1 : Int
  rs2 : Int
  imm : Int
  deriving DecidableEq
instance : Inhabited Ins := ⟨⟨0, 0, 0, 0, 0⟩⟩

/-- A word's bits from f to t. -/
def cutI (w : Int) (f t : Nat) : Int := w / 2 ^ f % 2 ^ (t + 1 - f)
/-- A number of b bits, signed. -/
def sgnI (n : Int) (b : Nat) : Int := if n < 2 ^ (b - 1) then n else n - 2 ^ b

/-- How an instruction is told: form, low, middle, upper. -/
structure Kind where
  form : Int
  low : Int
  middle : Int
  upper : Int
  deriving DecidableEq

def kindP (op : Int) : Option Kind :=
  if op = 1 then some ⟨0, 55, 0, 0⟩
  else if op = 2 then some ⟨0, 23, 0, 0⟩
  else if op = 3 then some ⟨1, 111, 0, 0⟩
  else if op = 4 then some ⟨2, 103, 0, 0⟩
  else if op = 5 then some ⟨4, 99, 0, 0⟩
  else if op = 6 then some ⟨4, 99, 1, 0⟩
  else if op = 7 then some ⟨4, 99, 4, 0⟩
  else if op = 8 then some ⟨4, 99, 5, 0⟩
  else if op = 9 then some ⟨4, 99, 6, 0⟩
  else if op = 10 then some ⟨4, 99, 7, 0⟩
  else if op = 11 then some ⟨2, 3, 0, 0⟩
  else if op = 12 then some ⟨2, 3, 1, 0⟩
  else if op = 13 then some ⟨2, 3, 2, 0⟩
  else if op = 14 then some ⟨2, 3, 4, 0⟩
  else if op = 15 then some ⟨2, 3, 5, 0⟩
  else if op = 16 then some ⟨5, 35, 0, 0⟩
  else if op = 17 then some ⟨5, 35, 1, 0⟩
  else if op = 18 then some ⟨5, 35, 2, 0⟩
  else if op = 19 then some ⟨2, 19, 0, 0⟩
  else if op = 20 then some ⟨2, 19, 2, 0⟩
  else if op = 21 then some ⟨2, 19, 3, 0⟩
  else if op = 22 then some ⟨2, 19, 4, 0⟩
  else if op = 23 then some ⟨2, 19, 6, 0⟩
  else if op = 24 then some ⟨2, 19, 7, 0⟩
  else if op = 25 then some ⟨3, 19, 1, 0⟩
  else if op = 26 then some ⟨3, 19, 5, 0⟩
  else if op = 27 then some ⟨3, 19, 5, 32⟩
  else if op = 28 then some ⟨6, 51, 0, 0⟩
  else if op = 29 then some ⟨6, 51, 0, 32⟩
  else if op = 30 then some ⟨6, 51, 1, 0⟩
  else if op = 31 then some ⟨6, 51, 2, 0⟩
  else if op = 32 then some ⟨6, 51, 3, 0⟩
  else if op = 33 then some ⟨6, 51, 4, 0⟩
  else if op = 34 then some ⟨6, 51, 5, 0⟩
  else if op = 35 then some ⟨6, 51, 5, 32⟩
  else if op = 36 then some ⟨6, 51, 6, 0⟩
  else if op = 37 then some ⟨6, 51, 7, 0⟩
  else if op = 38 then some ⟨6, 51, 0, 1⟩
  else if op = 39 then some ⟨6, 51, 1, 1⟩
  else if op = 40 then some ⟨6, 51, 2, 1⟩
  else if op = 41 then some ⟨6, 51, 3, 1⟩
  else if op = 42 then some ⟨6, 51, 4, 1⟩
  else if op = 43 then some ⟨6, 51, 5, 1⟩
  else if op = 44 then some ⟨6, 51, 6, 1⟩
  else if op = 45 then some ⟨6, 51, 7, 1⟩
  else if op = 46 then some ⟨2, 15, 0, 0⟩
  else if op = 47 then some ⟨7, 115, 0, 0⟩
  else if op = 48 then some ⟨7, 115, 0, 1⟩
  else none

def tellsB (k : Kind) (w : Int) : Bool :=
  if cutI w 0 6 = k.low then
    if k.form = 0 ∨ k.form = 1 then true
    else if k.form = 7 then decide (w = k.low + k.upper * 1048576)
    else if k.form = 3 ∨ k.form = 6 then decide (cutI w 12 14 = k.middle ∧ cutI w 25 31 = k.upper)
    else decide (cutI w 12 14 = k.middle)
  else false

def readP (op form w : Int) : Ins :=
  let rd := cutI w 7 11
  let rs1 := cutI w 15 19
  let rs2 := cutI w 20 24
  if form = 0 then ⟨op, rd, 0, 0, sgnI (w - cutI w 0 11) 32⟩
  else if form = 1 then ⟨op, rd, 0, 0, sgnI (cutI w 31 31 * 1048576 + cutI w 12 19 * 4096 + cutI w 20 20 * 2048 + cutI w 21 30 * 2) 21⟩
  else if form = 2 then ⟨op, rd, rs1, 0, sgnI (cutI w 20 31) 12⟩
  else if form = 3 then ⟨op, rd, rs1, 0, cutI w 20 24⟩
  else if form = 4 then ⟨op, 0, rs1, rs2, sgnI (cutI w 31 31 * 4096 + cutI w 7 7 * 2048 + cutI w 25 30 * 32 + cutI w 8 11 * 2) 13⟩
  else if form = 5 then ⟨op, 0, rs1, rs2, sgnI (cutI w 25 31 * 32 + cutI w 7 11) 12⟩
  else if form = 7 then ⟨op, 0, 0, 0, 0⟩
  else ⟨op, rd, rs1, rs2, 0⟩

/-- From operation op on, n of them: the first that tells the word. -/
def findP (w : Int) : Nat → Int → Option Ins
  | 0, _ => none
  | n + 1, op =>
    match kindP op with
    | some k => if tellsB k w = true then some (readP op k.form w) else findP w n (op + 1)
    | none => findP w n (op + 1)
def decP (w : Int) : Option Ins := findP w 48 1

/-! ### the document's answer -/
def pickP (n : Int) : List (Int × Int) → Int
  | [] => -1
  | (a, o) :: l => if a = n then o else pickP n l
/-- Op and form (as a number of kindP's; 7: E), by low, middle, upper and the word. -/
def formR (low mid up w : Int) : Int × Int :=
  if low = 55 then (1, 0)
  else if low = 23 then (2, 0)
  else if low = 111 then (3, 1)
  else if low = 103 then (pickP mid [(0, 4)], 2)
  else if low = 99 then (pickP mid [(0, 5), (1, 6), (4, 7), (5, 8), (6, 9), (7, 10)], 4)
  else if low = 3 then (pickP mid [(0, 11), (1, 12), (2, 13), (4, 14), (5, 15)], 2)
  else if low = 35 then (pickP mid [(0, 16), (1, 17), (2, 18)], 5)
  else if low = 19 then
    if mid = 1 ∨ mid = 5 then (pickP (8 * up + mid) [(1, 25), (5, 26), (261, 27)], 3)
    else (pickP mid [(0, 19), (2, 20), (3, 21), (4, 22), (6, 23), (7, 24)], 2)
  else if low = 51 then
    if up = 0 then (pickP mid [(0, 28), (1, 30), (2, 31), (3, 32), (4, 33), (5, 34), (6, 36), (7, 37)], 6)
    else if up = 32 then (pickP mid [(0, 29), (5, 35)], 6)
    else if up = 1 then (pickP mid [(0, 38), (1, 39), (2, 40), (3, 41), (4, 42), (5, 43), (6, 44), (7, 45)], 6)
    else (-1, 7)
  else if low = 15 then (pickP mid [(0, 46)], 2)
  else if low = 115 then (pickP w [(115, 47), (1048691, 48)], 7)
  else (-1, 7)
def decR (w : Int) : Option Ins :=
  let p := formR (cutI w 0 6) (cutI w 12 14) (cutI w 25 31) w
  if p.1 < 0 then none else some (readP p.1 p.2 w)

def tellsK (k : Kind) (low mid up w : Int) : Bool :=
  if low = k.low then
    if k.form = 0 ∨ k.form = 1 then true
    else if k.form = 7 then decide (w = k.low + k.upper * 1048576)
    else if k.form = 3 ∨ k.form = 6 then decide (mid = k.middle ∧ up = k.upper)
    else decide (mid = k.middle)
  else false
theorem tellsB_eq (k : Kind) (w : Int) : tellsB k w = tellsK k (cutI w 0 6) (cutI w 12 14) (cutI w 25 31) w := rfl
/-- The program's choice: op and form. -/
def findK (low mid up w : Int) : List (Int × Kind) → Int × Int
  | [] => (-1, 7)
  | (op, k) :: l => if tellsK k low mid up w = true then (op, k.form) else findK low mid up w l
/-- The table, written out. -/
def kinds : Nat → Int → List (Int × Kind)
  | 0, _ => []
  | n + 1, op => match kindP op with
    | some k => (op, k) :: kinds n (op + 1)
    | none => kinds n (op + 1)
theorem findP_eq (w : Int) : ∀ (n : Nat) (op : Int), 1 ≤ op → findP w n op = let p := findK (cutI w 0 6) (cutI w 12 14) (cutI w 25 31) w (kinds n op); if p.1 < 0 then none else some (readP p.1 p.2 w)
  | 0, _, _ => rfl
  | n + 1, op, h => by
    unfold findP kinds
    cases hk : kindP op with
    | none => simpa using findP_eq w n (op + 1) (by omega)
    | some k =>
      simp only [hk]
      unfold findK
      rw [tellsB_eq]
      by_cases ht : tellsK k (cutI w 0 6) (cutI w 12 14) (cutI w 25 31) w = true
      · rw [if_pos ht, if_pos ht]
        simp only
        rw [if_neg (by omega)]
      · rw [if_neg ht, if_neg ht]
        exact findP_eq w n (op + 1) (by omega)
def kindsL : List (Int × Kind) := [(1, ⟨0, 55, 0, 0⟩), (2, ⟨0, 23, 0, 0⟩), (3, ⟨1, 111, 0, 0⟩), (4, ⟨2, 103, 0, 0⟩),
  (5, ⟨4, 99, 0, 0⟩), (6, ⟨4, 99, 1, 0⟩), (7, ⟨4, 99, 4, 0⟩), (8, ⟨4, 99, 5, 0⟩), (9, ⟨4, 99, 6, 0⟩), (10, ⟨4, 99, 7, 0⟩),
  (11, ⟨2, 3, 0, 0⟩), (12, ⟨2, 3, 1, 0⟩), (13, ⟨2, 3, 2, 0⟩), (14, ⟨2, 3, 4, 0⟩), (15, ⟨2, 3, 5, 0⟩), (16, ⟨5, 35, 0, 0⟩), (17, ⟨5, 35, 1, 0⟩), (18, ⟨5, 35, 2, 0⟩),
  (19, ⟨2, 19, 0, 0⟩), (20, ⟨2, 19, 2, 0⟩), (21, ⟨2, 19, 3, 0⟩), (22, ⟨2, 19, 4, 0⟩), (23, ⟨2, 19, 6, 0⟩), (24, ⟨2, 19, 7, 0⟩), (25, ⟨3, 19, 1, 0⟩), (26, ⟨3, 19, 5, 0⟩), (27, ⟨3, 19, 5, 32⟩),
  (28, ⟨6, 51, 0, 0⟩), (29, ⟨6, 51, 0, 32⟩), (30, ⟨6, 51, 1, 0⟩), (31, ⟨6, 51, 2, 0⟩), (32, ⟨6, 51, 3, 0⟩), (33, ⟨6, 51, 4, 0⟩), (34, ⟨6, 51, 5, 0⟩), (35, ⟨6, 51, 5, 32⟩), (36, ⟨6, 51, 6, 0⟩), (37, ⟨6, 51, 7, 0⟩),
  (38, ⟨6, 51, 0, 1⟩), (39, ⟨6, 51, 1, 1⟩), (40, ⟨6, 51, 2, 1⟩), (41, ⟨6, 51, 3, 1⟩), (42, ⟨6, 51, 4, 1⟩), (43, ⟨6, 51, 5, 1⟩), (44, ⟨6, 51, 6, 1⟩), (45, ⟨6, 51, 7, 1⟩),
  (46, ⟨2, 15, 0, 0⟩), (47, ⟨7, 115, 0, 0⟩), (48, ⟨7, 115, 0, 1⟩)]
theorem kinds_eq : kinds 48 1 = kindsL := by decide +kernel

theorem mid_cases {m : Int} (h0 : 0 ≤ m) (h1 : m < 8) : m = 0 ∨ m = 1 ∨ m = 2 ∨ m = 3 ∨ m = 4 ∨ m = 5 ∨ m = 6 ∨ m = 7 := by omega
theorem find_form (low mid up w : Int) (m0 : 0 ≤ mid) (m1 : mid < 8) (u0 : 0 ≤ up) (hl : low = w % 128) :
    (let p := findK low mid up w kindsL; let q := formR low mid up w; p.1 = q.1 ∧ (0 ≤ q.1 → p.2 = q.2)) := by
  by_cases h : low = 55
  · subst h; simp [findK, kindsL, tellsK, formR]
  by_cases h : low = 23
  · subst h; simp [findK, kindsL, tellsK, formR]
  by_cases h : low = 111
  · subst h; simp [findK, kindsL, tellsK, formR]
  by_cases h : low = 103
  · subst h
    obtain rfl | rfl | rfl | rfl | rfl | rfl | rfl | rfl := mid_cases m0 m1 <;> simp [findK, kindsL, tellsK, formR, pickP]
  by_cases h : low = 99
  · subst h
    obtain rfl | rfl | rfl | rfl | rfl | rfl | rfl | rfl := mid_cases m0 m1 <;> simp [findK, kindsL, tellsK, formR, pickP]
  by_cases h : low = 3
  · subst h
    obtain rfl | rfl | rfl | rfl | rfl | rfl | rfl | rfl := mid_cases m0 m1 <;> simp [findK, kindsL, tellsK, formR, pickP]
  by_cases h : low = 35
  · subst h
    obtain rfl | rfl | rfl | rfl | rfl | rfl | rfl | rfl := mid_cases m0 m1 <;> simp [findK, kindsL, tellsK, formR, pickP]
  by_cases h : low = 15
  · subst h
    obtain rfl | rfl | rfl | rfl | rfl | rfl | rfl | rfl := mid_cases m0 m1 <;> simp [findK, kindsL, tellsK, formR, pickP]
  by_cases h : low = 19
  · subst h
    have e1 : (1 : Int) = 8 * up + 1 ↔ up = 0 := by omega
    have e2 : ((5 : Int) = 8 * up + 1) = False := by rw [eq_iff_iff, iff_false]; omega
    have e3 : ((261 : Int) = 8 * up + 1) = False := by rw [eq_iff_iff, iff_false]; omega
    have e4 : ((1 : Int) = 8 * up + 5) = False := by rw [eq_iff_iff, iff_false]; omega
    have e5 : (5 : Int) = 8 * up + 5 ↔ up = 0 := by omega
    have e6 : (261 : Int) = 8 * up + 5 ↔ up = 32 := by omega
    obtain rfl | rfl | rfl | rfl | rfl | rfl | rfl | rfl := mid_cases m0 m1 <;> simp only [findK, kindsL, tellsK, formR, pickP, e1, e2, e3, e4, e5, e6] <;> simp
    all_goals
      by_cases a : up = 0
      · subst a; simp
      by_cases b : up = 32
      · subst b; simp
      simp [a, b]
  by_cases h : low = 51
  · subst h
    by_cases a : up = 0
    · subst a
      obtain rfl | rfl | rfl | rfl | rfl | rfl | rfl | rfl := mid_cases m0 m1 <;> simp [findK, kindsL, tellsK, formR, pickP]
    by_cases b : up = 32
    · subst b
      obtain rfl | rfl | rfl | rfl | rfl | rfl | rfl | rfl := mid_cases m0 m1 <;> simp [findK, kindsL, tellsK, formR, pickP]
    by_cases c : up = 1
    · subst c
      obtain rfl | rfl | rfl | rfl | rfl | rfl | rfl | rfl := mid_cases m0 m1 <;> simp [findK, kindsL, tellsK, formR, pickP]
    simp [findK, kindsL, tellsK, formR, a, b, c]
  by_cases h : low = 115
  · subst h
    have e1 : w = 115 ↔ (115 : Int) = w := eq_comm
    have e2 : w = 1048691 ↔ (1048691 : Int) = w := eq_comm
    simp [findK, kindsL, tellsK, formR, pickP, e1, e2]
    by_cases a : (115 : Int) = w
    · simp [a]
    · by_cases b : (1048691 : Int) = w
      · simp [a, b]
      · simp [a, b]
  · clear hl
    simp [findK, kindsL, tellsK, formR, *]
theorem cut_lt (w : Int) (f t : Nat) : 0 ≤ cutI w f t ∧ cutI w f t < 2 ^ (t + 1 - f) := by
  unfold cutI
  have h : (0 : Int) < 2 ^ (t + 1 - f) := Int.pow_pos (by omega)
  exact ⟨Int.emod_nonneg _ (by omega), Int.emod_lt_of_pos _ h⟩
theorem decP_eq (w : Int) : decP w = decR w := by
  unfold decP decR
  rw [findP_eq w 48 1 (by omega), kinds_eq]
  have h := find_form (cutI w 0 6) (cutI w 12 14) (cutI w 25 31) w (cut_lt _ _ _).1 (by simpa using (cut_lt w 12 14).2) (cut_lt _ _ _).1 (by unfold cutI; simp)
  generalize findK (cutI w 0 6) (cutI w 12 14) (cutI w 25 31) w kindsL = p at h
  generalize formR (cutI w 0 6) (cutI w 12 14) (cutI w 25 31) w = q at h
  obtain ⟨h1, h2⟩ := h
  simp only
  rw [h1]
  by_cases hq : q.1 < 0
  · rw [if_pos hq, if_pos hq]
  · rw [if_neg hq, if_neg hq, h2 (by omega)]
end Go.Proofs.Ytapgojgcmlnbgab
