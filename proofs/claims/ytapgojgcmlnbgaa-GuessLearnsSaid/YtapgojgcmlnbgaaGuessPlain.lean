/- What package guess comes to, in plain Lean: a table as its cells. -/
import Derived.Test.YtapgojgcmlnbgaaBlks
import Derived.Test.YtapgojgcmlnbgaaFlat
namespace Go.Proofs.Ytapgojgcmlnbgaa
open Go Go.RowKit

def withinP (n : Int) : Int := if n < 0 then 0 else if 3 < n then 3 else n
theorem withinP_bd (n : Int) : 0 ≤ withinP n ∧ withinP n ≤ 3 := by unfold withinP; (repeat' split) <;> omega
def sumW (a b : Int) : Int := (a + b) % 4294967296
def subW (a b : Int) : Int := (a - b) % 4294967296

/-- A counter, a value of a table's. -/
structure Cnt where
  lv : Int
  tg : Int
structure Vl where
  pc : Int
  last : Int
  stride : Int
  sure : Int
structure Cnt.Wf (c : Cnt) : Prop where
  l0 : -9223372036854775808 ≤ c.lv
  l1 : c.lv ≤ 9223372036854775807
  t0 : 0 ≤ c.tg
  t1 : c.tg ≤ 4294967295
structure Vl.Wf (c : Vl) : Prop where
  p0 : 0 ≤ c.pc
  p1 : c.pc ≤ 4294967295
  l0 : 0 ≤ c.last
  l1 : c.last ≤ 4294967295
  s0 : 0 ≤ c.stride
  s1 : c.stride ≤ 4294967295
  u0 : -9223372036854775808 ≤ c.sure
  u1 : c.sure ≤ 9223372036854775807
/-- Counter k of a table's cells; value k. -/
structure CntAt (cs : Array Value) (k : Nat) (c : Cnt) : Prop where
  c0 : cs[k * 2]? = some (.int .i64 c.lv)
  c1 : cs[k * 2 + 1]? = some (.int .u32 c.tg)
structure VlAt (cs : Array Value) (k : Nat) (v : Vl) : Prop where
  c0 : cs[32 + k * 4]? = some (.int .u32 v.pc)
  c1 : cs[32 + k * 4 + 1]? = some (.int .u32 v.last)
  c2 : cs[32 + k * 4 + 2]? = some (.int .u32 v.stride)
  c3 : cs[32 + k * 4 + 3]? = some (.int .i64 v.sure)
/-- The cells of a table. -/
structure TabOk (cs : Array Value) : Prop where
  size : cs.size = 64
  cnt : ∀ k, k < 16 → ∃ c : Cnt, c.Wf ∧ CntAt cs k c
  vl : ∀ k, k < 8 → ∃ v : Vl, v.Wf ∧ VlAt cs k v

def setCnt (cs : Array Value) (k : Nat) (c : Cnt) : Array Value := (cs.setIfInBounds (k * 2) (.int .i64 c.lv)).setIfInBounds (k * 2 + 1) (.int .u32 c.tg)
def setVl (cs : Array Value) (k : Nat) (v : Vl) : Array Value :=
  (((cs.setIfInBounds (32 + k * 4) (.int .u32 v.pc)).setIfInBounds (32 + k * 4 + 1) (.int .u32 v.last)).setIfInBounds (32 + k * 4 + 2) (.int .u32 v.stride)).setIfInBounds (32 + k * 4 + 3) (.int .i64 v.sure)
def learnC (c : Cnt) (taken : Bool) (target : Int) : Cnt := if taken = true then ⟨withinP (withinP c.lv + 1), target⟩ else ⟨withinP (withinP c.lv - 1), c.tg⟩
def learnV (v : Vl) (pc n : Int) : Vl :=
  if v.pc ≠ pc then ⟨pc, n, 0, 0⟩
  else if n = sumW v.last v.stride then ⟨v.pc, n, v.stride, withinP (withinP v.sure + 1)⟩
  else ⟨v.pc, n, subW n v.last, 0⟩
def cntK (pc : Int) : Nat := (pc / 4 % 16).toNat
def vlK (pc : Int) : Nat := (pc / 4 % 8).toNat

theorem set_get (cs : Array Value) (i j : Nat) (v : Value) : (cs.setIfInBounds i v)[j]? = if i = j ∧ i < cs.size then some v else cs[j]? := by
  rw [Array.getElem?_setIfInBounds]
  by_cases h : i = j
  · subst h
    by_cases h2 : i < cs.size
    · simp [h2]
    · simp [h2]
  · simp [h]
theorem setCnt_get (cs : Array Value) (k : Nat) (c : Cnt) (hs : cs.size = 64) (hk : k < 16) (j : Nat) :
    (setCnt cs k c)[j]? = if j = k * 2 then some (.int .i64 c.lv) else if j = k * 2 + 1 then some (.int .u32 c.tg) else cs[j]? := by
  unfold setCnt
  simp only [set_get, Array.size_setIfInBounds, hs]
  (repeat' split) <;> first | rfl | omega
theorem setVl_get (cs : Array Value) (k : Nat) (v : Vl) (hs : cs.size = 64) (hk : k < 8) (j : Nat) :
    (setVl cs k v)[j]? = if j = 32 + k * 4 then some (.int .u32 v.pc) else if j = 32 + k * 4 + 1 then some (.int .u32 v.last) else if j = 32 + k * 4 + 2 then some (.int .u32 v.stride) else if j = 32 + k * 4 + 3 then some (.int .i64 v.sure) else cs[j]? := by
  unfold setVl
  simp only [set_get, Array.size_setIfInBounds, hs]
  (repeat' split) <;> first | rfl | omega
theorem setCnt_size (cs : Array Value) (k : Nat) (c : Cnt) : (setCnt cs k c).size = cs.size := by simp [setCnt]
theorem setVl_size (cs : Array Value) (k : Nat) (v : Vl) : (setVl cs k v).size = cs.size := by simp [setVl]
theorem setCnt_at (cs : Array Value) (k : Nat) (c : Cnt) (hs : cs.size = 64) (hk : k < 16) : CntAt (setCnt cs k c) k c := by
  constructor <;> rw [setCnt_get cs k c hs hk] <;> simp
theorem setVl_at (cs : Array Value) (k : Nat) (v : Vl) (hs : cs.size = 64) (hk : k < 8) : VlAt (setVl cs k v) k v := by
  constructor <;> rw [setVl_get cs k v hs hk] <;> simp
theorem TabOk.setCnt {cs : Array Value} (h : TabOk cs) {k : Nat} (hk : k < 16) {c : Cnt} (hc : c.Wf) : TabOk (setCnt cs k c) := by
  refine ⟨by rw [setCnt_size, h.size], fun j hj => ?_, fun j hj => ?_⟩
  · by_cases e : j = k
    · subst e
      exact ⟨c, hc, setCnt_at cs j c h.size hk⟩
    · obtain ⟨d, hd, h0, h1⟩ := h.cnt j hj
      refine ⟨d, hd, ?_, ?_⟩ <;> rw [setCnt_get cs k c h.size hk, if_neg (by omega), if_neg (by omega)] <;> assumption
  · obtain ⟨d, hd, h0, h1, h2, h3⟩ := h.vl j hj
    refine ⟨d, hd, ?_, ?_, ?_, ?_⟩ <;> rw [setCnt_get cs k c h.size hk, if_neg (by omega), if_neg (by omega)] <;> assumption
theorem TabOk.setVl {cs : Array Value} (h : TabOk cs) {k : Nat} (hk : k < 8) {v : Vl} (hv : v.Wf) : TabOk (setVl cs k v) := by
  refine ⟨by rw [setVl_size, h.size], fun j hj => ?_, fun j hj => ?_⟩
  · obtain ⟨d, hd, h0, h1⟩ := h.cnt j hj
    refine ⟨d, hd, ?_, ?_⟩ <;> rw [setVl_get cs k v h.size hk, if_neg (by omega), if_neg (by omega), if_neg (by omega), if_neg (by omega)] <;> assumption
  · by_cases e : j = k
    · subst e
      exact ⟨v, hv, setVl_at cs j v h.size hk⟩
    · obtain ⟨d, hd, h0, h1, h2, h3⟩ := h.vl j hj
      refine ⟨d, hd, ?_, ?_, ?_, ?_⟩ <;> rw [setVl_get cs k v h.size hk, if_neg (by omega), if_neg (by omega), if_neg (by omega), if_neg (by omega)] <;> assumption
theorem learnC_wf {c : Cnt} (h : c.Wf) (taken : Bool) {target : Int} (t0 : 0 ≤ target) (t1 : target ≤ 4294967295) : (learnC c taken target).Wf := by
  have a := withinP_bd (withinP c.lv + 1)
  have b := withinP_bd (withinP c.lv - 1)
  unfold learnC
  split
  · exact ⟨by show _ ≤ withinP _; omega, by show withinP _ ≤ _; omega, t0, t1⟩
  · exact ⟨by show _ ≤ withinP _; omega, by show withinP _ ≤ _; omega, h.t0, h.t1⟩
theorem learnV_wf {v : Vl} (h : v.Wf) {pc n : Int} (p0 : 0 ≤ pc) (p1 : pc ≤ 4294967295) (n0 : 0 ≤ n) (n1 : n ≤ 4294967295) : (learnV v pc n).Wf := by
  have a := withinP_bd (withinP v.sure + 1)
  have b0 : 0 ≤ subW n v.last := by unfold subW; omega
  have b1 : subW n v.last ≤ 4294967295 := by unfold subW; omega
  unfold learnV
  split
  · exact ⟨p0, p1, n0, n1, by show (0 : Int) ≤ 0; omega, by show (0 : Int) ≤ _; omega, by show _ ≤ (0 : Int); omega, by show (0 : Int) ≤ _; omega⟩
  split
  · exact ⟨h.p0, h.p1, n0, n1, h.s0, h.s1, by show _ ≤ withinP _; omega, by show withinP _ ≤ _; omega⟩
  · exact ⟨h.p0, h.p1, n0, n1, b0, b1, by show _ ≤ (0 : Int); omega, by show (0 : Int) ≤ _; omega⟩

/-- Branch, LearnBranch, Value, LearnValue. -/
def learnBranchP (cs : Array Value) (c : Cnt) (pc : Int) (taken : Bool) (target : Int) : Array Value := setCnt cs (cntK pc) (learnC c taken target)
def learnValueP (cs : Array Value) (v : Vl) (pc n : Int) : Array Value := setVl cs (vlK pc) (learnV v pc n)
def valueP (v : Vl) (pc : Int) : Int × Bool := if v.pc = pc ∧ 2 ≤ v.sure then (sumW v.last v.stride, true) else (0, false)
theorem cntK_lt (pc : Int) : cntK pc < 16 := by unfold cntK; omega
theorem vlK_lt (pc : Int) : vlK pc < 8 := by unfold vlK; omega
theorem cntK_eq (pc : Int) : ((cntK pc : Nat) : Int) = pc / 4 % 16 := by unfold cntK; omega
theorem vlK_eq (pc : Int) : ((vlK pc : Nat) : Int) = pc / 4 % 8 := by unfold vlK; omega

theorem vl_splice (cs : Array Value) (k : Nat) (v : Vl) (hs : cs.size = 64) (hk : k < 8) : splice cs (32 + k * 4) [.int .u32 v.pc, .int .u32 v.last, .int .u32 v.stride, .int .i64 v.sure] = setVl cs k v := by
  apply Array.ext_getElem?
  intro j
  rw [setVl_get cs k v hs hk, splice_get _ _ _ (by simp; omega)]
  simp only [List.length_cons, List.length_nil]
  by_cases h0 : j < 32 + k * 4
  · rw [if_pos h0, if_neg (by omega), if_neg (by omega), if_neg (by omega), if_neg (by omega)]
  rw [if_neg h0]
  by_cases h1 : j < 32 + k * 4 + (0 + 1 + 1 + 1 + 1)
  · rw [if_pos h1]
    rcases (by omega : j = 32 + k * 4 ∨ j = 32 + k * 4 + 1 ∨ j = 32 + k * 4 + 2 ∨ j = 32 + k * 4 + 3) with e | e | e | e
    · rw [if_pos e, show j - (32 + k * 4) = 0 by omega]; rfl
    · rw [if_neg (by omega), if_pos e, show j - (32 + k * 4) = 1 by omega]; rfl
    · rw [if_neg (by omega), if_neg (by omega), if_pos e, show j - (32 + k * 4) = 2 by omega]; rfl
    · rw [if_neg (by omega), if_neg (by omega), if_neg (by omega), if_pos e, show j - (32 + k * 4) = 3 by omega]; rfl
  · rw [if_neg h1, if_neg (by omega), if_neg (by omega), if_neg (by omega), if_neg (by omega)]
/-- Writing some fields of value k, the others being as they are. -/
theorem vl_ext (cs D : Array Value) (k : Nat) (v : Vl) (hs : cs.size = 64) (hk : k < 8) (hD : ∀ j, j ≠ 32 + k * 4 → j ≠ 32 + k * 4 + 1 → j ≠ 32 + k * 4 + 2 → j ≠ 32 + k * 4 + 3 → D[j]? = cs[j]?) (hv : VlAt D k v) : D = setVl cs k v := by
  apply Array.ext_getElem?
  intro j
  rw [setVl_get cs k v hs hk]
  by_cases e0 : j = 32 + k * 4
  · rw [if_pos e0, e0]; exact hv.c0
  rw [if_neg e0]
  by_cases e1 : j = 32 + k * 4 + 1
  · rw [if_pos e1, e1]; exact hv.c1
  rw [if_neg e1]
  by_cases e2 : j = 32 + k * 4 + 2
  · rw [if_pos e2, e2]; exact hv.c2
  rw [if_neg e2]
  by_cases e3 : j = 32 + k * 4 + 3
  · rw [if_pos e3, e3]; exact hv.c3
  rw [if_neg e3]
  exact hD j e0 e1 e2 e3
theorem cnt_ext (cs D : Array Value) (k : Nat) (c : Cnt) (hs : cs.size = 64) (hk : k < 16) (hD : ∀ j, j ≠ k * 2 → j ≠ k * 2 + 1 → D[j]? = cs[j]?) (hv : CntAt D k c) : D = setCnt cs k c := by
  apply Array.ext_getElem?
  intro j
  rw [setCnt_get cs k c hs hk]
  by_cases e0 : j = k * 2
  · rw [if_pos e0, e0]; exact hv.c0
  rw [if_neg e0]
  by_cases e1 : j = k * 2 + 1
  · rw [if_pos e1, e1]; exact hv.c1
  rw [if_neg e1]
  exact hD j e0 e1
/-- The kinds of a table's cells. -/
def tabKinds : List (Option IntKind) := (List.replicate 16 [some .i64, some .u32]).flatten ++ (List.replicate 8 [some .u32, some .u32, some .u32, some .i64]).flatten
theorem wf_i64 {n : Int} (h0 : -9223372036854775808 ≤ n) (h1 : n ≤ 9223372036854775807) : (Lit.int .i64 n).wf = true := by simp only [Lit.wf, Bool.and_eq_true, decide_eq_true_eq]; exact ⟨h0, h1⟩
theorem wf_u32 {n : Int} (h0 : 0 ≤ n) (h1 : n ≤ 4294967295) : (Lit.int .u32 n).wf = true := by simp only [Lit.wf, Bool.and_eq_true, decide_eq_true_eq]; exact ⟨h0, h1⟩
theorem wf_i32 {n : Int} (h0 : -2147483648 ≤ n) (h1 : n ≤ 2147483647) : (Lit.int .i32 n).wf = true := by simp only [Lit.wf, Bool.and_eq_true, decide_eq_true_eq]; exact ⟨h0, h1⟩
theorem tabKinds_cnt : ∀ k : Nat, k < 16 → tabKinds[k * 2]? = some (some .i64) ∧ tabKinds[k * 2 + 1]? = some (some .u32) := by decide
theorem tabKinds_vl : ∀ k : Nat, k < 8 → tabKinds[32 + k * 4]? = some (some .u32) ∧ tabKinds[32 + k * 4 + 1]? = some (some .u32) ∧ tabKinds[32 + k * 4 + 2]? = some (some .u32) ∧ tabKinds[32 + k * 4 + 3]? = some (some .i64) := by decide
theorem TabOk.fits {cs : Array Value} (h : TabOk cs) : Fits tabKinds cs.toList := by
  refine Fits.mk (by simp [h.size]; rfl) fun i k v hk hv => ?_
  rw [Array.getElem?_toList] at hv
  have hi : i < 64 := by rw [← h.size]; exact (Array.getElem?_eq_some_iff.1 hv).1
  by_cases h32 : i < 32
  · obtain ⟨c, wc, c0, c1⟩ := h.cnt (i / 2) (by omega)
    obtain ⟨t0, t1⟩ := tabKinds_cnt (i / 2) (by omega)
    rcases (by omega : i = i / 2 * 2 ∨ i = i / 2 * 2 + 1) with e | e
    · rw [← e] at c0 t0
      rw [c0] at hv; rw [t0] at hk; cases hv; cases hk
      exact ⟨_, rfl, wf_i64 wc.l0 wc.l1⟩
    · rw [← e] at c1 t1
      rw [c1] at hv; rw [t1] at hk; cases hv; cases hk
      exact ⟨_, rfl, wf_u32 wc.t0 wc.t1⟩
  · obtain ⟨c, wc, c0, c1, c2, c3⟩ := h.vl ((i - 32) / 4) (by omega)
    obtain ⟨t0, t1, t2, t3⟩ := tabKinds_vl ((i - 32) / 4) (by omega)
    rcases (by omega : i = 32 + (i - 32) / 4 * 4 ∨ i = 32 + (i - 32) / 4 * 4 + 1 ∨ i = 32 + (i - 32) / 4 * 4 + 2 ∨ i = 32 + (i - 32) / 4 * 4 + 3) with e | e | e | e
    · rw [← e] at c0 t0
      rw [c0] at hv; rw [t0] at hk; cases hv; cases hk
      exact ⟨_, rfl, wf_u32 wc.p0 wc.p1⟩
    · rw [← e] at c1 t1
      rw [c1] at hv; rw [t1] at hk; cases hv; cases hk
      exact ⟨_, rfl, wf_u32 wc.l0 wc.l1⟩
    · rw [← e] at c2 t2
      rw [c2] at hv; rw [t2] at hk; cases hv; cases hk
      exact ⟨_, rfl, wf_u32 wc.s0 wc.s1⟩
    · rw [← e] at c3 t3
      rw [c3] at hv; rw [t3] at hk; cases hv; cases hk
      exact ⟨_, rfl, wf_i64 wc.u0 wc.u1⟩
theorem TabOk.one {cs : Array Value} (h : TabOk cs) : cs.all (·.oneCell') = true := by
  rw [Array.all_eq_true_iff_forall_mem]
  intro v hv
  obtain ⟨i, hi, rfl⟩ := Array.getElem_of_mem hv
  have hl : i < tabKinds.length := by have := h.fits.length; simp at this; omega
  have := h.fits.get i tabKinds[i] cs[i] (List.getElem?_eq_getElem hl) (by simp)
  revert this
  cases tabKinds[i] with
  | none => rintro ⟨b, hb⟩; rw [hb]; rfl
  | some q => rintro ⟨n, hn, _⟩; rw [hn]; rfl
end Go.Proofs.Ytapgojgcmlnbgaa
