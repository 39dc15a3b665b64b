/- Who has learnt three words that grew so guesses the next one; and of a branch: in plain Lean. -/
import Derived.Test.YtapgojgcmlnbgaaGuessPlain
namespace Go.Proofs.Ytapgojgcmlnbgaa
open Go
theorem learnV_pc (v : Vl) (pc n : Int) : (learnV v pc n).pc = pc ∧ (learnV v pc n).last = n := by
  unfold learnV
  split
  · exact ⟨rfl, rfl⟩
  · rename_i h
    have h : v.pc = pc := by simpa using h
    split <;> exact ⟨h, rfl⟩
theorem learnV_stride {v : Vl} (hv : v.Wf) {pc n by_ : Int} (hp : v.pc = pc) (b0 : 0 ≤ by_) (b1 : by_ ≤ 4294967295) (hn : n = (v.last + by_) % 4294967296) : (learnV v pc n).stride = by_ := by
  obtain ⟨_, _, l0, l1, s0, s1, _, _⟩ := hv
  unfold learnV
  rw [if_neg (by simpa using hp)]
  split
  · rename_i h
    unfold sumW at h
    show v.stride = by_
    omega
  · show subW n v.last = by_
    unfold subW
    omega
theorem learnV_sure {v : Vl} {pc n : Int} (hp : v.pc = pc) (hn : n = sumW v.last v.stride) : (learnV v pc n).sure = withinP (withinP v.sure + 1) ∧ (learnV v pc n).stride = v.stride := by
  unfold learnV
  rw [if_neg (by simpa using hp), if_pos hn]
  exact ⟨rfl, rfl⟩
theorem withinP_up (n : Int) : 1 ≤ withinP (withinP n + 1) := by unfold withinP; (repeat' split) <;> omega
theorem withinP_up2 (n : Int) (h : 1 ≤ n) : 2 ≤ withinP (withinP n + 1) := by unfold withinP; (repeat' split) <;> omega
theorem learn4 {v : Vl} (hv : v.Wf) {pc x by_ : Int} (p0 : 0 ≤ pc) (p1 : pc ≤ 4294967295) (x0 : 0 ≤ x) (x1 : x ≤ 4294967295) (b0 : 0 ≤ by_) (b1 : by_ ≤ 4294967295) :
    valueP (learnV (learnV (learnV (learnV v pc x) pc ((x + by_) % 4294967296)) pc ((x + 2 * by_) % 4294967296)) pc ((x + 3 * by_) % 4294967296)) pc = ((x + 4 * by_) % 4294967296, true) := by
  have h1 := learnV_pc v pc x
  have w1 := learnV_wf hv p0 p1 x0 x1
  generalize learnV v pc x = v1 at *
  have h2 := learnV_pc v1 pc ((x + by_) % 4294967296)
  have w2 := learnV_wf w1 p0 p1 (n := (x + by_) % 4294967296) (by omega) (by omega)
  have s2 := learnV_stride w1 h1.1 b0 b1 (n := (x + by_) % 4294967296) (by rw [h1.2])
  generalize learnV v1 pc ((x + by_) % 4294967296) = v2 at *
  have e3 : (x + 2 * by_) % 4294967296 = sumW v2.last v2.stride := by unfold sumW; rw [h2.2, s2]; omega
  have h3 := learnV_pc v2 pc ((x + 2 * by_) % 4294967296)
  have s3 := learnV_sure h2.1 e3
  generalize learnV v2 pc ((x + 2 * by_) % 4294967296) = v3 at *
  have e4 : (x + 3 * by_) % 4294967296 = sumW v3.last v3.stride := by unfold sumW; rw [h3.2, s3.2, s2]; omega
  have h4 := learnV_pc v3 pc ((x + 3 * by_) % 4294967296)
  have s4 := learnV_sure h3.1 e4
  generalize learnV v3 pc ((x + 3 * by_) % 4294967296) = v4 at *
  have u3 := withinP_up v2.sure
  rw [← s3.1] at u3
  have u4 := withinP_up2 v3.sure u3
  rw [← s4.1] at u4
  unfold valueP
  rw [if_pos ⟨h4.1, u4⟩, h4.2, s4.2, s3.2, s2]
  unfold sumW
  congr 1
  omega
theorem learnC2 (c : Cnt) (x : Int) : 2 ≤ (learnC (learnC c true x) true x).lv ∧ (learnC (learnC c true x) true x).tg = x := by
  refine ⟨?_, rfl⟩
  show 2 ≤ withinP (withinP (withinP (withinP c.lv + 1)) + 1)
  exact withinP_up2 _ (withinP_up _)
theorem learnC3 (c : Cnt) (x : Int) : (learnC (learnC (learnC c false x) false x) false x).lv < 2 := by
  show withinP (withinP (withinP (withinP (withinP (withinP c.lv - 1)) - 1)) - 1) < 2
  have := withinP_bd c.lv
  generalize withinP c.lv = a at *
  unfold withinP
  (repeat' split) <;> omega
/-- What has been learnt stands in the table. -/
theorem lb_ok {cs : Array Value} {c : Cnt} {pc n : Int} (taken : Bool) (h : TabOk cs) (cw : c.Wf) (n0 : 0 ≤ n) (n1 : n ≤ 4294967295) :
    TabOk (learnBranchP cs c pc taken n) ∧ (learnC c taken n).Wf ∧ CntAt (learnBranchP cs c pc taken n) (cntK pc) (learnC c taken n) :=
  ⟨h.setCnt (cntK_lt pc) (learnC_wf cw taken n0 n1), learnC_wf cw taken n0 n1, setCnt_at cs _ _ h.size (cntK_lt pc)⟩
theorem lv_ok {cs : Array Value} {v : Vl} {pc n : Int} (h : TabOk cs) (vw : v.Wf) (p0 : 0 ≤ pc) (p1 : pc ≤ 4294967295) (n0 : 0 ≤ n) (n1 : n ≤ 4294967295) :
    TabOk (learnValueP cs v pc n) ∧ (learnV v pc n).Wf ∧ VlAt (learnValueP cs v pc n) (vlK pc) (learnV v pc n) :=
  ⟨h.setVl (vlK_lt pc) (learnV_wf vw p0 p1 n0 n1), learnV_wf vw p0 p1 n0 n1, setVl_at cs _ _ h.size (vlK_lt pc)⟩
end Go.Proofs.Ytapgojgcmlnbgaa
