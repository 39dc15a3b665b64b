/- What package order comes to, in plain Lean. -/
import Derived.Test.YtapgojgcmlnbgaaData
namespace Go.Proofs.Ytapgojgcmlnbgaa

def manyI (m : Int) : Int := min (max m 0) 4
theorem manyI_lo (m : Int) : 0 ≤ manyI m := by unfold manyI; omega
theorem manyI_hi (m : Int) : manyI m ≤ 4 := by unfold manyI; omega

/-- Has one the byte p? -/
def hasB (a : Acc) (p : Int) : Bool := decide (a.at_ ≤ p) && decide (p < a.at_ + manyI a.many) && decide (p < 4294967296)
/-- Have two a byte in common, from byte k of the first on? -/
def meetFrom (s a : Acc) : Nat → Bool
  | 0 => false
  | n + 1 => (hasB s (s.at_ + (4 - (n + 1 : Nat))) && hasB a (s.at_ + (4 - (n + 1 : Nat)))) || meetFrom s a n
def meetB (s a : Acc) : Bool := meetFrom s a 4

theorem meetFrom_step (s a : Acc) (k : Nat) (hk : k < 4) : meetFrom s a (4 - k) = ((hasB s (s.at_ + k) && hasB a (s.at_ + k)) || meetFrom s a (4 - (k + 1))) := by
  obtain ⟨n, hn⟩ : ∃ n, 4 - k = n + 1 := ⟨3 - k, by omega⟩
  have e : ((4 : Int) - ((n + 1 : Nat) : Int)) = (k : Int) := by omega
  rw [hn, show 4 - (k + 1) = n from by omega, meetFrom, e]
theorem meetFrom_end (s a : Acc) (k : Nat) (hk : manyI s.many ≤ k) : meetFrom s a (4 - k) = false := by
  obtain ⟨n, hn⟩ : ∃ n, n = 4 - k := ⟨_, rfl⟩
  have hn' : 4 ≤ n + k := by omega
  clear hn
  rw [show 4 - k = 4 - k from rfl]
  generalize hm : 4 - k = m
  have hm4 : m ≤ 4 - k := by omega
  clear hm
  induction m with
  | zero => rfl
  | succ m ih =>
    rw [meetFrom, ih (by omega)]
    have : hasB s (s.at_ + (4 - ((m + 1 : Nat) : Int))) = false := by
      unfold hasB
      rw [decide_eq_false (p := s.at_ + (4 - ((m + 1 : Nat) : Int)) < s.at_ + manyI s.many) (by omega), Bool.and_false, Bool.false_and]
    rw [this]
    rfl

def wrongStep (s : Acc) (x : Int × Bool) (a : Acc) : Int × Bool :=
  if !a.store && a.known && a.done && decide (s.seq < a.seq) && meetB s a && (!x.2 || decide (a.seq < x.1)) then (a.seq, true) else x
def isStore (seq : Int) (s : Acc) : Bool := s.store && s.known && decide (s.seq = seq)
def wrongGo (l : List Acc) (seq : Int) : List Acc → Int × Bool
  | [] => (0, false)
  | s :: r => if isStore seq s then l.foldl (wrongStep s) (0, false) else wrongGo l seq r
def wrongP (l : List Acc) (seq : Int) : Int × Bool := wrongGo l seq l
end Go.Proofs.Ytapgojgcmlnbgaa
