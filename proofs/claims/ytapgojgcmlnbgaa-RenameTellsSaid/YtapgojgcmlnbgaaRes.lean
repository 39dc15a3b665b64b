/- The results of a function of which one lies in a block. -/
import Derived.Test.YtapgojgcmlnbgaaBlks
namespace Go.Proofs.Ytapgojgcmlnbgaa
open Go Go.RowKit
section
variable {P : Program} {fn : Func} {tmps : Array Value} {w : World} {ad : Addr} {v x y z : Value} {p a b c : Tmp} {ty : TypeId}
theorem results_ct (h : fn.results = #[.cell p ty, .tmp a]) (hp : tmps.getD p undef = .pointer (some ad)) (ha : tmps.getD a undef = x) (hl : (loadVar ty ad).run P w = .ok v w) : (results fn tmps).run P w = .ok (.tuple #[v, x]) w := by
  have hp' : tmps[p]?.getD undef = .pointer (some ad) := by simpa using hp
  have ha' : tmps[a]?.getD undef = x := by simpa using ha
  simp [results, h, hp', ha', asAddr, hl]
theorem results_cttt (h : fn.results = #[.cell p ty, .tmp a, .tmp b, .tmp c]) (hp : tmps.getD p undef = .pointer (some ad)) (ha : tmps.getD a undef = x) (hb : tmps.getD b undef = y) (hc : tmps.getD c undef = z) (hl : (loadVar ty ad).run P w = .ok v w) :
    (results fn tmps).run P w = .ok (.tuple #[v, x, y, z]) w := by
  have hp' : tmps[p]?.getD undef = .pointer (some ad) := by simpa using hp
  have ha' : tmps[a]?.getD undef = x := by simpa using ha
  have hb' : tmps[b]?.getD undef = y := by simpa using hb
  have hc' : tmps[c]?.getD undef = z := by simpa using hc
  simp [results, h, hp', ha', hb', hc', asAddr, hl]
end
end Go.Proofs.Ytapgojgcmlnbgaa
