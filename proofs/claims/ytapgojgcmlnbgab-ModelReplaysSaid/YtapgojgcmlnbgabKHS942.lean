/- humpyardref4: May, and Step as a whole. -/
import Derived.Test.YtapgojgcmlnbgabKHS932
import Derived.Test.YtapgojgcmlnbgabKHS933
import Derived.Test.YtapgojgcmlnbgabKHS934
import Derived.Test.YtapgojgcmlnbgabKHS935
import Derived.Test.YtapgojgcmlnbgabKHS936
import Derived.Test.YtapgojgcmlnbgabKHS937
import Derived.Test.YtapgojgcmlnbgabKHS938
import Derived.Test.YtapgojgcmlnbgabKHS939
import Derived.Test.YtapgojgcmlnbgabKHS940
import Derived.Test.YtapgojgcmlnbgabKHS941
import Derived.Test.YtapgojgcmlnbgabProg
import Derived.Test.YtapgojgcmlnbgabKHS900
import Derived.WalkLawsBesides
import Derived.WalkSpells
import Derived.Lib.Hide
set_option linter.unusedSimpArgs false
set_option linter.unusedVariables false

namespace Go.Proofs.Ytapgojgcmlnbgab
open Go.RowKit

theorem rtrap_eq (h : Hart) (m : List Int) (cause : Int) : rtrap h m cause = (trapC h.pc cause, applyH (trapC h.pc cause) h, applyM (trapC h.pc cause) m) := rfl
theorem rstep_any (h : Hart) (A : Option Addr) (cap : Nat) (m : List Int) (w : World) (hh : h.Wf) (hst : h.state = 0) (hca : h.cause = 0) (hl : m.length ≤ 140737488351232) (hm : Bytes m) (hA : IntsAt w w.heap.size .u8 A m) (hnil : A = none → m = []) :
    Calls Try.prog 36 #[.agg h.cells, .slice A m.length cap] w (RPost w A m (comP h m, goH h m, goM h m)) := by
  unfold goH goM
  rcases hld : (loadP m 13 h.pc).2 with _ | _
  · have hf : fetchP m h.pc = (insN, 1) := by unfold fetchP; rw [hld]; rfl
    have hc : comP h m = trapC h.pc 1 := by unfold comP; rw [hf]; rfl
    rw [hc, ← rtrap_eq]
    exact rstep_load h A cap m w hh hl hm hA hnil hld
  rcases hd : decP (loadP m 13 h.pc).1 with _ | i
  · have hf : fetchP m h.pc = (insN, 2) := by unfold fetchP; rw [hld, if_pos rfl, hd]
    have hc : comP h m = trapC h.pc 2 := by unfold comP; rw [hf]; rfl
    rw [hc, ← rtrap_eq]
    exact rstep_word h A cap m w hh hl hm hA hnil hld hd
  have hf : fetchP m h.pc = (i, 0) := by unfold fetchP; rw [hld, if_pos rfl, hd]
  have hc : comP h m = doesP i h m := by unfold comP; rw [hf]; rfl
  have hi := dec_is hd
  rw [hc, ← stepR_eq i h m hi]
  obtain ⟨⟨o1, o2⟩, _⟩ := is_op hi
  by_cases c1 : i.op = 1
  · exact rstep_1 i h A cap m w _ hh hst hca hl hm hA hnil hld hd hi rfl c1
  by_cases c2 : i.op = 2
  · exact rstep_2 i h A cap m w _ hh hst hca hl hm hA hnil hld hd hi rfl c2
  by_cases c3 : i.op = 3
  · exact rstep_3 i h A cap m w _ hh hst hca hl hm hA hnil hld hd hi rfl c3
  by_cases c4 : i.op = 4
  · exact rstep_4 i h A cap m w _ hh hst hca hl hm hA hnil hld hd hi rfl c4
  by_cases c5 : i.op ≤ 10
  · exact rstep_branch i h A cap m w _ hh hst hca hl hm hA hnil hld hd hi rfl (by omega) c5
  by_cases c6 : i.op ≤ 15
  · exact rstep_loads i h A cap m w _ hh hst hca hl hm hA hnil hld hd hi rfl (by omega) c6
  by_cases c7 : i.op = 16
  · exact rstep_16 i h A cap m w _ hh hst hca hl hm hA hnil hld hd hi rfl c7
  by_cases c8 : i.op = 17
  · exact rstep_17 i h A cap m w _ hh hst hca hl hm hA hnil hld hd hi rfl c8
  by_cases c9 : i.op = 18
  · exact rstep_18 i h A cap m w _ hh hst hca hl hm hA hnil hld hd hi rfl c9
  by_cases c10 : i.op ≤ 27
  · exact rstep_alui i h A cap m w _ hh hst hca hl hm hA hnil hld hd hi rfl (by omega) c10
  by_cases c11 : i.op ≤ 45
  · exact rstep_alu i h A cap m w _ hh hst hca hl hm hA hnil hld hd hi rfl (by omega) c11
  by_cases c12 : i.op = 46
  · exact rstep_46 i h A cap m w _ hh hst hca hl hm hA hnil hld hd hi rfl c12
  by_cases c13 : i.op = 47
  · exact rstep_47 i h A cap m w _ hh hst hca hl hm hA hnil hld hd hi rfl c13
  · exact rstep_48 i h A cap m w _ hh hst hca hl hm hA hnil hld hd hi rfl (by omega)
end Go.Proofs.Ytapgojgcmlnbgab

/- The same bytes? (the reference's Bytes), of two slices that read alike. -/
namespace Go.Proofs.Ytapgojgcmlnbgab
open Go.RowKit

theorem conv_ints {P : Program} (w : World) (src e dst : TypeId) (hs : P.underlying src = some (.slice e)) (he : P.underlying e = some (.int .u8)) (hd : P.underlying dst = some .string) (A : Option Addr) (cap : Nat) (m : List Int) (B : Nat)
    (hA : IntsAt w B .u8 A m) (hnil : A = none → m = []) : (convert src dst (.slice A m.length cap)).run P w = .ok (.string (strOfNums m)) w := by
  rcases A with _ | ad
  · obtain rfl := hnil rfl
    exact run_convert_bytes_nil w src e hs he _ _ dst hd
  · by_cases hm : m = []
    · subst hm
      have := run_bytesToString (P := P) w ad 0 cap [] (by simp [loadCells, go_sem])
      rw [run_convert_bytes_string w src dst e _ _ cap hs he hd]
      exact this
    · obtain ⟨b, o, hA', _, _⟩ := hA hm
      injection hA' with hA'
      subst hA'
      obtain ⟨b', o', hA'', _, hc⟩ := hA.at_ (n := 0) (by cases m; exact absurd rfl hm; simp)
      injection hA'' with h1
      injection h1 with h2 h3
      subst h2 h3
      exact run_convert_bytes_arg w src e hs he b o m.length cap m rfl (fun i hi => hc i hi) dst hd

theorem bytes_same (A A' : Option Addr) (cap cap' : Nat) (m : List Int) (w : World) (B B' : Nat) (hA : IntsAt w B .u8 A m) (hnil : A = none → m = []) (hA' : IntsAt w B' .u8 A' m) (hnil' : A' = none → m = []) :
    Calls Try.prog 37 #[.slice A m.length cap, .slice A' m.length cap'] w fun e w' => e = .returned (.bool true) ∧ w = w' := by
  have c1 := conv_ints (P := Try.prog) w 32 5 9 Try.underlying32 Try.underlying5 Try.underlying9 A cap m B hA hnil
  have c2 := conv_ints (P := Try.prog) w 32 5 9 Try.underlying32 Try.underlying5 Try.underlying9 A' cap' m B' hA' hnil'
  generalize strOfNums m = s at c1 c2
  have e : (s.toList == s.toList) = true := by simp
  go_enter Try.func37, Try.ntmps37
  go_wp2
  go_ret
  refine ⟨ret_bool ?_, rfl⟩
  first | rfl | simp
end Go.Proofs.Ytapgojgcmlnbgab
