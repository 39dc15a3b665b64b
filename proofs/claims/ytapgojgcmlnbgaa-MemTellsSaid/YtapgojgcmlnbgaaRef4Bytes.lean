/- The same bytes? (the reference's Bytes), of two slices that read alike. -/
import Derived.Test.YtapgojgcmlnbgaaProg
import Derived.Test.YtapgojgcmlnbgaaData
import Derived.WalkLawsBesides
import Derived.WalkSpells
import Derived.Lib.Hide
namespace Go.Proofs.Ytapgojgcmlnbgaa
open Go.RowKit

theorem conv_ints {P : Program} (w : World) (src e dst : TypeId) (hs : P.underlying src = some (.slice e)) (he : P.underlying e = some (.int .u8)) (hd : P.underlying dst = some .string) (A : Option Addr) (cap : Nat) (m : List Int) (B : Nat)
    (hA : IntsAt w B .u8 A m) (hnil : A = none → m = []) : (convert src dst (.slice A m.length cap)).run P w = .ok (.string (strOfNums m)) w := by
  rcases A with _ | ad
  · obtain rfl := hnil rfl
    exact run_convert_bytes_nil w src e hs he _ _ dst hd
  · by_cases hm : m = []
    · subst hm
      have := run_bytesToString (P := P) w ad 0 cap [] (by simp [loadCells, go_sem])
      rw [run_convert_bytes_string w src dst e _ _ cap hs he hd]
      exact this
    · obtain ⟨b, o, hA', _, _⟩ := hA hm
      injection hA' with hA'
      subst hA'
      obtain ⟨b', o', hA'', _, hc⟩ := hA.at_ (n := 0) (by cases m; exact absurd rfl hm; simp)
      injection hA'' with h1
      injection h1 with h2 h3
      subst h2 h3
      exact run_convert_bytes_arg w src e hs he b o m.length cap m rfl (fun i hi => hc i hi) dst hd

theorem bytes_same (A A' : Option Addr) (cap cap' : Nat) (m : List Int) (w : World) (B B' : Nat) (hA : IntsAt w B .u8 A m) (hnil : A = none → m = []) (hA' : IntsAt w B' .u8 A' m) (hnil' : A' = none → m = []) :
    Calls Try.prog 35 #[.slice A m.length cap, .slice A' m.length cap'] w fun e w' => e = .returned (.bool true) ∧ w = w' := by
  have c1 := conv_ints (P := Try.prog) w 26 5 9 Try.underlying26 Try.underlying5 Try.underlying9 A cap m B hA hnil
  have c2 := conv_ints (P := Try.prog) w 26 5 9 Try.underlying26 Try.underlying5 Try.underlying9 A' cap' m B' hA' hnil'
  generalize strOfNums m = s at c1 c2
  have e : (s.toList == s.toList) = true := by simp
  go_enter Try.func35, Try.ntmps35
  go_wp2
  go_ret
  refine ⟨ret_bool ?_, rfl⟩
  first | rfl | simp
end Go.Proofs.Ytapgojgcmlnbgaa
