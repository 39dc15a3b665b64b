/- ModelReplays: for every hart, memory and number of steps, who does what the commits tell has the hart and the memory that are told; no condition. -/
import Derived.Test.YtapgojgcmlnbgabRows
import Derived.Test.YtapgojgcmlnbgabKHS900
import Derived.Test.YtapgojgcmlnbgabKHT945
import Derived.Test.YtapgojgcmlnbgabKMR1253
import Derived.WalkKit
import Derived.ProofKit
import Derived.OpenShut
import Derived.ShutString
import Derived.ChangeOld
import Derived.Below
import Derived.SizedLaws
set_option linter.unusedSimpArgs false
set_option linter.unusedVariables false

namespace Go.Proofs.Ytapgojgcmlnbgab
open Go.ChangeShapes Go.WideShapes Go.ChangeAt Go.RowKit
open Go.ChangeMaps (open_string shut_string)

theorem modelReplays_walk (h : Hart) (A : Option Addr) (cap : Nat) (m : List Int) (steps : Int) (w : World) (hh : h.Wf) (hl : m.length ≤ 140737488351232) (hm : Bytes m) (hA : IntsAt w w.heap.size .u8 A m) (hnil : A = none → m = []) (hcap : A = none → cap = 0) (s0 : -9223372036854775808 ≤ steps) (s1 : steps ≤ 9223372036854775807) :
    Calls Try.prog 13 #[.agg h.cells, .slice A m.length cap, .int .i64 steps] w fun e w' => e = .returned (.bool true) ∧ Below w.heap.size w w' := by
  by_cases hno : wrongP h m steps = 0
  · obtain ⟨h0, h1⟩ : 0 ≤ steps ∧ steps ≤ 2000 := by
      unfold wrongP at hno
      split at hno
      · cases hno
      · split at hno
        · cases hno
        · omega
    obtain ⟨N, rfl⟩ := Int.eq_ofNat_of_zero_le h0
    exact modelReplays_ok h A cap m N w hh hl hm hA (fun e => ⟨hnil e, hcap e⟩) (by omega) hno
  · exact modelReplays_no h A cap m steps w hh hl s0 s1 hno
theorem modelReplays_own : ownKnob Try.prog.godebug = none := by kernel_rfl
theorem modelReplays_laidOut : laidOutB Try.prog = true := by kernel_rfl
set_option linter.unusedVariables false in
set_option maxRecDepth 100000 in
theorem modelReplays_lifted (os : Os) (started : os.Started) (H : Type) (enc : TypeId × Value → H) :
    ReturnsInHanded {} Try.checked os 13 .any (Rows.modelReplaysSpec.pre6 enc Try.prog Try.f13 Rows.modelReplaysRow.domain false) (Rows.modelReplaysSpec.post enc Try.prog Try.f13 false true false false) := by
  refine returnsInHanded_of_change_sized (C := Try.checked) modelReplays_own started (by kernel_rfl) Try.func13
    (ChangeSpec.witness6 (enc := enc) (C := Try.checked) false ⟨#[], #[.agg ((List.replicate 32 (Value.int .u32 0)) ++ [Value.int .u32 0, Value.int .i64 0, Value.int .i64 0]).toArray, .slice none 0 0, .int .i64 0], []⟩ 8 (by kernel_rfl) (by kernel_rfl) (by kernel_rfl) (by kernel_rfl)) ?_
  intro W base args ds gs before hval0 hW hcnd hsz _
  have hval : ∀ (j : Nat) t v, Try.f13.params[j]? = some t → args[j]? = some v → Value.okWide Try.prog W .any base t v := hval0
  have hW' := hW
  obtain ⟨p, q, hA0, hV, rfl, hfz, hnd⟩ := hW
  have hA : DataW.TrodAll enc Try.prog W 0 (fun _ => true) true Try.f13.params.toList args.toList ds p := hA0
  rw [Try.params13] at hA hval
  obtain ⟨v0, vs0, d0, ds0, p0, q0, hargs, rfl, rfl, h0, r0⟩ := trodAll_cons hA
  obtain ⟨v1, vs1, d1, ds1, p1, q1, rfl, rfl, rfl, h1, r1⟩ := trodAll_cons r0
  obtain ⟨v2, vs2, d2, ds2, p2, q2, rfl, rfl, rfl, h2, r2⟩ := trodAll_cons r1
  obtain ⟨rfl, rfl, rfl⟩ := trodAll_nil r2
  obtain rfl : args = #[v0, v1, v2] := by cases args; simp_all
  obtain ⟨rfl, rfl⟩ := trodVars_none hV
  have k0 := h0
  have lt0 : ∀ x ∈ p0, x.block < W.heap.size := by obtain ⟨m, hm⟩ := k0; exact DataW.trod_lt m _ _ _ hm
  obtain ⟨cs0, rfl⟩ := okWide_struct Try.underlying51 (hval 0 51 v0 rfl rfl)
  obtain ⟨a0, wf0, num0, rfl⟩ : ∃ hh : Hart, hh.Wf ∧ hh.Num ∧ cs0 = hh.cells := by obtain ⟨fuel, hf⟩ := h0; exact open_hart hf
  have k1 := h1
  have lt1 : ∀ x ∈ p1, x.block < W.heap.size := by obtain ⟨m, hm⟩ := k1; exact DataW.trod_lt m _ _ _ hm
  obtain ⟨A1, len1, cap1, rfl⟩ := okWide_slice Try.underlying32 (hval 1 32 v1 rfl rfl)
  have hc1 : A1 = none → cap1 = 0 := by obtain ⟨fuel, hf⟩ := h1; exact open_cap0 hf
  obtain ⟨l1, hlen1, wf1, at1, hn1, hd1⟩ : ∃ l : List Int, l.length = len1 ∧ Bytes l ∧ IntsAt W W.heap.size .u8 A1 l ∧ (A1 = none → l = []) ∧ (d1 = .nil ∧ len1 = 0 ∨ ∃ es sp, d1 = .slice es sp ∧ es.length = len1) := by obtain ⟨fuel, hf⟩ := h1; exact open_bytes hf
  have hz1 := sized_len hsz (j := 1) (t := 32) (e := 5) (nb := 1) rfl rfl Try.underlying32 (by kernel_rfl) hd1
  subst hlen1
  rw [Nat.mul_one] at hz1
  have k2 := h2
  have lt2 : ∀ x ∈ p2, x.block < W.heap.size := by obtain ⟨m, hm⟩ := k2; exact DataW.trod_lt m _ _ _ hm
  obtain ⟨a2, rfl, hd2, hp2, wf2⟩ := open_int Try.underlying3 (hval 2 3 v2 rfl rfl) h2
  have b2 := bounds_i64 wf2
  clear hA0 hval0
  refine (modelReplays_walk a0 A1 cap1 l1 a2 W wf0 hz1 wf1 at1 hn1 hc1 b2.1 b2.2).mono fun e W' ⟨he, bel⟩ => ?_
  subst he
  exact ⟨_, rfl, _, _, _, [], _, [], hW', trodAll_mk1 (shut_bool Try.underlying4 _), (trodAll_cons_mk (Below.trod modelReplays_laidOut (by kernel_rfl) (of_decide_eq_true (by kernel_rfl)) k0 bel lt0) (trodAll_cons_mk (Below.trod modelReplays_laidOut (by kernel_rfl) (of_decide_eq_true (by kernel_rfl)) k1 bel lt1) (trodAll_cons_mk (Below.trod modelReplays_laidOut (by kernel_rfl) (of_decide_eq_true (by kernel_rfl)) k2 bel lt2) trodAll_mk0))), rfl, bel.frame _, fun h => by cases h⟩

theorem modelReplays_holds : Rows.ModelReplaysSaid :=
  OpenClaim.holds_of_wide 13 Try.f13 rfl rfl rfl rfl rfl rfl rfl ⟨rfl, rfl, rfl, rfl, rfl⟩ rfl rfl rfl rfl rfl (by kernel_rfl) Try.func13 (by kernel_rfl)
    (of_decide_eq_true (by kernel_rfl)) (by unfold Func.isWrapper; first | (rw [if_pos (by decide +kernel)]; kernel_rfl) | (rw [if_neg (by decide +kernel)]; exact ⟨rfl, rfl⟩))
    (fun os started H enc _ => modelReplays_lifted os started H enc)
#print axioms modelReplays_holds
end Go.Proofs.Ytapgojgcmlnbgab
