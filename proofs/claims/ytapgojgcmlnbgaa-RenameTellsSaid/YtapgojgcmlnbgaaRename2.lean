/- The walks of package rename: May, other, Take, Give, Undo. -/
import Derived.Test.YtapgojgcmlnbgaaRename
namespace Go.Proofs.Ytapgojgcmlnbgaa
open Go.RowKit

/-- A map of registers, as it lies. -/
structure MapIn (w : World) (m : RMap) (A : Option Addr) (cap : Nat) : Prop where
  p0 : -9223372036854775808 ≤ m.phys
  p1 : m.phys ≤ 9223372036854775807
  len : m.regs.length = 32
  few : m.free.length ≤ 17592186044000
  room : m.free.length ≤ cap
  free : IntsAt w w.heap.size .i64 A m.free
  nil : A = none → m.free = [] ∧ cap = 0
  wf : ∀ x ∈ m.all, -9223372036854775808 ≤ x ∧ x ≤ 9223372036854775807
theorem MapIn.ext {w w' : World} {m : RMap} {A : Option Addr} {cap : Nat} (h : MapIn w m A cap) (hb : Below w.heap.size w w') : MapIn w' m A cap :=
  ⟨h.p0, h.p1, h.len, h.few, h.room, (h.free.below hb).mono hb.size, h.nil, h.wf⟩
/-- A map of registers as a value. -/
def MapV (w : World) (m : RMap) (v : Value) : Prop := ∃ A cap, v = .agg (mapCells m.phys m.regs A m.free.length cap) ∧ MapIn w m A cap
theorem MapV.ext {w w' : World} {m : RMap} {v : Value} (h : MapV w m v) (hb : Below w.heap.size w w') : MapV w' m v := by
  obtain ⟨A, cap, h1, h2⟩ := h
  exact ⟨A, cap, h1, h2.ext hb⟩
theorem MapV.zero (w : World) : MapV w RMap.zero (.agg (mapCells 0 (List.replicate 32 0) none 0 0)) :=
  ⟨none, 0, rfl, by decide, by decide, rfl, by decide, by decide, fun h => absurd rfl h, fun _ => ⟨rfl, rfl⟩, by decide⟩
/-- A map of registers as a value, its free ones from block B on. -/
def MapF (w : World) (B : Nat) (m : RMap) (v : Value) : Prop := ∃ A cap, v = .agg (mapCells m.phys m.regs A m.free.length cap) ∧ MapIn w m A cap ∧ ∀ ad, A = some ad → B ≤ ad.block
theorem MapF.v {w : World} {B : Nat} {m : RMap} {v : Value} (h : MapF w B m v) : MapV w m v := by
  obtain ⟨A, cap, h1, h2, _⟩ := h
  exact ⟨A, cap, h1, h2⟩
theorem MapF.zero (w : World) (B : Nat) : MapF w B RMap.zero (.agg (mapCells 0 (List.replicate 32 0) none 0 0)) := by
  refine ⟨none, 0, rfl, ⟨by decide, by decide, rfl, by decide, by decide, fun h => absurd rfl h, fun _ => ⟨rfl, rfl⟩, by decide⟩, fun _ h => by cases h⟩
theorem map_info {phys : Int} {regs : List Int} {A : Option Addr} {n cap : Nat} (h : regs.length = 32) : (Try.prog.info? 50).map (·.size) = some (mapCells phys regs A n cap).size := by rw [mapCells_size _ _ _ _ _ h]; kernel_rfl
theorem map_one (phys : Int) (regs : List Int) (A : Option Addr) (n cap : Nat) : (mapCells phys regs A n cap).all (·.oneCell') = true := by
  rw [Array.all_eq_true_iff_forall_mem]
  intro v hv
  unfold mapCells at hv
  simp only [List.mem_toArray, List.mem_cons, List.mem_append, List.mem_map, List.not_mem_nil, or_false] at hv
  rcases hv with rfl | ⟨x, _, rfl⟩ | rfl <;> rfl
theorem built_map0 : Try.prog.built 50 [] = some (mapCells 0 (List.replicate 32 0) none 0 0) := by kernel_rfl

set_option maxRecDepth 100000 in
theorem may_any {w : World} {m : RMap} {v : Value} (h : MapV w m v) :
    Calls Try.prog 27 #[v] w fun e w' => e = .returned (.bool m.may) ∧ Below w.heap.size w w' := by
  obtain ⟨A, cap, rfl, h⟩ := h
  have hs := map_info (phys := m.phys) (A := A) (n := m.free.length) (cap := cap) h.len
  have hu := fun W (hb : Below w.heap.size w W) => used_any m.phys m.regs m.free A cap W h.p0 h.p1 h.len h.few ((h.ext hb).free) h.nil h.wf
  have hmay : mayP m.phys (m.regs ++ m.free) = m.may := rfl
  rw [hmay] at hu
  generalize mapCells m.phys m.regs A m.free.length cap = cs at *
  generalize m.may = X at *
  have Hu := Lib.hid hu
  clear hu hmay
  go_enter Try.func27, Try.ntmps27
  have hb1 := (Below.refl w.heap.size w).alloc (Nat.le_refl _) (.cells cs 50)
  have hB := Blk.new w 50 cs
  go_wp2_with (first
    | (refine wpList_load_all rfl 50 _ rfl w.heap.size rfl 50 cs _ hB Try.underlying50 rfl hs ?_)
    | (go_at_call 54; (with_reducible refine (Hu.out _ hb1).mono ?_); rintro e w2 ⟨v2, rfl, hb2, hh⟩; clear hh))
  go_ret
  exact ⟨rfl, hb1.trans (hb2.mono hb1.size)⟩
set_option maxRecDepth 100000 in
theorem other_any {w : World} {m : RMap} {v : Value} (h : MapV w m v) (p : Int) (hp0 : -9223372036854775808 ≤ p) (hp1 : p ≤ 9223372036854775807) :
    Calls Try.prog 55 #[v, .int .i64 p] w fun e w' => e = .returned (.bool (otherP m p)) ∧ Below w.heap.size w w' := by
  obtain ⟨A, cap, rfl, h⟩ := h
  have hs := map_info (phys := m.phys) (A := A) (n := m.free.length) (cap := cap) h.len
  have h0 := mapCells_0 m.phys m.regs A m.free.length cap
  have hu := fun W (hb : Below w.heap.size w W) => used_any m.phys m.regs m.free A cap W h.p0 h.p1 h.len h.few ((h.ext hb).free) h.nil h.wf
  have hmay : mayP m.phys (m.regs ++ m.free) = m.may := rfl
  have hot : otherP m p = (m.may && (decide (0 ≤ p) && decide (p < m.phys) && !((m.regs ++ m.free).contains p))) := by
    unfold otherP RMap.all
    congr 2
    rw [Bool.eq_iff_iff]
    simp
  rw [hot]
  rw [hmay] at hu
  generalize m.regs ++ m.free = l at *
  obtain ⟨z, hz⟩ : ∃ z, z = l.contains p := ⟨_, rfl⟩
  rw [← hz]
  generalize mapCells m.phys m.regs A m.free.length cap = cs at *
  generalize m.may = X at *
  generalize m.phys = phys at *
  have Hu := Lib.hid hu
  clear hu hmay hot
  have hb1 := (Below.refl w.heap.size w).alloc (Nat.le_refl _) (.cells cs 50)
  have hB := Blk.new w 50 cs
  cases X with
  | false =>
    go_enter Try.func55, Try.ntmps55
    go_wp2_with (first
      | (refine wpList_load_all rfl 50 _ rfl w.heap.size rfl 50 cs _ hB Try.underlying50 rfl hs ?_)
      | (go_at_call 54; (with_reducible refine (Hu.out _ hb1).mono ?_); rintro e w2 ⟨v2, rfl, hb2, hh⟩; clear hh))
    go_ret
    exact ⟨rfl, hb1.trans (hb2.mono hb1.size)⟩
  | true =>
    by_cases h1 : 0 ≤ p
    · by_cases h2 : p < phys
      · go_enter Try.func55, Try.ntmps55
        go_wp2_with (first
          | (refine wpList_load_all rfl 50 _ rfl w.heap.size rfl 50 cs _ hB Try.underlying50 rfl hs ?_)
          | (go_at_call 54; (with_reducible refine (Hu.out _ hb1).mono ?_); rintro e w2 ⟨v2, rfl, hb2, hh⟩; obtain ⟨b, n, S, rfl, hM, hS⟩ := hh rfl; have c0 := (hB.ext hb2).cell 0; rw [h0] at c0; have hlk := hM.look (t := 86) Try.underlying3 Try.underlying86 Try.underlying4 (bool_zero _) p (wf_i64' hp0 hp1); rw [hS, ← hz] at hlk; clear hh hM hS))
        go_ret
        exact ⟨by simp [*], hb1.trans (hb2.mono hb1.size)⟩
      · go_enter Try.func55, Try.ntmps55
        go_wp2_with (first
          | (refine wpList_load_all rfl 50 _ rfl w.heap.size rfl 50 cs _ hB Try.underlying50 rfl hs ?_)
          | (go_at_call 54; (with_reducible refine (Hu.out _ hb1).mono ?_); rintro e w2 ⟨v2, rfl, hb2, hh⟩; have c0 := (hB.ext hb2).cell 0; rw [h0] at c0; clear hh))
        go_ret
        exact ⟨by rw [decide_eq_false (p := p < phys) (by omega)]; simp, hb1.trans (hb2.mono hb1.size)⟩
    · go_enter Try.func55, Try.ntmps55
      go_wp2_with (first
        | (refine wpList_load_all rfl 50 _ rfl w.heap.size rfl 50 cs _ hB Try.underlying50 rfl hs ?_)
        | (go_at_call 54; (with_reducible refine (Hu.out _ hb1).mono ?_); rintro e w2 ⟨v2, rfl, hb2, hh⟩; have c0 := (hB.ext hb2).cell 0; rw [h0] at c0; clear hh))
      go_ret
      exact ⟨by rw [decide_eq_false (p := 0 ≤ p) (by omega)]; simp, hb1.trans (hb2.mono hb1.size)⟩
end Go.Proofs.Ytapgojgcmlnbgaa
