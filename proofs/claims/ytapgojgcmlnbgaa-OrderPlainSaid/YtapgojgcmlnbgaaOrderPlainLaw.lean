/- The law OrderPlain, walked. -/
import Derived.Test.YtapgojgcmlnbgaaOrderSeeW
namespace Go.Proofs.Ytapgojgcmlnbgaa
open Go.RowKit

theorem seeP_later (a : Acc) (m : List Int) (seq p many : Int) (h : ¬ a.seq < seq) : seeP [a] m seq p many = seeP [] m seq p many := by
  have hb : ∀ q, byteP [a] m seq q = byteP [] m seq q := fun q => by
    unfold byteP
    simp [bestStep, h]
  have hs : sureB [a] seq = sureB [] seq := by
    have : seq ≤ a.seq := by omega
    simp [sureB, sureStep, this]
  unfold seeP seeW
  rw [hs, hb, hb, hb, hb]
theorem seeP_load (m : List Int) (seq p : Int) (h0 : 0 ≤ p) : seeP [] m seq p 4 = ((loadP m 13 p).1, (loadP m 13 p).2, (loadP m 13 p).2) := by
  have hs : sizeI 13 = 4 := rfl
  have hok : seeOk m p 4 = (decide ((11 : Int) ≤ 13) && decide ((13 : Int) ≤ 15) && thereB m.length p (sizeI 13)) := by
    rw [hs]; unfold seeOk; simp
  unfold seeP loadP
  rw [hok]
  split
  · simp only [seeW, loadW, loadB, byteP, List.foldl_nil, byteOf, sureB]
    rw [show (p + 1).toNat = p.toNat + 1 by omega, show (p + 2).toNat = p.toNat + 2 by omega, show (p + 3).toNat = p.toNat + 3 by omega]
    simp
  · rfl
theorem AccsAt.one (w : World) (t : TypeId) (a : Acc) (g : Nat) (hg : g = w.heap.size) : AccsAt (w.alloc (.cells a.cells t)) (w.alloc (.cells a.cells t)).heap.size (some ⟨g, 0, none⟩) [a] := by
  subst hg
  intro _
  refine ⟨_, 0, rfl, by simp, fun k b hk => ?_⟩
  obtain rfl : k = 0 := by
    have := (List.getElem?_eq_some_iff.1 hk).1
    simp at this
    omega
  simp at hk
  subst hk
  have h := fun i => World.cell?_alloc_new w a.cells t i
  exact ⟨h 0, h 1, h 2, h 3, h 4, h 5, h 6⟩
theorem IntsAt.new (w : World) (t : TypeId) (k : IntKind) (l : List Int) (g : Nat) (hg : g = w.heap.size) : IntsAt (w.alloc (.cells (l.map (Value.int k)).toArray t)) (w.alloc (.cells (l.map (Value.int k)).toArray t)).heap.size k (some ⟨g, 0, none⟩) l := by
  subst hg
  intro _
  refine ⟨_, 0, rfl, by simp, fun i v hi => ?_⟩
  rw [World.cell?_alloc_new]
  simp [hi]

theorem hwf0 : ∀ b ∈ ([] : List Acc), b.Wf := fun b h => by cases h
theorem hA0 (W : World) : AccsAt W W.heap.size none [] := fun h => absurd rfl h

theorem see_none (A : Option Addr) (cap : Nat) (m : List Int) (p : Int) (W : World) (hl : m.length ≤ 9223372036854775807) (h0 : 0 ≤ p) (h1 : p ≤ 4294967295)
    (hb : Bytes m) (hA : IntsAt W W.heap.size .u8 A m) :
    Calls Try.prog 15 #[.slice none 0 0, .slice A m.length cap, .int .i64 7, .int .u32 p, .int .i64 4] W
      fun e w' => e = .returned (.tuple #[.int .u32 (loadP m 13 p).1, .bool (loadP m 13 p).2, .bool (loadP m 13 p).2]) ∧ Below W.heap.size W w' := by
  have h := see_any none 0 [] A cap m 7 p 4 W (by simp) hl hwf0 hb (hA0 _) hA h0 h1
  rw [seeP_load m 7 p h0] at h
  exact h
theorem see_eight (A : Option Addr) (cap : Nat) (m : List Int) (p : Int) (a : Acc) (g : Nat) (W : World) (hl : m.length ≤ 9223372036854775807) (h0 : 0 ≤ p) (h1 : p ≤ 4294967295)
    (hb : Bytes m) (hA : IntsAt W W.heap.size .u8 A m) (hwf : a.Wf) (hs : a.seq = 8) (hA' : AccsAt W W.heap.size (some ⟨g, 0, none⟩) [a]) :
    Calls Try.prog 15 #[.slice (some ⟨g, 0, none⟩) 1 1, .slice A m.length cap, .int .i64 7, .int .u32 p, .int .i64 4] W
      fun e w' => e = .returned (.tuple #[.int .u32 (loadP m 13 p).1, .bool (loadP m 13 p).2, .bool (loadP m 13 p).2]) ∧ Below W.heap.size W w' := by
  have h := see_any (some ⟨g, 0, none⟩) 1 [a] A cap m 7 p 4 W (by simp) hl (fun b hb' => by simp at hb'; rw [hb']; exact hwf) hb hA' hA h0 h1
  rw [seeP_later a m 7 p 4 (by omega), seeP_load m 7 p h0] at h
  exact h
theorem see_513 (g : Nat) (W : World) (hA : IntsAt W W.heap.size .u8 (some ⟨g, 0, none⟩) [1, 2, 3, 4]) :
    Calls Try.prog 15 #[.slice none 0 0, .slice (some ⟨g, 0, none⟩) 4 4, .int .i64 0, .int .u32 0, .int .i64 2] W
      fun e w' => e = .returned (.tuple #[.int .u32 513, .bool true, .bool true]) ∧ Below W.heap.size W w' := by
  have h := see_any none 0 [] (some ⟨g, 0, none⟩) 4 [1, 2, 3, 4] 0 0 2 W (by simp) (by simp) hwf0 (by intro b hb; simp at hb; omega) (hA0 _) hA (by omega) (by omega)
  rw [show seeP [] [1, 2, 3, 4] 0 0 2 = (513, true, true) by decide] at h
  exact h

set_option maxRecDepth 100000 in
set_option maxHeartbeats 1000000 in
theorem orderPlain_walk (A : Option Addr) (cap : Nat) (m : List Int) (p : Int) (a : Acc) (w : World) (hl : m.length ≤ 9223372036854775807) (h0 : 0 ≤ p) (h1 : p ≤ 4294967295)
    (hb : Bytes m) (hA : IntsAt w w.heap.size .u8 A m) (hwf : a.Wf) :
    Calls Try.prog 11 #[.slice A m.length cap, .int .u32 p, .agg a.cells] w fun e w' => e = .returned (.bool true) ∧ Below w.heap.size w w' := by
  have hwf2 : Acc.Wf ⟨8, a.store, a.known, a.at_, a.many, a.data, a.done⟩ := ⟨hwf.at0, hwf.at1, hwf.data0, hwf.data1, by simp, by simp, hwf.many0, hwf.many1⟩
  have hbb := (Below.refl w.heap.size w).alloc (Nat.le_refl _) (.cells a.cells 72)
  clear hwf
  obtain ⟨aq, ast, akn, aat, amn, adt, adn⟩ := a
  dsimp only at hwf2
  generalize hL : loadP m 13 p = L
  have HL := Lib.hid hL
  clear hL
  obtain ⟨L1, L2⟩ := L
  have e1 : (L1 == L1) = true := by simp
  have e2 : (L2 == L2) = true := by simp
  go_enter Try.func11, Try.ntmps11
  go_wp2_with (first
    | (go_at_call 15; (with_reducible refine (see_none A cap m p _ hl h0 h1 hb ((hA.below hbb).mono hbb.size)).mono ?_); rintro e w1 ⟨rfl, hb1⟩; rw [HL.out]; have hbb1 := hbb.trans (hb1.mono hbb.size); have hn1 := ((Blk.new w _ _).ext hb1).cell; have hf1 := ((Blk.new w _ _).ext hb1).frozen)
    | (go_at_call 31; (with_reducible refine (load_any A cap m 13 p _ h0 h1 hl hb ((hA.below hbb1).mono hbb1.size)).mono ?_); rintro e w2 ⟨rfl, rfl⟩; rw [HL.out])
    | (go_at_call 15; have hbb2 := ((hbb1.setCell (p := ⟨w.heap.size, 0, none⟩) (Nat.le_refl _) (.int .i64 8)).alloc (by simpa using hbb1.size) (.cells (Acc.cells ⟨8, ast, akn, aat, amn, adt, adn⟩) 72)); (with_reducible refine (see_eight A cap m p ⟨8, ast, akn, aat, amn, adt, adn⟩ _ _ hl h0 h1 hb ((hA.below hbb2).mono hbb2.size) hwf2 rfl (AccsAt.one _ _ _ _ (by simp))).mono ?_); rintro e w3 ⟨rfl, hb3⟩; rw [HL.out]; have hbb3 := hbb2.trans (hb3.mono hbb2.size))
    | (go_at_call 15; have hbb4 := hbb3.alloc (hbb3.size) (.cells #[.int .u8 1, .int .u8 2, .int .u8 3, .int .u8 4] 5); have hI : IntsAt (w3.alloc (.cells #[.int .u8 1, .int .u8 2, .int .u8 3, .int .u8 4] 5)) (w3.alloc (.cells #[.int .u8 1, .int .u8 2, .int .u8 3, .int .u8 4] 5)).heap.size .u8 (some ⟨w3.heap.size, 0, none⟩) [1, 2, 3, 4] := IntsAt.new w3 5 .u8 [1, 2, 3, 4] _ rfl; (with_reducible refine (see_513 w3.heap.size _ hI).mono ?_); rintro e w5 ⟨rfl, hb5⟩))
  go_ret
  exact ⟨rfl, hbb4.trans (hb5.mono hbb4.size)⟩
end Go.Proofs.Ytapgojgcmlnbgaa
