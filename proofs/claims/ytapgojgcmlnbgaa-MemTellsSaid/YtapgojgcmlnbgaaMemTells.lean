/- The law MemTells, walked. -/
import Derived.Test.YtapgojgcmlnbgaaMemPut
import Derived.Test.YtapgojgcmlnbgaaRef3
import Derived.Test.YtapgojgcmlnbgaaRef3Store
import Derived.Test.YtapgojgcmlnbgaaRef4Bytes
namespace Go.Proofs.Ytapgojgcmlnbgaa
open Go.RowKit
set_option maxRecDepth 100000 in
set_option maxHeartbeats 400000 in
theorem memTells_walk (A : Option Addr) (cap : Nat) (m : List Int) (op p x : Int) (w : World) (h0 : 0 ≤ p) (h1 : p ≤ 4294967295) (hl : m.length ≤ 140737488351232) (hx0 : 0 ≤ x) (hx1 : x ≤ 4294967295)
    (hb : Bytes m) (hA : IntsAt w w.heap.size .u8 A m) (hnil : A = none → m = []) :
    Calls Try.prog 9 #[.slice A m.length cap, .int .i64 op, .int .u32 p, .int .u32 x] w fun e w' => e = .returned (.bool true) ∧ Below w.heap.size w w' := by
  have hl' : m.length ≤ 9223372036854775807 := by omega
  have hlp : (putW m op p.toNat x).length = m.length := putW_length _ _ _ _
  generalize hM : putW m op p.toNat x = M at hlp
  have HM := Lib.hid hM
  have Hlp := Lib.hid hlp
  clear hM hlp
  generalize hL : loadP m op p = L
  have HL := Lib.hid hL
  clear hL
  have e1 : (L.1 == L.1) = true := by simp
  have e2 : (L.2 == L.2) = true := by simp
  rcases hok : storeOk m.length op p with _ | _
  · go_enter Try.func9, Try.ntmps9
    go_wp2_with (first
      | (go_at_call 31; refine (load_any A cap m op p _ h0 h1 hl' hb hA).mono ?_; rintro e w1 ⟨rfl, rfl⟩; rw [HL.out])
      | (go_at_call 32; refine (store_any A cap m op p x _ h0 h1 hl hx0 hx1 hA hnil).mono ?_; rintro e w2 ⟨v2, rfl, hb2, hs2, hn2⟩; rw [hok]; obtain rfl := hn2 hok; have hA2 := (hA.below hb2).mono hb2.size; clear hs2 hn2)
      | (go_at_call 33; refine (refLoad_any A cap m op p _ h0 h1 hl' hb hA2).mono ?_; rintro e w3 ⟨rfl, rfl⟩; rw [HL.out])
      | (go_at_call 34; refine (refStore_not A m.length cap op p x _ h0 h1 hl hok).mono ?_; rintro e w4 ⟨rfl, rfl⟩)
      | (go_at_call 35; refine (bytes_same none none 0 0 [] _ 0 0 (fun h => absurd rfl h) (fun _ => rfl) (fun h => absurd rfl h) (fun _ => rfl)).mono ?_; rintro e w5 ⟨rfl, rfl⟩))
    go_ret
    exact ⟨rfl, hb2⟩
  · go_enter Try.func9, Try.ntmps9
    go_wp2_with (first
      | (go_at_call 31; refine (load_any A cap m op p _ h0 h1 hl' hb hA).mono ?_; rintro e w1 ⟨rfl, rfl⟩; rw [HL.out])
      | (go_at_call 32; refine (store_any A cap m op p x _ h0 h1 hl hx0 hx1 hA hnil).mono ?_; rintro e w2 ⟨v2, rfl, hb2, hs2, hn2⟩; rw [hok]; have ho2 := hs2 hok; have hA2 := (hA.below hb2).mono hb2.size; rw [HM.out] at ho2; obtain ⟨A2, c2, rfl⟩ := own_value ho2; clear hs2 hn2)
      | (go_at_call 33; refine (refLoad_any A cap m op p _ h0 h1 hl' hb hA2).mono ?_; rintro e w3 ⟨rfl, rfl⟩; rw [HL.out])
      | (go_at_call 34; refine (refStore_ok A cap m op p x _ h0 h1 hl hx0 hx1 hA2 hok).mono ?_; rintro e w4 ⟨v4, rfl, hb4, ho4⟩; rw [HM.out] at ho4; obtain ⟨A4, c4, rfl⟩ := own_value ho4)
      | (go_at_call 35; rw [← Hlp.out]; rw [← Hlp.out] at ho2 ho4; refine (bytes_same A2 A4 c2 c4 M _ w2.heap.size w4.heap.size (((IntsAt.own ho2).below hb4)) (own_nil ho2) (IntsAt.own ho4) (own_nil ho4)).mono ?_; rintro e w5 ⟨rfl, rfl⟩))
    go_ret
    exact ⟨rfl, hb2.trans (hb4.mono hb2.size)⟩
end Go.Proofs.Ytapgojgcmlnbgaa
