/- The law WindowOrders, walked. -/
import Derived.Test.YtapgojgcmlnbgabWindowTells
import Derived.Test.YtapgojgcmlnbgabWindowOrdPlain
import Derived.Test.YtapgojgcmlnbgabMemPlain
import Derived.BigQuiet
import Derived.Deep.CutRange
import Derived.Deep.CutBlock
namespace Go.Proofs.Ytapgojgcmlnbgab
open Go.RowKit

/-- A window of slots, as it lies. -/
structure WinOk (w : World) (A : Option Addr) (c : Nat) (L : List Slt) : Prop where
  row : SlotsAt w w.heap.size A L
  nil : A = none → L = [] ∧ c = 0
  cap : L.length ≤ c
  most : c ≤ 9223372036854775807
theorem WinOk.ext {w w' : World} {A : Option Addr} {c : Nat} {L : List Slt} (h : WinOk w A c L) (hb : Below w.heap.size w w') : WinOk w' A c L :=
  ⟨(h.row.below hb).mono hb.size, h.nil, h.cap, h.most⟩
theorem WinOk.own {w : World} {base n : Nat} {v : Value} {L : List Slt} (h : w.ownsRow base 34 2 v n (slotsV L)) : ∃ A c, v = .slice A L.length c ∧ WinOk w A c L := by
  have hn : n = L.length := by have := h.1; rw [slotsV_len] at this; omega
  subst hn
  have h0 := h
  rcases h.2 with ⟨rfl, hz⟩ | ⟨g, c, cur, rfl, _, _, hc, hm, _⟩
  · have hz' := List.eq_nil_of_length_eq_zero hz
    subst hz'
    exact ⟨none, 0, rfl, fun h => absurd rfl h, fun _ => ⟨rfl, rfl⟩, Nat.le_refl _, by decide⟩
  · exact ⟨_, c, rfl, SlotsAt.own h0, fun h => (by cases h), hc, by unfold maxLen at hm; omega⟩
theorem winOk_nil (w : World) : WinOk w none 0 [] := ⟨fun h => absurd rfl h, fun _ => ⟨rfl, rfl⟩, Nat.le_refl _, by decide⟩
/-- What is handed back, a window and whether. -/
def WRow2 (w : World) (K : List Slt) (b : Bool) (e : Ending) (w' : World) : Prop :=
  Below w.heap.size w w' ∧ ∃ A c n, e = .returned (.tuple #[.slice A n c, .bool b]) ∧ n = K.length ∧ WinOk w' A c K
def WRow3 (w : World) (K : List Slt) (I : List Int) (e : Ending) (w' : World) : Prop :=
  Below w.heap.size w w' ∧ ∃ A c n B d m, e = .returned (.tuple #[.slice A n c, .slice B m d]) ∧ n = K.length ∧ m = I.length ∧ WinOk w' A c K ∧ IntsAt w' w'.heap.size .i64 B I
theorem wrow2_none (w w' : World) (hb : Below w.heap.size w w') : WRow2 w [] false (.returned (.tuple #[.slice none 0 0, .bool false])) w' := ⟨hb, none, 0, 0, rfl, rfl, winOk_nil w'⟩
theorem wrow2_some (w w' : World) (hb : Below w.heap.size w w') {k : List Slt} {v : Value} (h : SlotsPost w k v w') : WRow2 w k true (.returned (.tuple #[v, .bool true])) w' := by
  obtain ⟨A, c, rfl, hk⟩ := WinOk.own h
  exact ⟨hb, A, c, _, rfl, rfl, hk⟩
theorem PushPost.wrow {w : World} {l : List Slt} {room seq : Int} {e : Ending} {w' : World} (h : PushPost w l room seq e w') : WRow2 w ((pushP l room seq).getD []) (pushP l room seq).isSome e w' := by
  unfold PushPost at h
  obtain ⟨hb, h⟩ := h
  cases hp : pushP l room seq with
  | none => rw [hp] at h; rw [h]; exact wrow2_none w w' hb
  | some k => rw [hp] at h; obtain ⟨v, rfl, ho⟩ := h; exact wrow2_some w w' hb ho
theorem DonePost.wrow {w : World} {l : List Slt} {seq : Int} {e : Ending} {w' : World} (h : DonePost w l seq e w') : WRow2 w ((doneP l seq).getD []) (doneP l seq).isSome e w' := by
  unfold DonePost at h
  obtain ⟨hb, h⟩ := h
  cases hp : doneP l seq with
  | none => rw [hp] at h; rw [h]; exact wrow2_none w w' hb
  | some k => rw [hp] at h; obtain ⟨v, rfl, ho⟩ := h; exact wrow2_some w w' hb ho
theorem wrow3_of {w w' : World} (hb : Below w.heap.size w w') {K : List Slt} {I : List Int} {v u : Value} {n : Nat} (h : SlotsPost w K v w') (h2 : w'.ownsRow w.heap.size 3 1 u n (I.map (Value.int .i64))) : WRow3 w K I (.returned (.tuple #[v, u])) w' := by
  obtain ⟨A, c, rfl, hk⟩ := WinOk.own h
  obtain ⟨B, d, rfl, hn, _, hi, _, _⟩ := own_ints h2
  subst hn
  exact ⟨hb, A, c, _, B, d, _, rfl, rfl, rfl, hk, hi⟩
theorem PopPost.wrow {w : World} {l : List Slt} {most : Int} {e : Ending} {w' : World} (h : PopPost w l most e w') : WRow3 w (l.drop (popK l most)) ((l.take (popK l most)).map (·.seq)) e w' := by
  obtain ⟨hb, v, u, rfl, h1, h2⟩ := h
  exact wrow3_of hb h1 h2
theorem CutPost.wrow {w : World} {l : List Slt} {seq : Int} {e : Ending} {w' : World} (h : CutPost w l seq e w') : WRow3 w (cutL l seq) (cutO l seq) e w' := by
  obtain ⟨hb, v, u, rfl, h1, h2⟩ := h
  exact wrow3_of hb h1 h2
theorem pushW {w : World} {A : Option Addr} {c n : Nat} {L : List Slt} (h : WinOk w A c L) (hn : n = L.length) (hl : n ≤ 200) (room seq : Int) :
    Calls Try.prog 15 #[.slice A n c, .int .i64 room, .int .i64 seq] w (WRow2 w ((pushP L room seq).getD []) (pushP L room seq).isSome) := by
  subst hn
  exact (push_any A c L room seq w (by omega) h.row h.nil).mono fun e w' h => PushPost.wrow h
theorem doneW {w : World} {A : Option Addr} {c n : Nat} {L : List Slt} (h : WinOk w A c L) (hn : n = L.length) (hl : n ≤ 200) (seq : Int) :
    Calls Try.prog 17 #[.slice A n c, .int .i64 seq] w (WRow2 w ((doneP L seq).getD []) (doneP L seq).isSome) := by
  subst hn
  exact (done_any A c L seq w (by omega) h.row h.nil).mono fun e w' h => DonePost.wrow h
theorem popW {w : World} {A : Option Addr} {c n : Nat} {L : List Slt} (h : WinOk w A c L) (hn : n = L.length) (hl : n ≤ 200) (most : Int) :
    Calls Try.prog 20 #[.slice A n c, .int .i64 most] w (WRow3 w (L.drop (popK L most)) ((L.take (popK L most)).map (·.seq))) := by
  subst hn
  exact (pop_any A c L most w (by omega) h.cap h.most h.row h.nil).mono fun e w' h => PopPost.wrow h
theorem cutW {w : World} {A : Option Addr} {c n : Nat} {L : List Slt} (h : WinOk w A c L) (hn : n = L.length) (hl : n ≤ 200) (seq : Int) :
    Calls Try.prog 22 #[.slice A n c, .int .i64 seq] w (WRow3 w (cutL L seq) (cutO L seq)) := by
  subst hn
  exact (cut_any A c L seq w (by omega) h.row).mono fun e w' h => CutPost.wrow h

set_option maxRecDepth 100000 in
set_option maxHeartbeats 20000000 in


theorem windowOrders_walk (room : Int) (A0 : Option Addr) (cap0 : Nat) (acts : List Int) (w : World) (hr0 : -9223372036854775808 ≤ room) (hr1 : room ≤ 9223372036854775807) (hl : acts.length ≤ 9223372036854775807) (hb0 : Bytes acts) (hA : IntsAt w w.heap.size .u8 A0 acts) :
    Calls Try.prog 4 #[.int .i64 room, .slice A0 acts.length cap0] w fun e w' => e = .returned (.bool true) ∧ Below w.heap.size w w' := by
  obtain ⟨N, hN⟩ : ∃ N, N = acts.length := ⟨_, rfl⟩
  have HN := Lib.hid hN
  rw [← hN] at hl ⊢
  have HA := Lib.hid hA
  have HB := Lib.hid hb0
  clear hA hN hb0
  go_enter Try.func4, Try.ntmps4
  go_upto_region 5 with (fail)
  go_loopw [5, 6, 7, 8] (fun v5 v6 v7 v8 wr => ∃ (A : Option Addr) (c n : Nat) (L : List Slt) (sq last : Int) (k : Nat), v5 = .slice A n c ∧ v6 = .int .i64 sq ∧ v7 = .int .i64 last ∧ v8 = .int .i64 k ∧ k ≤ 200 ∧ k ≤ N ∧ n ≤ k ∧ 0 ≤ sq ∧ sq ≤ k ∧ -1 ≤ last ∧ last < sq ∧ Below w.heap.size w wr ∧ Hid (((n : Int) ≤ room ∨ n = 0) ∧ n = L.length ∧ WinOk wr A c L ∧ Rises L last sq)) (fun _ _ _ v8 _ => 201 - (intOf v8).toNat)
  case atStart => exact ⟨none, 0, 0, [], 0, -1, 0, rfl, rfl, rfl, rfl, by omega, by omega, by omega, by omega, by omega, by omega, by omega, Below.refl _ _, Lib.hid ⟨Or.inr rfl, rfl, winOk_nil _, ⟨by simp, fun s hs => (by cases hs), fun s hs => (by cases hs)⟩⟩⟩
  case round =>
    obtain ⟨A, c, n, L, sq, last, k, rfl, rfl, rfl, rfl, hk, hkN, hnk, hsq0, hsq, hlast, hls, hb, HL0⟩ := hrel
    have HR := Lib.hid HL0.out.1
    have HL := Lib.hid HL0.out.2
    clear HL0
    by_cases hlt : k < N
    · by_cases h200 : k < 200
      · obtain ⟨a, ha⟩ : ∃ a, a = acts.getD k 0 := ⟨_, rfl⟩
        have hab := HB.out.getD k
        obtain ⟨b, o, rfl, hgB, c0⟩ := (HA.out.below hb).at_ (show k < acts.length by rw [← HN.out]; exact hlt)
        replace c0 := c0 k (by rw [← HN.out]; exact hlt)
        rw [← ha] at hab c0
        clear ha
        obtain ⟨x, rfl⟩ := Int.eq_ofNat_of_zero_le hab.1
        have hx : x ≤ 255 := by omega
        have hm : ((x : Int) % 4) = 0 ∨ ((x : Int) % 4) = 1 ∨ ((x : Int) % 4) = 2 ∨ ((x : Int) % 4) = 3 := by omega
        have hn200 : n ≤ 200 := by omega
        clear hab
        go_upto_block 2 with (fail)
        go_simp
        obtain ⟨y, hy⟩ : ∃ y : Int, (x : Int) / 4 = y := ⟨_, rfl⟩
        have hy0 : 0 ≤ y ∧ y ≤ 63 := by omega
        rw [hy]
        clear hy hx
        go_cut [5, 6, 7, 10, 11, 12, 13, 14, 15, 16, 17, 18, 19, 20] from 24 to 198 (fun v5 v6 v7 v10 v11 v12 v13 v14 v15 v16 v17 v18 v19 v20 wx => ∃ (A9 : Option Addr) (c9 n9 : Nat) (L9 : List Slt) (sq9 last9 : Int), v5 = .slice A9 n9 c9 ∧ v6 = .int .i64 sq9 ∧ v7 = .int .i64 last9 ∧ n9 ≤ k + 1 ∧ 0 ≤ sq9 ∧ sq9 ≤ k + 1 ∧ -1 ≤ last9 ∧ last9 < sq9 ∧ Below w.heap.size w wx ∧ Hid (((n9 : Int) ≤ room ∨ n9 = 0) ∧ n9 = L9.length ∧ WinOk wx A9 c9 L9 ∧ Rises L9 last9 sq9))
        case first =>
          rcases hm with hm | hm | hm | hm
          · rw [hm]
            clear c0 hm
            have CP := Lib.hid (pushW HL.out.2.1 HL.out.1 hn200 room sq)
            rw [HL.out.2.2.pushOk, ← HL.out.1] at CP
            by_cases hr : room ≤ n
            · rw [if_pos hr] at CP
              simp only [Option.getD_none, Option.isSome_none] at CP
              have f0 : decide ((n : Int) < room) = false := decide_eq_false (by omega)
              go_wp2_with (go_at_call 15; (with_reducible refine CP.out.mono ?_); rintro e w9 ⟨hb2, A2, c2, n2, rfl, hn2, hW2⟩)
              go_meet
              case rel => exact ⟨A, c, n, L, sq, last, rfl, rfl, rfl, by omega, by omega, by omega, by omega, by omega, hb.trans (hb2.mono hb.size), Lib.hid ⟨HR.out, HL.out.1, HL.out.2.1.ext hb2, HL.out.2.2⟩⟩
            · rw [if_neg hr] at CP
              simp only [Option.getD_some, Option.isSome_some] at CP
              have f0 : decide ((n : Int) < room) = true := decide_eq_true (by omega)
              go_wp2_with (go_at_call 15; (with_reducible refine CP.out.mono ?_); rintro e w9 ⟨hb2, A2, c2, n2, rfl, hn2, hW2⟩)
              go_meet
              case rel => exact ⟨A2, c2, L.length + 1, L ++ [⟨sq, false⟩], sq + 1, last, rfl, rfl, rfl, by have := HL.out.1; omega, by omega, by omega, by omega, by omega, hb.trans (hb2.mono hb.size), Lib.hid ⟨Or.inl (by have := HL.out.1; omega), by simp, hW2, HL.out.2.2.push hls⟩⟩
          · rw [hm]
            clear c0 hm
            have CD := Lib.hid (fun s => doneW HL.out.2.1 HL.out.1 hn200 s)
            go_upto_region 18 with (go_at_call 17; (with_reducible refine (CD.out _).mono ?_); rintro e w9 ⟨hb2, A2, c2, n2, rfl, hn2, hW2⟩)
            clear CD
            rcases hd : doneP L (last + 1 + y % 4) with _ | K
            · simp only [Option.isSome_none]
              go_wp2_with (fail)
              go_meet
              case rel => exact ⟨A, c, n, L, sq, last, rfl, rfl, rfl, by omega, by omega, by omega, by omega, by omega, hb.trans (hb2.mono hb.size), Lib.hid ⟨HR.out, HL.out.1, HL.out.2.1.ext hb2, HL.out.2.2⟩⟩
            · obtain ⟨hk1, hk2⟩ := doneP_length L hd
              rw [hd] at hW2
              simp only [Option.isSome_some, Option.getD_some] at hW2 ⊢
              have HK := Lib.hid (And.intro hW2 (HL.out.2.2.seqs hk2))
              have hkn : K.length = n := by rw [hk1, ← HL.out.1]
              clear hn2 hd hW2 hk1 hk2
              go_wp2_with (fail)
              go_meet
              case rel => exact ⟨A2, c2, K.length, K, sq, last, rfl, rfl, rfl, by omega, by omega, by omega, by omega, by omega, hb.trans (hb2.mono hb.size), Lib.hid ⟨by rw [hkn]; exact HR.out, rfl, HK.out.1, HK.out.2⟩⟩
          · rw [hm]
            clear c0 hm
            have CQ := Lib.hid (fun s => popW HL.out.2.1 HL.out.1 hn200 s)
            go_upto_region 22 with (go_at_call 20; (with_reducible refine (CQ.out _).mono ?_); rintro e w9 ⟨hb2, A2, c2, n2, B2, d2, m2, rfl, hn2, hm2, hW2, hI2⟩; replace hn2 := Lib.hid hn2; replace hm2 := Lib.hid hm2)
            clear CQ
            obtain ⟨p, hp⟩ : ∃ p, popK L (1 + y % 3) = p := ⟨_, rfl⟩
            have hpl : p ≤ L.length := by rw [← hp]; exact popK_le L _
            replace hn2 := hn2.out
            replace hm2 := hm2.out
            rw [hp] at hn2 hm2 hW2 hI2
            have hn2' : n2 + p = n := by rw [hn2, List.length_drop, HL.out.1]; omega
            have hm2' : m2 = p := by rw [hm2, List.length_map, List.length_take]; omega
            subst hm2'
            have hb9 := hb.trans (hb2.mono hb.size)
            have HK := Lib.hid hW2
            have HI := Lib.hid hI2
            have HP := Lib.hid hpl
            clear hn2 hm2 hW2 hI2 hp hpl hb2
            go_wp2_with (fail)
            go_loopw [7, 16] (fun v7 v16 wx => ∃ j : Nat, v16 = .int .i64 j ∧ j ≤ m2 ∧ v7 = .int .i64 (lastP last ((L.take m2).map (·.seq)) j) ∧ Below w9.heap.size w9 wx) (fun _ v _ => m2 + 1 - (intOf v).toNat)
            case atStart => exact ⟨0, rfl, Nat.zero_le _, rfl, Below.refl _ _⟩
            case round =>
              obtain ⟨j, rfl, hj, rfl, hr⟩ := hrel
              by_cases hlj : j < m2
              · have hjI : j < ((L.take m2).map (·.seq)).length := by rw [List.length_map, List.length_take]; have := HP.out; omega
                obtain ⟨g, q, rfl, hg, d0⟩ := (HI.out.below hr).at_ hjI
                replace d0 := d0 j hjI
                have f1 : decide (((L.take m2).map (·.seq)).getD j 0 ≤ lastP last ((L.take m2).map (·.seq)) j) = false := decide_eq_false (by have := rises_last HL.out.2.2 hlj HP.out; omega)
                generalize hx : ((L.take m2).map (·.seq)).getD j 0 = x0 at *
                have Hx := Lib.hid hx
                clear hx hjI
                generalize lastP last ((L.take m2).map (·.seq)) j = y0 at *
                go_wp2_with (fail)
                go_roundw
                case rel => exact ⟨j + 1, by go_num, by omega, by rw [← Hx.out]; rfl, hr⟩
                case measure => (simp [intOf] <;> omega)
              · obtain rfl : j = m2 := by omega
                have HX := Lib.hid (And.intro (rises_drop HL.out.2.2 HP.out) (rises_hi HL.out.2.2 hls (Nat.le_refl _) HP.out))
                generalize lastP last ((L.take j).map (·.seq)) j = x9 at *
                have f4 : (((n2 : Int) + j) != n) = false := by simp; omega
                go_wp2_with (fail)
                go_meet
                case rel => exact ⟨A2, c2, n2, L.drop j, sq, x9, rfl, rfl, rfl, by omega, by omega, by omega, by have := HX.out.2.1; omega, HX.out.2.2, hb9.trans (hr.mono hb9.size), Lib.hid ⟨by have := HR.out; omega, by rw [List.length_drop, ← HL.out.1]; omega, HK.out.ext hr, HX.out.1⟩⟩
          · rw [hm]
            clear c0 hm
            have CQ := Lib.hid (fun s => cutW HL.out.2.1 HL.out.1 hn200 s)
            go_upto_region 34 with (go_at_call 22; (with_reducible refine (CQ.out _).mono ?_); rintro e w9 ⟨hb2, A2, c2, n2, B2, d2, m2, rfl, hn2, hm2, hW2, hI2⟩; replace hn2 := Lib.hid hn2; replace hm2 := Lib.hid hm2)
            clear CQ
            obtain ⟨fr, hfr⟩ : ∃ fr, last + 1 + y % 8 = fr := ⟨_, rfl⟩
            replace hn2 := hn2.out
            replace hm2 := hm2.out
            rw [hfr] at hn2 hm2 hW2 hI2
            try rw [hfr]
            have hnm : n2 + m2 = n := by rw [hn2, hm2, HL.out.1]; exact cut_length L fr
            have hb9 := hb.trans (hb2.mono hb.size)
            have HK := Lib.hid (And.intro hn2 hW2)
            have HI := Lib.hid (And.intro hm2 hI2)
            clear hn2 hm2 hW2 hI2 hb2 hfr
            have f4 : (((n2 : Int) + m2) != n) = false := by simp; omega
            go_wp2_with (fail)
            clear f4
            go_loopw [20] (fun v20 wx => ∃ j : Nat, v20 = .int .i64 j ∧ j ≤ m2 ∧ Below w9.heap.size w9 wx) (fun v _ => m2 + 1 - (intOf v).toNat)
            case atStart => exact ⟨0, rfl, Nat.zero_le _, Below.refl _ _⟩
            case round =>
              obtain ⟨j, rfl, hj, hr⟩ := hrel
              by_cases hlj : j < m2
              · have hjI : j < (cutO L fr).length := by rw [← HI.out.1]; exact hlj
                obtain ⟨g, q, rfl, hg, d0⟩ := (HI.out.2.below hr).at_ hjI
                have d1 := d0 j hjI
                have f1 : decide ((cutO L fr).getD j 0 < fr) = false := decide_eq_false (by have := cutO_ge L fr j hjI; omega)
                have hg' := Nat.lt_of_lt_of_le hg hr.size
                by_cases hj0 : j = 0
                · subst hj0
                  have d1' : wr.cell? ⟨g, q, none⟩ = some (.int .i64 ((cutO L fr).getD 0 0)) := by simpa using d1
                  clear d1 d0
                  generalize (cutO L fr).getD 0 0 = x0 at *
                  clear hjI
                  go_upto_region 39 with (fail)
                  refine wp_region_below (by kernel_rfl) (by kernel_rfl) ?_
                  repeat' (first
                    | refine wpMix_plain rfl ?_
                    | (refine' wpMixW_quiet _ (fun wq hwq K hK => ?_) ?_ ?_
                       rotate_left 1
                       · (have k0 := (hwq.cell (p := ⟨g, q, none⟩) hg').trans d1'
                          go_wp2_with (fail)
                          all_goals exact hK _ hwq)
                       · rfl)
                    | (refine wpMix_guardT rfl rfl rfl ?_ ?_ <;> intro hc <;> first | (cases hc; done) | ((try cases hc); simp only [Act.put, List.setIfInBounds_toArray, List.set_cons_succ, List.set_cons_zero]))
                    | (refine wpMix_guardF rfl rfl rfl ?_ ?_ <;> intro hc <;> first | (cases hc; done) | ((try cases hc); simp only [Act.put, List.setIfInBounds_toArray, List.set_cons_succ, List.set_cons_zero]))
                    | refine wpMix_guardU rfl rfl rfl ?_)
                  all_goals
                    refine wpMix_nil ?_
                    intro wz hwz
                    have hrz := hr.trans (hwz.mono hr.size)
                    go_wp2
                    go_roundw
                    case rel => exact ⟨1, by go_num, by omega, hrz⟩
                    case measure => (simp [intOf] <;> omega)
                · obtain ⟨i, rfl⟩ : ∃ i, j = i + 1 := ⟨j - 1, by omega⟩
                  have d2 := d0 i (by omega)
                  have f2 : decide ((cutO L fr).getD i 0 ≤ (cutO L fr).getD (i + 1) 0) = false := decide_eq_false (by have := cutO_desc HL.out.2.2 fr i hjI; omega)
                  clear d0
                  generalize (cutO L fr).getD (i + 1) 0 = x0 at *
                  generalize (cutO L fr).getD i 0 = x1 at *
                  clear hjI hj0
                  go_upto_region 39 with (fail)
                  refine wp_region_below (by kernel_rfl) (by kernel_rfl) ?_
                  repeat' (first
                    | refine wpMix_plain rfl ?_
                    | (refine' wpMixW_quiet _ (fun wq hwq K hK => ?_) ?_ ?_
                       rotate_left 1
                       · (have k0 := (hwq.cell (p := ⟨g, q + (i + 1), none⟩) hg').trans d1; have k1 := (hwq.cell (p := ⟨g, q + i, none⟩) hg').trans d2
                          go_wp2_with (fail)
                          all_goals exact hK _ hwq)
                       · rfl)
                    | (refine wpMix_guardT rfl rfl rfl ?_ ?_ <;> intro hc <;> first | (cases hc; done) | ((try cases hc); simp only [Act.put, List.setIfInBounds_toArray, List.set_cons_succ, List.set_cons_zero]))
                    | (refine wpMix_guardF rfl rfl rfl ?_ ?_ <;> intro hc <;> first | (cases hc; done) | ((try cases hc); simp only [Act.put, List.setIfInBounds_toArray, List.set_cons_succ, List.set_cons_zero]))
                    | refine wpMix_guardU rfl rfl rfl ?_)
                  all_goals
                    refine wpMix_nil ?_
                    intro wz hwz
                    have hrz := hr.trans (hwz.mono hr.size)
                    go_wp2
                    go_roundw
                    case rel => exact ⟨i + 2, by go_num, by omega, hrz⟩
                    case measure => (simp [intOf] <;> omega)
              · obtain rfl : j = m2 := by omega
                go_wp2_with (fail)
                go_meet
                case rel => exact ⟨A2, c2, n2, cutL L fr, sq, last, rfl, rfl, rfl, by omega, by omega, by omega, by omega, by omega, hb9.trans (hr.mono hb9.size), Lib.hid ⟨by have := HR.out; omega, HK.out.1, HK.out.2.ext hr, HL.out.2.2.sub (cutL_sub L fr)⟩⟩
        case rest =>
          clear c0 hm HL HR
          obtain ⟨A9, c9, n9, L9, sq9, last9, rfl, rfl, rfl, hn9k, hs90, hs91, hl90, hl91, hb9, HL0⟩ := hcut
          have HR9 := Lib.hid HL0.out.1
          have HL9 := Lib.hid HL0.out.2
          clear HL0
          go_upto_region 43 with (fail)
          have hn9 : n9 ≤ 201 := by omega
          go_loopw [21] (fun v wx => ∃ j : Nat, v = .int .i64 j ∧ j ≤ n9 ∧ Below wc.heap.size wc wx) (fun v _ => n9 + 1 - (intOf v).toNat)
          case atStart => exact ⟨0, rfl, Nat.zero_le _, Below.refl _ _⟩
          case round =>
            obtain ⟨j, rfl, hj, hr⟩ := hrel
            by_cases hlj : j < n9
            · have hjl : j < (L9).length := by rw [← HL9.out.1]; exact hlj
              obtain ⟨g, q, rfl, hg, d0, _⟩ := (HL9.out.2.1.row.below hr).at_ hjl
              have hg' := Nat.lt_of_lt_of_le hg hr.size
              have f1 : decide (((L9)[j]'hjl).seq ≤ last9) = false := decide_eq_false (by have := HL9.out.2.2.lo _ (List.getElem_mem hjl); omega)
              by_cases hj0 : j = 0
              · subst hj0
                have d0' : wr.cell? ⟨g, q, none⟩ = some (.int .i64 ((L9)[0]'hjl).seq) := by simpa using d0
                clear d0
                generalize ((L9)[0]'hjl).seq = s0 at *
                go_upto_region 45 with (fail)
                refine wp_region_below (by kernel_rfl) (by kernel_rfl) ?_
                repeat' (first
                  | refine wpMix_plain rfl ?_
                  | (refine' wpMixW_quiet _ (fun wq hwq K hK => ?_) ?_ ?_
                     rotate_left 1
                     · (have k0 := (hwq.cell (p := ⟨g, q, none⟩) hg').trans d0'
                        go_wp2_with (fail)
                        all_goals exact hK _ hwq)
                     · rfl)
                  | (refine wpMix_guardT rfl rfl rfl ?_ ?_ <;> intro hc <;> first | (cases hc; done) | ((try cases hc); simp only [Act.put, List.setIfInBounds_toArray, List.set_cons_succ, List.set_cons_zero]))
                  | (refine wpMix_guardF rfl rfl rfl ?_ ?_ <;> intro hc <;> first | (cases hc; done) | ((try cases hc); simp only [Act.put, List.setIfInBounds_toArray, List.set_cons_succ, List.set_cons_zero]))
                  | refine wpMix_guardU rfl rfl rfl ?_)
                all_goals
                  refine wpMix_nil ?_
                  intro wz hwz
                  have hrz := hr.trans (hwz.mono hr.size)
                  go_wp2
                  go_roundw
                  case rel => exact ⟨1, by go_num, by omega, hrz⟩
                  case measure => (simp [intOf] <;> omega)
              · obtain ⟨i, rfl⟩ : ∃ i, j = i + 1 := ⟨j - 1, by omega⟩
                have hil : i < (L9).length := by omega
                obtain ⟨g2, q2, he2, _, d1, _⟩ := (HL9.out.2.1.row.below hr).at_ hil
                injection he2 with he2
                injection he2 with e1 e2 e3
                subst e1 e2
                clear e3
                have f2 : decide (((L9)[i + 1]'hjl).seq ≤ ((L9)[i]'hil).seq) = false := decide_eq_false (by have := rises_at HL9.out.2.2 (Nat.lt_add_one i) hjl; omega)
                generalize ((L9)[i + 1]'hjl).seq = s0 at *
                generalize ((L9)[i]'hil).seq = s1 at *
                clear hj0
                go_upto_region 45 with (fail)
                refine wp_region_below (by kernel_rfl) (by kernel_rfl) ?_
                repeat' (first
                  | refine wpMix_plain rfl ?_
                  | (refine' wpMixW_quiet _ (fun wq hwq K hK => ?_) ?_ ?_
                     rotate_left 1
                     · (have k0 := (hwq.cell (p := ⟨g, q + (i + 1) * 2, none⟩) hg').trans d0; have k1 := (hwq.cell (p := ⟨g, q + i * 2, none⟩) hg').trans d1
                        go_wp2_with (fail)
                        all_goals exact hK _ hwq)
                     · rfl)
                  | (refine wpMix_guardT rfl rfl rfl ?_ ?_ <;> intro hc <;> first | (cases hc; done) | ((try cases hc); simp only [Act.put, List.setIfInBounds_toArray, List.set_cons_succ, List.set_cons_zero]))
                  | (refine wpMix_guardF rfl rfl rfl ?_ ?_ <;> intro hc <;> first | (cases hc; done) | ((try cases hc); simp only [Act.put, List.setIfInBounds_toArray, List.set_cons_succ, List.set_cons_zero]))
                  | refine wpMix_guardU rfl rfl rfl ?_)
                all_goals
                  refine wpMix_nil ?_
                  intro wz hwz
                  have hrz := hr.trans (hwz.mono hr.size)
                  go_wp2
                  go_roundw
                  case rel => exact ⟨i + 2, by go_num, by omega, hrz⟩
                  case measure => (simp [intOf] <;> omega)
            · have hjn : j = n9 := by omega
              have f3 : decide (max room 0 < (j : Int)) = false := decide_eq_false (by have := HR9.out; omega)
              rw [hjn] at f3 ⊢
              go_wp2_with (fail)
              go_roundw
              case rel => exact ⟨_, _, _, L9, _, _, k + 1, rfl, rfl, rfl, by go_num, by omega, by omega, by omega, by omega, by omega, by omega, by omega, hb9.trans (hr.mono hb9.size), Lib.hid ⟨HR9.out, HL9.out.1, HL9.out.2.1.ext hr, HL9.out.2.2⟩⟩
              case measure => (simp [intOf] <;> omega)
      · obtain rfl : k = 200 := by omega
        have CP := Lib.hid (pushW (winOk_nil wr) (n := 0) rfl (by omega) 1 5)
        have hp5 : pushP [] 1 5 = some [⟨5, false⟩] := by decide
        rw [hp5] at CP
        simp only [Option.getD_some, Option.isSome_some, List.length_cons, List.length_nil] at CP
        clear hp5 HL HR
        go_wp2_with (go_at_call 15; (with_reducible refine CP.out.mono ?_); rintro e w9 ⟨hb2, A2, c2, n2, rfl, hn2, hW2⟩; subst hn2)
        go_ret
        exact ⟨rfl, hb.trans (hb2.mono hb.size)⟩
    · obtain rfl : k = N := by omega
      have CP := Lib.hid (pushW (winOk_nil wr) (n := 0) rfl (by omega) 1 5)
      have hp5 : pushP [] 1 5 = some [⟨5, false⟩] := by decide
      rw [hp5] at CP
      simp only [Option.getD_some, Option.isSome_some, List.length_cons, List.length_nil] at CP
      clear hp5 HL HR
      go_wp2_with (go_at_call 15; (with_reducible refine CP.out.mono ?_); rintro e w9 ⟨hb2, A2, c2, n2, rfl, hn2, hW2⟩; subst hn2)
      go_ret
      exact ⟨rfl, hb.trans (hb2.mono hb.size)⟩
end Go.Proofs.Ytapgojgcmlnbgab
