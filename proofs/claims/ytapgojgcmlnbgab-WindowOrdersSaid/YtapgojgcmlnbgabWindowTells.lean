/- The law WindowTells, walked. -/
import Derived.Test.YtapgojgcmlnbgabWindow11
namespace Go.Proofs.Ytapgojgcmlnbgab
open Go.RowKit

/-- What Push and Done hand back, as it reads. -/
def Row2 (w : World) (K : List Slt) (b : Bool) (e : Ending) (w' : World) : Prop :=
  Below w.heap.size w w' ∧ ∃ A c, e = .returned (.tuple #[.slice A K.length c, .bool b]) ∧ SlotsAt w' w'.heap.size A K
/-- What Pop and Cut hand back, as it reads. -/
def Row3 (w : World) (K : List Slt) (I : List Int) (e : Ending) (w' : World) : Prop :=
  Below w.heap.size w w' ∧ ∃ A c B d, e = .returned (.tuple #[.slice A K.length c, .slice B I.length d]) ∧ SlotsAt w' w'.heap.size A K ∧ IntsAt w' w'.heap.size .i64 B I
theorem row2_none (w w' : World) (hb : Below w.heap.size w w') : Row2 w [] false (.returned (.tuple #[.slice none 0 0, .bool false])) w' :=
  ⟨hb, none, 0, rfl, fun h => absurd rfl h⟩
theorem row2_some (w w' : World) (hb : Below w.heap.size w w') {k : List Slt} {v : Value} (h : SlotsPost w k v w') : Row2 w k true (.returned (.tuple #[v, .bool true])) w' := by
  obtain ⟨A, c, rfl⟩ := own_value h
  exact ⟨hb, A, c, rfl, SlotsAt.own h⟩
theorem PushPost.row {w : World} {l : List Slt} {room seq : Int} {e : Ending} {w' : World} (h : PushPost w l room seq e w') : Row2 w ((pushP l room seq).getD []) (pushP l room seq).isSome e w' := by
  unfold PushPost at h
  obtain ⟨hb, h⟩ := h
  cases hp : pushP l room seq with
  | none => rw [hp] at h; rw [h]; exact row2_none w w' hb
  | some k => rw [hp] at h; obtain ⟨v, rfl, ho⟩ := h; exact row2_some w w' hb ho
theorem DonePost.row {w : World} {l : List Slt} {seq : Int} {e : Ending} {w' : World} (h : DonePost w l seq e w') : Row2 w ((doneP l seq).getD []) (doneP l seq).isSome e w' := by
  unfold DonePost at h
  obtain ⟨hb, h⟩ := h
  cases hp : doneP l seq with
  | none => rw [hp] at h; rw [h]; exact row2_none w w' hb
  | some k => rw [hp] at h; obtain ⟨v, rfl, ho⟩ := h; exact row2_some w w' hb ho
theorem row3_of {w w' : World} (hb : Below w.heap.size w w') {K : List Slt} {I : List Int} {v u : Value} {n : Nat} (h : SlotsPost w K v w') (h2 : w'.ownsRow w.heap.size 3 1 u n (I.map (Value.int .i64))) : Row3 w K I (.returned (.tuple #[v, u])) w' := by
  obtain ⟨A, c, rfl⟩ := own_value h
  obtain ⟨B, d, rfl, hn, _, hi, _, _⟩ := own_ints h2
  subst hn
  exact ⟨hb, A, c, B, d, rfl, SlotsAt.own h, hi⟩
theorem PopPost.row {w : World} {l : List Slt} {most : Int} {e : Ending} {w' : World} (h : PopPost w l most e w') : Row3 w (l.drop (popK l most)) ((l.take (popK l most)).map (·.seq)) e w' := by
  obtain ⟨hb, v, u, rfl, h1, h2⟩ := h
  exact row3_of hb h1 h2
theorem CutPost.row {w : World} {l : List Slt} {seq : Int} {e : Ending} {w' : World} (h : CutPost w l seq e w') : Row3 w (cutL l seq) (cutO l seq) e w' := by
  obtain ⟨hb, v, u, rfl, h1, h2⟩ := h
  exact row3_of hb h1 h2
theorem pushP_len (l : List Slt) (room seq : Int) : ((pushP l room seq).getD []).length ≤ l.length + 1 := by
  unfold pushP
  split <;> simp
theorem doneP_len (l : List Slt) (seq : Int) : ((doneP l seq).getD []).length ≤ l.length := by
  cases h : doneP l seq with
  | none => simp
  | some k => have := (doneP_length l h).1; simp [this]
set_option maxRecDepth 100000 in
set_option maxHeartbeats 2000000 in
theorem windowTells_walk (A : Option Addr) (cap : Nat) (l : List Slt) (room seq most : Int) (w : World) (hl : l.length * 16 ≤ 140737488351232) (hcap : l.length ≤ cap) (hcm : cap ≤ 9223372036854775807) (hA : SlotsAt w w.heap.size A l) (hnil : A = none → l = [] ∧ cap = 0) :
    Calls Try.prog 3 #[.slice A l.length cap, .int .i64 room, .int .i64 seq, .int .i64 most] w fun e w' => e = .returned (.bool true) ∧ Below w.heap.size w w' := by
  have C1 := Lib.hid (fun W hW => (push_any A cap l room seq W hl hW hnil).mono fun e w' h => PushPost.row h)
  have C2 := Lib.hid (fun W hW => (rpush_any A cap l room seq W hl hW hnil).mono fun e w' h => PushPost.row h)
  have C3 := Lib.hid (fun W hW => (done_any A cap l seq W hl hW hnil).mono fun e w' h => DonePost.row h)
  have C4 := Lib.hid (fun W hW => (rdone_any A cap l seq W hl hW hnil).mono fun e w' h => DonePost.row h)
  have C5 := Lib.hid (fun W hW => (pop_any A cap l most W hl hcap hcm hW hnil).mono fun e w' h => PopPost.row h)
  have C6 := Lib.hid (fun W hW => (rpop_any A cap l most W hl hcap hcm hW hnil).mono fun e w' h => PopPost.row h)
  have C7 := Lib.hid (fun W hW => (cut_any A cap l seq W hl hW).mono fun e w' h => CutPost.row h)
  have C8 := Lib.hid (fun W hW => (rcut_any A cap l seq W hl hW).mono fun e w' h => CutPost.row h)
  have n1 : ((pushP l room seq).getD []).length ≤ 9223372036854775807 := by have := pushP_len l room seq; omega
  have n2 : ((doneP l seq).getD []).length ≤ 9223372036854775807 := by have := doneP_len l seq; omega
  have n3 : (l.drop (popK l most)).length ≤ 9223372036854775807 := by rw [List.length_drop]; omega
  have n4 : ((l.take (popK l most)).map (·.seq)).length ≤ 9223372036854775807 := by rw [List.length_map, List.length_take]; omega
  have n5 : (cutL l seq).length ≤ 9223372036854775807 := by have := cut_length l seq; omega
  have n6 : (cutO l seq).length ≤ 9223372036854775807 := by have := cut_length l seq; omega
  have HA := Lib.hid hA
  generalize (pushP l room seq).getD [] = K1 at *
  generalize (pushP l room seq).isSome = b1 at *
  generalize (doneP l seq).getD [] = K2 at *
  generalize (doneP l seq).isSome = b2 at *
  generalize l.drop (popK l most) = K3 at *
  generalize (l.take (popK l most)).map (·.seq) = I3 at *
  generalize cutL l seq = K4 at *
  generalize cutO l seq = I4 at *
  clear hA hnil hl hcap hcm
  generalize hN : l.length = N at *
  clear hN
  have e1 : (b1 != b1) = false := by simp
  have e2 : (b2 != b2) = false := by simp
  have hb := Below.refl w.heap.size w
  go_enter Try.func3, Try.ntmps3
  go_wp2_with (first
    | (go_at_call 15; (with_reducible refine (C1.out _ ((HA.out.below hb).mono hb.size)).mono ?_); rintro e w1 ⟨hb2, A1, c1, rfl, s1⟩; replace hb := hb.trans (hb2.mono hb.size))
    | (go_at_call 16; (with_reducible refine (C2.out _ ((HA.out.below hb).mono hb.size)).mono ?_); rintro e w1 ⟨hb2, A2, c2, rfl, s2⟩; replace hb := hb.trans (hb2.mono hb.size); replace s1 := (s1.below hb2).mono hb2.size)
    | (go_at_call 17; (with_reducible refine (C3.out _ ((HA.out.below hb).mono hb.size)).mono ?_); rintro e w1 ⟨hb2, A3, c3, rfl, s3⟩; replace hb := hb.trans (hb2.mono hb.size); replace s1 := (s1.below hb2).mono hb2.size; replace s2 := (s2.below hb2).mono hb2.size)
    | (go_at_call 18; (with_reducible refine (C4.out _ ((HA.out.below hb).mono hb.size)).mono ?_); rintro e w1 ⟨hb2, A4, c4, rfl, s4⟩; replace hb := hb.trans (hb2.mono hb.size); replace s1 := (s1.below hb2).mono hb2.size; replace s2 := (s2.below hb2).mono hb2.size; replace s3 := (s3.below hb2).mono hb2.size)
    | (go_at_call 20; (with_reducible refine (C5.out _ ((HA.out.below hb).mono hb.size)).mono ?_); rintro e w1 ⟨hb2, A5, c5, B5, d5, rfl, s5, t5⟩; replace hb := hb.trans (hb2.mono hb.size))
    | (go_at_call 21; (with_reducible refine (C6.out _ ((HA.out.below hb).mono hb.size)).mono ?_); rintro e w1 ⟨hb2, A6, c6, B6, d6, rfl, s6, t6⟩; replace hb := hb.trans (hb2.mono hb.size); replace s5 := (s5.below hb2).mono hb2.size; replace t5 := (t5.below hb2).mono hb2.size)
    | (go_at_call 22; (with_reducible refine (C7.out _ ((HA.out.below hb).mono hb.size)).mono ?_); rintro e w1 ⟨hb2, A7, c7, B7, d7, rfl, s7, t7⟩; replace hb := hb.trans (hb2.mono hb.size); replace s5 := (s5.below hb2).mono hb2.size; replace t5 := (t5.below hb2).mono hb2.size; replace s6 := (s6.below hb2).mono hb2.size; replace t6 := (t6.below hb2).mono hb2.size)
    | (go_at_call 23; (with_reducible refine (C8.out _ ((HA.out.below hb).mono hb.size)).mono ?_); rintro e w1 ⟨hb2, A8, c8, B8, d8, rfl, s8, t8⟩; replace hb := hb.trans (hb2.mono hb.size); replace s5 := (s5.below hb2).mono hb2.size; replace t5 := (t5.below hb2).mono hb2.size; replace s6 := (s6.below hb2).mono hb2.size; replace t6 := (t6.below hb2).mono hb2.size; replace s7 := (s7.below hb2).mono hb2.size; replace t7 := (t7.below hb2).mono hb2.size)
    | (go_at_call 19; first
        | ((with_reducible refine (wslots_any A1 A2 c1 c2 K1 _ n1 s1 s2).mono ?_); rintro e w1 ⟨rfl, hb2⟩; replace hb := hb.trans (hb2.mono hb.size); replace s3 := (s3.below hb2).mono hb2.size; replace s4 := (s4.below hb2).mono hb2.size)
        | ((with_reducible refine (wslots_any A3 A4 c3 c4 K2 _ n2 s3 s4).mono ?_); rintro e w1 ⟨rfl, hb2⟩; replace hb := hb.trans (hb2.mono hb.size))
        | ((with_reducible refine (wslots_any A5 A6 c5 c6 K3 _ n3 s5 s6).mono ?_); rintro e w1 ⟨rfl, hb2⟩; replace hb := hb.trans (hb2.mono hb.size); replace t5 := (t5.below hb2).mono hb2.size; replace t6 := (t6.below hb2).mono hb2.size; replace s7 := (s7.below hb2).mono hb2.size; replace t7 := (t7.below hb2).mono hb2.size; replace s8 := (s8.below hb2).mono hb2.size; replace t8 := (t8.below hb2).mono hb2.size)
        | ((with_reducible refine (wslots_any A7 A8 c7 c8 K4 _ n5 s7 s8).mono ?_); rintro e w1 ⟨rfl, hb2⟩; replace hb := hb.trans (hb2.mono hb.size); replace t7 := (t7.below hb2).mono hb2.size; replace t8 := (t8.below hb2).mono hb2.size))
    | (go_at_call 24; first
        | ((with_reducible refine (wints_any B5 B6 d5 d6 I3 _ n4 t5 t6).mono ?_); rintro e w1 ⟨rfl, hb2⟩; replace hb := hb.trans (hb2.mono hb.size); replace s7 := (s7.below hb2).mono hb2.size; replace t7 := (t7.below hb2).mono hb2.size; replace s8 := (s8.below hb2).mono hb2.size; replace t8 := (t8.below hb2).mono hb2.size)
        | ((with_reducible refine (wints_any B7 B8 d7 d8 I4 _ n6 t7 t8).mono ?_); rintro e w1 ⟨rfl, hb2⟩; replace hb := hb.trans (hb2.mono hb.size))))
  go_ret
  exact ⟨rfl, hb⟩
end Go.Proofs.Ytapgojgcmlnbgab
