/- Plain data of the program, as Lean structures, and how a slice of structs lies in memory. -/
import Derived.WalkKit
namespace Go.Proofs.Ytapgojgcmlnbgab
open Go.RowKit

/-- The world of a goal under a name. -/
theorem wp_gen {P : Program} {c : Code} {Q : Exit → Act → World → Prop} {a : Act} {w : World} (h : ∀ w', w' = w → c.wp P Q a w') : c.wp P Q a w := h w rfl

theorem ret_bool {a b : Bool} (h : a = b) : Ending.returned (.bool a) = Ending.returned (.bool b) := by rw [h]
theorem ret_int {k : IntKind} {a b : Int} (h : a = b) : Ending.returned (.int k a) = .returned (.int k b) := by rw [h]

theorem ret_tup {k : IntKind} {a b : Int} {c : Bool} (h : a = b) : Ending.returned (.tuple #[.int k a, .bool c]) = .returned (.tuple #[.int k b, .bool c]) := by rw [h]

/-- api.Access. -/
structure Acc where
  seq : Int
  store : Bool
  known : Bool
  at_ : Int
  many : Int
  data : Int
  done : Bool
  deriving DecidableEq

instance : Inhabited Acc := ⟨⟨0, false, false, 0, 0, 0, false⟩⟩

abbrev Acc.cells (a : Acc) : Array Value := #[.int .i64 a.seq, .bool a.store, .bool a.known, .int .u32 a.at_, .int .i64 a.many, .int .u32 a.data, .bool a.done]
abbrev Acc.val (a : Acc) : Value := .agg a.cells

structure Acc.Wf (a : Acc) : Prop where
  at0 : 0 ≤ a.at_
  at1 : a.at_ ≤ 4294967295
  data0 : 0 ≤ a.data
  data1 : a.data ≤ 4294967295
  seq0 : -9223372036854775808 ≤ a.seq
  seq1 : a.seq ≤ 9223372036854775807
  many0 : -9223372036854775808 ≤ a.many
  many1 : a.many ≤ 9223372036854775807

theorem grownBy_trans {a b c : World} {row : Option Nat} (h : a.grownBy b row) (k : b.grownBy c row) : a.grownBy c row :=
  ⟨k.os.trans h.os, k.tape.trans h.tape, k.output.trans h.output, Nat.le_trans h.size k.size, fun i hi hne => (k.block i (Nat.lt_of_lt_of_le hi h.size) hne).trans (h.block i hi hne)⟩

theorem own_value {w : World} {base : Nat} {e : TypeId} {size : Nat} {v : Value} {n : Nat} {xs : List Value} (h : w.ownsRow base e size v n xs) : ∃ A c, v = .slice A n c := by
  rcases h.2 with ⟨rfl, rfl⟩ | ⟨g, c, cur, hv, _⟩
  · exact ⟨none, 0, rfl⟩
  · exact ⟨_, c, hv⟩

/-- Below block B the world reads as before: the two rules of a walk. -/
theorem bcell {B : Nat} {W w1 : World} (hb : Below B W w1) : (∀ b o, b < B → w1.cell? ⟨b, o, none⟩ = W.cell? ⟨b, o, none⟩) ∧ (∀ b o, b < B → w1.frozen? ⟨b, o, none⟩ = W.frozen? ⟨b, o, none⟩) :=
  ⟨fun b o h => hb.cell (p := ⟨b, o, none⟩) h, fun b o h => hb.frozen (p := ⟨b, o, none⟩) h⟩

/-- Block g holds the cells cs (a box). -/
def BlkIs (w : World) (g : Nat) (cs : Array Value) : Prop := ∀ i, w.cell? ⟨g, i, none⟩ = cs[i]?
theorem BlkIs.below {w w' : World} {B g : Nat} {cs : Array Value} (h : BlkIs w g cs) (hb : Below B w w') (hB : g < B) : BlkIs w' g cs := fun i => (hb.cell (p := ⟨g, i, none⟩) hB).trans (h i)
theorem BlkIs.new (w : World) (cs : Array Value) (t : TypeId) : BlkIs (w.alloc (.cells cs t)) w.heap.size cs := fun i => World.cell?_alloc_new w _ _ i
theorem BlkIs.alloc {w : World} {g : Nat} {cs : Array Value} (h : BlkIs w g cs) (hg : g < w.heap.size) (o : Obj) : BlkIs (w.alloc o) g cs := fun i => (World.cell?_alloc_lt w o ⟨g, i, none⟩ hg).trans (h i)

/-- Block g is just the cells cs, none of them shut. -/
def Blk (w : World) (g : Nat) (t : TypeId) (cs : Array Value) : Prop := w.heap[g]? = some (.cells cs t (0, 0))
theorem Blk.lt {w : World} {g : Nat} {t : TypeId} {cs : Array Value} (h : Blk w g t cs) : g < w.heap.size := by
  rcases Nat.lt_or_ge g w.heap.size with h' | h'
  · exact h'
  · unfold Blk at h
    rw [Array.getElem?_eq_none h'] at h
    cases h
theorem Blk.cell {w : World} {g : Nat} {t : TypeId} {cs : Array Value} (h : Blk w g t cs) (i : Nat) : w.cell? ⟨g, i, none⟩ = cs[i]? := by
  unfold Blk at h
  simp [World.cell?, h]
theorem Blk.frozen {w : World} {g : Nat} {t : TypeId} {cs : Array Value} (h : Blk w g t cs) (i : Nat) : w.frozen? ⟨g, i, none⟩ = false := by
  unfold Blk at h
  simp [World.frozen?, h]
theorem Blk.new (w : World) (t : TypeId) (cs : Array Value) : Blk (w.alloc (.cells cs t)) w.heap.size t cs := by
  unfold Blk World.alloc
  simp
theorem Blk.set {w : World} {g : Nat} {t : TypeId} {cs : Array Value} (h : Blk w g t cs) (i : Nat) (u : Value) : Blk (w.setCell ⟨g, i, none⟩ u) g t (cs.setIfInBounds i u) := by
  unfold Blk at h ⊢
  simp [World.setCell, Array.getElem?_modify, h]
theorem Blk.far {w : World} {g : Nat} {t : TypeId} {cs : Array Value} (h : Blk w g t cs) {p : Addr} (hp : g ≠ p.block) (u : Value) : Blk (w.setCell p u) g t cs := (Below.heap_setCell w p u g hp).trans h
theorem Blk.alloc {w : World} {g : Nat} {t : TypeId} {cs : Array Value} (h : Blk w g t cs) (o : Obj) : Blk (w.alloc o) g t cs := (Below.heap_alloc w o g h.lt).trans h
theorem Blk.below {w w' : World} {g B : Nat} {t : TypeId} {cs : Array Value} (h : Blk w g t cs) (hb : Below B w w') (hB : g < B) : Blk w' g t cs := (hb.block g hB).trans h
theorem Blk.ext {w w' : World} {g : Nat} {t : TypeId} {cs : Array Value} (h : Blk w g t cs) (hb : Below w.heap.size w w') : Blk w' g t cs := h.below hb h.lt
theorem Blk.grown {w w' : World} {g : Nat} {t : TypeId} {cs : Array Value} {row : Option Nat} (h : Blk w g t cs) (hb : w.grownBy w' row) (hg : some g ≠ row) : Blk w' g t cs := (hb.block g h.lt hg).trans h

/-- A slice of integers that reads as a list, below block B. -/
def IntsAt (w : World) (B : Nat) (k : IntKind) (A : Option Addr) (l : List Int) : Prop :=
  l ≠ [] → ∃ b o, A = some ⟨b, o, none⟩ ∧ b < B ∧ ∀ (i : Nat) (v : Int), l[i]? = some v → w.cell? ⟨b, o + i, none⟩ = some (.int k v)
theorem IntsAt.below {w w' : World} {B : Nat} {k : IntKind} {A : Option Addr} {l : List Int} (h : IntsAt w B k A l) (hb : Below B w w') : IntsAt w' B k A l := fun hne => by
  obtain ⟨b, o, hA, hB, hc⟩ := h hne
  exact ⟨b, o, hA, hB, fun i v hi => (hb.cell (p := ⟨b, o + i, none⟩) hB).trans (hc i v hi)⟩
theorem IntsAt.mono {w : World} {B B' : Nat} {k : IntKind} {A : Option Addr} {l : List Int} (h : IntsAt w B k A l) (hB : B ≤ B') : IntsAt w B' k A l := fun hne => by
  obtain ⟨b, o, hA, hb, hc⟩ := h hne
  exact ⟨b, o, hA, by omega, hc⟩
theorem IntsAt.at_ {w : World} {B : Nat} {k : IntKind} {A : Option Addr} {l : List Int} (h : IntsAt w B k A l) {n : Nat} (hn : n < l.length) :
    ∃ b o, A = some ⟨b, o, none⟩ ∧ b < B ∧ ∀ i, i < l.length → w.cell? ⟨b, o + i, none⟩ = some (.int k (l.getD i 0)) := by
  obtain ⟨b, o, hA, hB, hc⟩ := h (by intro e; simp [e] at hn)
  refine ⟨b, o, hA, hB, fun i hi => ?_⟩
  have hg : l[i]? = some l[i] := List.getElem?_eq_getElem hi
  rw [hc i _ hg]
  simp [List.getD, hg]

theorem IntsAt.cells {w : World} {B : Nat} {k : IntKind} {A : Option Addr} {l : List Int} (h : IntsAt w B k A l) : ∀ ad, A = some ad → ∀ j u, (l.map (Value.int k))[j]? = some u → w.cell? (ad.add j) = some u := by
  intro ad hA j u hu
  have hj : j < l.length := by have := (List.getElem?_eq_some_iff.1 hu).1; simpa using this
  obtain ⟨b, o, hA', _, hc⟩ := h (by intro e; simp [e] at hj)
  rw [hA] at hA'
  injection hA' with hA'
  subst hA'
  rw [List.getElem?_map] at hu
  obtain ⟨x, hx, rfl⟩ := Option.map_eq_some_iff.1 hu
  rw [Addr.add_lit]
  exact hc j x hx
/-- What the call owns reads as a list. -/
theorem IntsAt.own {w : World} {base : Nat} {e : TypeId} {k : IntKind} {A : Option Addr} {n cap : Nat} {l : List Int} (h : w.ownsRow base e 1 (.slice A n cap) n (l.map (Value.int k))) : IntsAt w w.heap.size k A l := by
  intro hne
  have hln : l.length = n := by simpa using h.1
  rcases h.2 with ⟨_, h0⟩ | ⟨g, c, cur, hv, _, hh, _⟩
  · subst h0
    exact absurd (List.eq_nil_of_length_eq_zero hln) hne
  · injection hv with hA _ _
    subst hA
    have hlt : g < w.heap.size := by
      rcases Nat.lt_or_ge g w.heap.size with h' | h'
      · exact h'
      · rw [Array.getElem?_eq_none h'] at hh; cases hh
    refine ⟨g, 0, rfl, hlt, fun i v hi => ?_⟩
    have := World.ownsRow.cells h (g := g) rfl i (.int k v) (by simp [hi])
    rwa [Addr.add_lit] at this

theorem own_nil {w : World} {base : Nat} {e : TypeId} {k : IntKind} {A : Option Addr} {n cap : Nat} {l : List Int} (h : w.ownsRow base e 1 (.slice A n cap) n (l.map (Value.int k))) : A = none → l = [] := by
  intro hA
  have hln : l.length = n := by simpa using h.1
  rcases h.2 with ⟨_, h0⟩ | ⟨g, c, cur, hv, _⟩
  · subst h0
    exact List.eq_nil_of_length_eq_zero hln
  · injection hv with h1 _ _
    rw [hA] at h1
    cases h1

/-- From cell (b, o) on the world holds an access. -/
structure AccIs (w : World) (b o : Nat) (a : Acc) : Prop where
  c0 : w.cell? ⟨b, o, none⟩ = some (.int .i64 a.seq)
  c1 : w.cell? ⟨b, o + 1, none⟩ = some (.bool a.store)
  c2 : w.cell? ⟨b, o + 2, none⟩ = some (.bool a.known)
  c3 : w.cell? ⟨b, o + 3, none⟩ = some (.int .u32 a.at_)
  c4 : w.cell? ⟨b, o + 4, none⟩ = some (.int .i64 a.many)
  c5 : w.cell? ⟨b, o + 5, none⟩ = some (.int .u32 a.data)
  c6 : w.cell? ⟨b, o + 6, none⟩ = some (.bool a.done)
theorem AccIs.below {w w' : World} {B b o : Nat} {a : Acc} (h : AccIs w b o a) (hb : Below B w w') (hB : b < B) : AccIs w' b o a :=
  ⟨(hb.cell (p := ⟨b, o, none⟩) hB).trans h.c0, (hb.cell (p := ⟨b, o + 1, none⟩) hB).trans h.c1, (hb.cell (p := ⟨b, o + 2, none⟩) hB).trans h.c2, (hb.cell (p := ⟨b, o + 3, none⟩) hB).trans h.c3,
   (hb.cell (p := ⟨b, o + 4, none⟩) hB).trans h.c4, (hb.cell (p := ⟨b, o + 5, none⟩) hB).trans h.c5, (hb.cell (p := ⟨b, o + 6, none⟩) hB).trans h.c6⟩

/-- A slice of accesses that reads as a list, below block B. -/
def AccsAt (w : World) (B : Nat) (A : Option Addr) (l : List Acc) : Prop :=
  l ≠ [] → ∃ b o, A = some ⟨b, o, none⟩ ∧ b < B ∧ ∀ (k : Nat) (a : Acc), l[k]? = some a → AccIs w b (o + k * 7) a
theorem AccsAt.below {w w' : World} {B : Nat} {A : Option Addr} {l : List Acc} (h : AccsAt w B A l) (hb : Below B w w') : AccsAt w' B A l := fun hne => by
  obtain ⟨b, o, hA, hB, hc⟩ := h hne
  exact ⟨b, o, hA, hB, fun k a hk => (hc k a hk).below hb hB⟩
theorem AccsAt.mono {w : World} {B B' : Nat} {A : Option Addr} {l : List Acc} (h : AccsAt w B A l) (hB : B ≤ B') : AccsAt w B' A l := fun hne => by
  obtain ⟨b, o, hA, hb, hc⟩ := h hne
  exact ⟨b, o, hA, by omega, hc⟩
theorem AccsAt.at_ {w : World} {B : Nat} {A : Option Addr} {l : List Acc} (h : AccsAt w B A l) {k : Nat} (hk : k < l.length) :
    ∃ b o a, A = some ⟨b, o, none⟩ ∧ b < B ∧ l[k]? = some a ∧ l.drop k = a :: l.drop (k + 1) ∧ a ∈ l ∧ AccIs w b (o + k * 7) a := by
  obtain ⟨b, o, hA, hB, hc⟩ := h (by intro e; simp [e] at hk)
  have hg : l[k]? = some l[k] := List.getElem?_eq_getElem hk
  exact ⟨b, o, l[k], hA, hB, hg, List.drop_eq_getElem_cons hk, List.getElem_mem hk, hc k _ hg⟩
end Go.Proofs.Ytapgojgcmlnbgab
