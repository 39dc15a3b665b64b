/- append of a slice that came in, nil or not, to one of the call's own; ints as the cells of a slice. -/
import Derived.Test.YtapgojgcmlnbgabData
import Derived.Laws.AppendOwnNone
import Derived.Deep.AppendLies
namespace Go.Proofs.Ytapgojgcmlnbgab
open Go Go.RowKit
theorem wp_append_any {P : Program} {w : World} {o : Oper} {a : Act} {K : Act → World → Prop} {Q : Exit → Act → World → Prop} (s x : Operand) (t : TypeId)
    (ho : o.op = .call { callee := .builtin .append, args := #[s, x], argTypes := #[t, t] })
    (base : Nat) (e : TypeId) (i : TypeInfo) (z : Value) (size bytes : Nat) (ht : P.underlying t = some (.slice e)) (hi : P.info? e = some i) (hz : i.zero = some z)
    (hsize : i.size = size) (hby : i.bytes = bytes) (hzs : z.cells.size = size) (hsz : 0 < size)
    (v : Value) (n : Nat) (xs : List Value) (hs : a.eval s = v) (hown : w.ownsRow base e size v n xs)
    (A : Option Addr) (m c : Nat) (news : List Value) (hx : a.eval x = .slice A m c) (hl : news.length = m * size) (hnil : A = none → m = 0 ∧ c = 0) (hnews : ∀ ad, A = some ad → ∀ j u, news[j]? = some u → w.cell? (ad.add j) = some u) (h1 : ∀ u ∈ news, u.oneCell' = true)
    (h63 : n + m ≤ maxLen) (hbytes : (n + m) * bytes ≤ 140737488355328) (hbase : base ≤ w.heap.size)
    (h : ∀ v' w', w'.ownsRow base e size v' (n + m) (xs ++ news) → w.grownBy w' v.ownBlock → K (a.put o.dst v') w') : o.wp P a w K Q := by
  cases A with
  | some ad => exact wp_append_own w s x t ho base e i z size bytes ht hi hz hsize hby hzs hsz v n xs hs hown ad m c news hx hl (hnews ad rfl) h1 h63 hbytes hbase fun v' w' h2 h3 _ => h v' w' h2 h3
  | none =>
    obtain ⟨rfl, rfl⟩ := hnil rfl
    have hnews0 : news = [] := List.eq_nil_of_length_eq_zero (by simpa using hl)
    subst hnews0
    have hrun := run_append_owned_none (P := P) (w := w) base t o.type e i size ht hi v n xs hown
    unfold Oper.wp execOp
    simp only [ho, resolve, invoke, builtin, Sem.run_bind, Sem.run_pure, Result.andThen_ok, List.map_toArray, List.map_cons, List.map_nil, hs, hx, hrun]
    exact h v w (by simpa using hown) ⟨rfl, rfl, rfl, Nat.le_refl _, fun _ _ _ => rfl⟩
theorem wpList_append_any {P : Program} {w : World} {ops : Array Oper} {rest : List Oper} {o : Oper} {a : Act} {Q : Exit → Act → World → Prop} (hgd : o.guard = none) (s x : Operand) (t : TypeId)
    (ho : o.op = .call { callee := .builtin .append, args := #[s, x], argTypes := #[t, t] })
    (base : Nat) (e : TypeId) (i : TypeInfo) (z : Value) (size bytes : Nat) (ht : P.underlying t = some (.slice e)) (hi : P.info? e = some i) (hz : i.zero = some z)
    (hsize : i.size = size) (hby : i.bytes = bytes) (hzs : z.cells.size = size) (hsz : 0 < size)
    (v : Value) (n : Nat) (xs : List Value) (hs : a.eval s = v) (hown : w.ownsRow base e size v n xs)
    (A : Option Addr) (m c : Nat) (news : List Value) (hx : a.eval x = .slice A m c) (hl : news.length = m * size) (hnil : A = none → m = 0 ∧ c = 0) (hnews : ∀ ad, A = some ad → ∀ j u, news[j]? = some u → w.cell? (ad.add j) = some u) (h1 : ∀ u ∈ news, u.oneCell' = true)
    (h63 : n + m ≤ maxLen) (hbytes : (n + m) * bytes ≤ 140737488355328) (hbase : base ≤ w.heap.size)
    (h : ∀ v' w', w'.ownsRow base e size v' (n + m) (xs ++ news) → w.grownBy w' v.ownBlock → wpList P ops Q rest (a.put o.dst v') w') : wpList P ops Q (o :: rest) a w :=
  wpList_plain hgd fun _ hK => wp_append_any s x t ho base e i z size bytes ht hi hz hsize hby hzs hsz v n xs hs hown A m c news hx hl hnil hnews h1 h63 hbytes hbase fun v' w' h2 h3 => hK _ _ (h v' w' h2 h3)
/-- A slice literal of one cell. -/
theorem lit_one (w : World) (u : Value) (t : TypeId) : ∀ ad, some (⟨w.heap.size, 0, none⟩ : Addr) = some ad → ∀ j v, [u][j]? = some v → (w.alloc (.cells #[u] t)).cell? (ad.add j) = some v := by
  intro ad h j v hj
  cases h
  rw [Addr.add_lit, Nat.zero_add]
  rw [World.cell?_alloc_new]
  simpa using hj
/-- A slice of ints that the call made reads, from wherever. -/
theorem own_ints {w : World} {base : Nat} {e : TypeId} {k : IntKind} {v : Value} {n : Nat} {l : List Int} (h : w.ownsRow base e 1 v n (l.map (Value.int k))) :
    ∃ A cap, v = .slice A n cap ∧ l.length = n ∧ (A = none → l = [] ∧ cap = 0) ∧ IntsAt w w.heap.size k A l ∧ n ≤ cap ∧ ∀ ad, A = some ad → base ≤ ad.block := by
  have hln : l.length = n := by simpa using h.1
  have h0 := h
  rcases h.2 with ⟨rfl, rfl⟩ | ⟨g, c, cur, rfl, hgb, _, hc, _⟩
  · obtain rfl := List.eq_nil_of_length_eq_zero hln
    exact ⟨none, 0, rfl, rfl, fun _ => ⟨rfl, rfl⟩, fun h => absurd rfl h, Nat.le_refl _, fun _ h => by cases h⟩
  · exact ⟨_, c, rfl, hln, fun h => (by cases h), IntsAt.own h0, hc, fun ad h => by cases h; exact hgb⟩
theorem ints_oneCell' {k : IntKind} (l : List Int) : ∀ u ∈ l.map (Value.int k), u.oneCell' = true := by
  intro u hu
  obtain ⟨x, _, rfl⟩ := List.mem_map.1 hu
  rfl
/-- The block of a slice that the call made. -/
theorem own_blk {w : World} {base : Nat} {e : TypeId} {k : IntKind} {v : Value} {n : Nat} {l : List Int} (h : w.ownsRow base e 1 v n (l.map (Value.int k))) (hn : 0 < n) :
    ∃ g cap cur, v = .slice (some ⟨g, 0, none⟩) n cap ∧ base ≤ g ∧ Blk w g e cur ∧ ∀ j, j < n → cur[j]? = some (.int k (l.getD j 0)) := by
  have hln : l.length = n := by simpa using h.1
  rcases h.2 with ⟨_, rfl⟩ | ⟨g, c, cur, rfl, hb, hh, _, _, _, ht⟩
  · omega
  · refine ⟨g, c, cur, rfl, hb, hh, fun j hj => ?_⟩
    have h1 : (cur.toList.take (n * 1))[j]? = (l.map (Value.int k))[j]? := by rw [ht]
    rw [List.getElem?_take, if_pos (by omega), List.getElem?_map, List.getElem?_eq_getElem (l := l) (by omega)] at h1
    simp [List.getD, List.getElem?_eq_getElem (show j < l.length by omega)] at h1 ⊢
    exact h1
theorem IntsAt.setCell {w : World} {B : Nat} {k : IntKind} {A : Option Addr} {l : List Int} (h : IntsAt w B k A l) {p : Addr} (u : Value) (hne : ∀ ad, A = some ad → ad.block ≠ p.block) : IntsAt (w.setCell p u) B k A l := fun hl => by
  obtain ⟨b, o, hA, hB, hc⟩ := h hl
  have hb := hne _ hA
  refine ⟨b, o, hA, hB, fun i v hi => ?_⟩
  have := Below.heap_setCell w p u b hb
  rw [World.cell?_of_block this]
  exact hc i v hi
theorem IntsAt.grown {w w' : World} {B : Nat} {k : IntKind} {A : Option Addr} {l : List Int} {g : Nat} (h : IntsAt w B k A l) (hB : B ≤ w.heap.size) (hg : w.grownBy w' (some g)) (hne : ∀ ad, A = some ad → ad.block ≠ g) : IntsAt w' B k A l := fun hl => by
  obtain ⟨b, o, hA, hb, hc⟩ := h hl
  have hbg := hne _ hA
  refine ⟨b, o, hA, hb, fun i v hi => ?_⟩
  rw [World.cell?_of_block (hg.block b (Nat.lt_of_lt_of_le hb hB) (by simp; exact hbg))]
  exact hc i v hi
theorem below_grownBy {w w' : World} (h : Below w.heap.size w w') : w.grownBy w' none := ⟨h.os, h.tape, h.output, h.size, fun k hk _ => h.block k hk⟩
end Go.Proofs.Ytapgojgcmlnbgab
