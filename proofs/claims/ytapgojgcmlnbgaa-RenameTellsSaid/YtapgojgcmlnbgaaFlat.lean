/- A struct or array of bools and integers, to whatever depth, equals itself: by the kinds of its cells. -/
import Derived.WalkKit
import Derived.DeepKeys
namespace Go.Proofs.Ytapgojgcmlnbgaa
open Go

/-- A cell of a kind: none: a bool. -/
def fitV : Option IntKind → Value → Prop
  | none, v => ∃ b, v = .bool b
  | some q, v => ∃ n, v = .int q n ∧ (Lit.int q n).wf = true
def Fits : List (Option IntKind) → List Value → Prop
  | [], [] => True
  | k :: ks, v :: vs => fitV k v ∧ Fits ks vs
  | _, _ => False
theorem Fits.length : ∀ {ks : List (Option IntKind)} {vs : List Value}, Fits ks vs → vs.length = ks.length
  | [], [], _ => rfl
  | _ :: _, _ :: _, ⟨_, h⟩ => by simp [h.length]
theorem Fits.drop : ∀ {ks : List (Option IntKind)} {vs : List Value}, Fits ks vs → ∀ n, Fits (ks.drop n) (vs.drop n)
  | [], [], _, n => by simp [Fits]
  | _ :: _, _ :: _, h, 0 => h
  | _ :: _, _ :: _, ⟨_, h⟩, n + 1 => h.drop n
theorem Fits.take : ∀ {ks : List (Option IntKind)} {vs : List Value}, Fits ks vs → ∀ n, Fits (ks.take n) (vs.take n)
  | [], [], _, n => by simp [Fits]
  | _ :: _, _ :: _, _, 0 => by simp [Fits]
  | _ :: _, _ :: _, ⟨h0, h⟩, n + 1 => ⟨h0, h.take n⟩
theorem Fits.append : ∀ {ks ls : List (Option IntKind)} {vs us : List Value}, Fits ks vs → Fits ls us → Fits (ks ++ ls) (vs ++ us)
  | [], _, [], _, _, h => h
  | _ :: _, _, _ :: _, _, ⟨h0, h⟩, h' => ⟨h0, h.append h'⟩
theorem Fits.mk {ks : List (Option IntKind)} : ∀ {vs : List Value}, vs.length = ks.length → (∀ (i : Nat) k v, ks[i]? = some k → vs[i]? = some v → fitV k v) → Fits ks vs := by
  induction ks with
  | nil => intro vs hl _; cases vs; exact trivial; cases hl
  | cons k ks ih =>
    intro vs hl h
    cases vs with
    | nil => cases hl
    | cons v vs => exact ⟨h 0 k v rfl rfl, ih (by simpa using hl) (fun i k' v' h1 h2 => h (i + 1) k' v' h1 h2)⟩
theorem Fits.get {ks : List (Option IntKind)} : ∀ {vs : List Value}, Fits ks vs → ∀ (i : Nat) k v, ks[i]? = some k → vs[i]? = some v → fitV k v := by
  induction ks with
  | nil => intro vs h i k v hk; cases hk
  | cons k ks ih =>
    intro vs h i k' v' hk hv
    cases vs with
    | nil => cases hv
    | cons v vs =>
      obtain ⟨h0, h1⟩ := h
      cases i with
      | zero => simp at hk hv; subst hk hv; exact h0
      | succ i => exact ih h1 i k' v' hk hv
theorem Fits.set {ks : List (Option IntKind)} {vs : List Value} (h : Fits ks vs) (i : Nat) (k : Option IntKind) (v : Value) (hk : ks[i]? = some k) (hv : fitV k v) : Fits ks (vs.set i v) :=
  Fits.mk (by simp [h.length]) fun j k' v' h1 h2 => by
    by_cases hij : i = j
    · subst hij
      rw [hk] at h1
      cases h1
      have : i < vs.length := by
        have := (List.getElem?_eq_some_iff.1 h2).1
        simpa using this
      rw [List.getElem?_set_self this] at h2
      cases h2
      exact hv
    · rw [List.getElem?_set_ne hij] at h2
      exact h.get j k' v' h1 h2

section
variable (P : Program)
def fitsB : Nat → TypeId → List (Option IntKind) → Bool
  | 0, _, _ => false
  | d + 1, t, ks =>
    match P.underlying t with
    | some .bool => ks == [none]
    | some (.int q) => ks == [some q]
    | some (.array n e) => ks.length == P.cellsOf t && (List.range n).all fun i => fitsB d e ((ks.drop (i * P.cellsOf e)).take (P.cellsOf e))
    | some (.struct fs) => ks.length == P.cellsOf t && fs.all (·.name != "_") && fs.toList.all fun f => fitsB d f.type ((ks.drop f.offset).take (P.cellsOf f.type))
    | _ => false
end
theorem mapM_some {α β : Type} {f : α → Option β} : ∀ {l : List α}, (∀ x ∈ l, ∃ y, f x = some y) → ∃ ys, l.mapM f = some ys
  | [], _ => ⟨[], rfl⟩
  | x :: l, h => by
    obtain ⟨y, hy⟩ := h x (by simp)
    obtain ⟨ys, hys⟩ := mapM_some (l := l) fun z hz => h z (by simp [hz])
    exact ⟨y :: ys, by simp [List.mapM_cons, hy, hys]⟩
theorem keyLits_fits {P : Program} : ∀ (d : Nat) (t : TypeId) (ks : List (Option IntKind)) (vs : List Value), fitsB P d t ks = true → Fits ks vs → ∃ la, P.keyLits d t vs = some la
  | 0, _, _, _, h, _ => by simp [fitsB] at h
  | d + 1, t, ks, vs, h, hf => by
    unfold fitsB at h
    unfold Program.keyLits
    cases hu : P.underlying t with
    | none => rw [hu] at h; simp at h
    | some kd =>
      rw [hu] at h
      cases kd <;> simp only [Bool.false_eq_true] at h
      case bool =>
        simp at h
        subst h
        match vs, hf with
        | [v], ⟨⟨b, hb⟩, _⟩ => subst hb; exact ⟨_, rfl⟩
      case int q =>
        simp at h
        subst h
        match vs, hf with
        | [v], ⟨⟨n, hn, hw⟩, _⟩ => subst hn; exact ⟨[.int q n], by simp [hw]⟩
      case array n e =>
        simp only [Bool.and_eq_true, beq_iff_eq, List.all_eq_true] at h
        have hl : vs.length = P.cellsOf t := by rw [hf.length, h.1]
        obtain ⟨ys, hys⟩ := mapM_some (l := List.range n) (f := fun i => P.keyLits d e ((vs.drop (i * P.cellsOf e)).take (P.cellsOf e))) fun i hi => keyLits_fits d e _ _ (h.2 i hi) ((hf.drop _).take _)
        refine ⟨ys.flatten, ?_⟩
        simp only [hl, if_true, hys, Option.map_some]
      case struct fs =>
        simp only [Bool.and_eq_true, beq_iff_eq, List.all_eq_true] at h
        have hl : vs.length = P.cellsOf t := by rw [hf.length, h.1.1]
        obtain ⟨ys, hys⟩ := mapM_some (l := fs.toList) (f := fun f => P.keyLits d f.type ((vs.drop f.offset).take (P.cellsOf f.type))) fun f hi => keyLits_fits d f.type _ _ (h.2 f hi) ((hf.drop _).take _)
        refine ⟨ys.flatten, ?_⟩
        have hn := h.1.2
        simp only [hl, hn, and_self, if_true, hys, Option.map_some]

theorem eql_self {P : Program} {t : TypeId} {cs : Array Value} {m : Nat} {ks : List (Option IntKind)} (w : World) (hk : P.keyTypeAt m t = true) (hm : m ≤ 10000) (hf : (Value.agg cs).formed P t = true) {d : Nat} (hb : fitsB P d t ks = true)
    (h : Fits ks cs.toList) : (binOp .eql t (.agg cs) (.agg cs)).run P w = .ok (.bool true) w := by
  obtain ⟨la, hla⟩ := keyLits_fits d t ks cs.toList hb h
  obtain ⟨r, hr, hiff⟩ := run_equalIn_deep (P := P) (10000 - m) m t hk w d d (.agg cs) (.agg cs) la la hf hf hla hla
  rw [run_eql_struct, show 10000 = 10000 - m + m by omega, hr, hiff.2 rfl]
  rfl
theorem formed_struct {P : Program} {t : TypeId} {cs : Array Value} {fs : Array Field} {n : Nat} (hu : P.underlying t = some (.struct fs)) (hc : P.cellsOf t = n) (hs : cs.size = n) : (Value.agg cs).formed P t = true := by
  simp [Value.formed, hu, hc, hs]
/-- At the operation. -/
theorem wp_eql_self {P : Program} {o : Oper} {a : Act} {w : World} {K : Act → World → Prop} {Q : Exit → Act → World → Prop} (t : TypeId) (x y : Operand) (r : TypeId) (ho : o.op = .binOp .eql t x y r) (cs : Array Value) (hx : a.eval x = .agg cs) (hy : a.eval y = .agg cs)
    (hg : P.eqGuardType P.depth t = false) (hs : (binOp .eql t (.agg cs) (.agg cs)).run P w = .ok (.bool true) w) (hk : K (a.put o.dst (.bool true)) w) : o.wp P a w K Q := by
  have hq := run_eqGuard_agg (P := P) (w := w) .eql t x y cs cs hg
  unfold Oper.wp execOp
  simp only [ho, hx, hy, hs, hq, Sem.run_bind, Sem.run_pure, Result.andThen_ok]
  exact hk
theorem wpList_eql_self {P : Program} {ops : Array Oper} {rest : List Oper} {o : Oper} {a : Act} {w : World} {Q : Exit → Act → World → Prop} (hgd : o.guard = none) (t : TypeId) (x y : Operand) (r : TypeId) (ho : o.op = .binOp .eql t x y r) (cs : Array Value) (hx : a.eval x = .agg cs) (hy : a.eval y = .agg cs)
    (hg : P.eqGuardType P.depth t = false) (hs : (binOp .eql t (.agg cs) (.agg cs)).run P w = .ok (.bool true) w) (hk : wpList P ops Q rest (a.put o.dst (.bool true)) w) : wpList P ops Q (o :: rest) a w :=
  wpList_plain hgd fun _ hK => wp_eql_self t x y r ho cs hx hy hg hs (hK _ _ hk)
end Go.Proofs.Ytapgojgcmlnbgaa
