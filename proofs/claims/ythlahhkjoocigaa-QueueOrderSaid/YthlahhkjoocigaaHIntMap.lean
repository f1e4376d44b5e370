/- A map that the call has made, whole numbers as keys and elements, told as a function; of any program. -/
import Derived.Maps.RangeWalk
import Derived.Maps.OwnOps
import Derived.Maps.OwnSet
namespace Go.Proofs.Ythlahhkjoocigaa.HIntMap
open Go
open Go.Maps (Keyed)

/-- What the types are: t a map type, its keys' kind, its elements' kind. -/
structure IM (P : Program) (t : TypeId) (qk qe : IntKind) where
  k : TypeId
  e : TypeId
  ht : P.underlying t = some (.map k e)
  hk : P.underlying k = some (.int qk)
  he : P.underlying e = some (.int qe)
  hz : ∀ W : World, (zeroValue e).run P W = .ok (.int qe 0) W

variable {P : Program} {t : TypeId} {qk qe : IntKind}

/-- Block b is a map of at most n entries that holds f. -/
def Owns (M : IM P t qk qe) (w : World) (b n : Nat) (f : Int → Option Int) : Prop :=
  ∃ D : DataW Unit, w.ownsMap P M.k (plainElem P M.e) b n D ∧ (∀ x, (Lit.int qk x).wf = true → Maps.has D (.int qk x) = (f x).isSome ∧ D.atKey (.int qk x) (.lit (.int qe 0)) = .lit (.int qe ((f x).getD 0)))

theorem isKeyLit (q : IntKind) (x : Int) : WideAt.IsKeyLit (.int q x) := trivial

theorem owns_made (M : IM P t qk qe) (w : World) : Owns M (w.alloc (.map #[] 0)) w.heap.size 0 (fun _ => none) :=
  ⟨.map [], World.ownsMap_made w P M.k _, fun _ _ => ⟨rfl, rfl⟩⟩
theorem owns_mono {M : IM P t qk qe} {w : World} {b n n' : Nat} {f : Int → Option Int} (h : Owns M w b n f) (hn : n ≤ n') : Owns M w b n' f := by
  obtain ⟨D, h1, h2⟩ := h; exact ⟨D, h1.mono hn, h2⟩
theorem owns_kept {M : IM P t qk qe} {w w' : World} {b n : Nat} {f : Int → Option Int} {row : Option Nat} (h : Owns M w b n f) (hg : w.grownBy w' row) (hne : some b ≠ row) : Owns M w' b n f := by
  obtain ⟨D, h1, h2⟩ := h; exact ⟨D, h1.kept hg hne, h2⟩
theorem owns_alloc {M : IM P t qk qe} {w : World} {b n : Nat} {f : Int → Option Int} (h : Owns M w b n f) (o : Obj) : Owns M (w.alloc o) b n f := owns_kept h (World.grownBy_alloc w o none) (by simp)
theorem owns_lt {M : IM P t qk qe} {w : World} {b n : Nat} {f : Int → Option Int} (h : Owns M w b n f) : b < w.heap.size := by
  obtain ⟨D, h1, h2⟩ := h; exact h1.lt

section
variable {ops : Array Oper} {rest : List Oper} {o : Oper} {a : Act} {Q : Exit → Act → World → Prop}
/-- 'm[k]', at the operation. -/
theorem wp_look (M : IM P t qk qe) (w : World) (hg : o.guard = none) (m x : Operand) (hop : o.op = Op.lookup t m x false) (b n : Nat) (f : Int → Option Int)
    (hm : a.eval m = .map (some b)) (hown : Owns M w b n f) (key : Int) (hx : a.eval x = .int qk key) (hw : (Lit.int qk key).wf = true)
    (hK : wpList P ops Q rest (a.put o.dst (.int qe ((f key).getD 0))) w) : wpList P ops Q (o :: rest) a w := by
  obtain ⟨D, h1, h2⟩ := hown
  refine wpList_lookup_own_int (H := Unit) w hg m x t hop M.k M.e qe (Maps.int_keyed M.hk) M.ht M.he (M.hz w) b n D hm h1 _ _ hx (Maps.keyOf_int_mk M.hk hw) ?_
  intro c hat _
  rw [(h2 key hw).2] at hat
  injection hat with hat
  injection hat with _ hat
  subst hat
  exact hK

/-- 'm[k] = v', at the operation. -/
theorem wp_store (M : IM P t qk qe) (w : World) (hg : o.guard = none) (m x v : Operand) (hop : o.op = Op.mapUpdate t m x v) (b n : Nat) (f : Int → Option Int)
    (hm : a.eval m = .map (some b)) (hown : Owns M w b n f) (hn : n < maxLen) (key val : Int) (hx : a.eval x = .int qk key) (hv : a.eval v = .int qe val) (hw : (Lit.int qk key).wf = true) (hwv : (Lit.int qe val).wf = true)
    (hK : ∀ w', Owns M w' b (n + 1) (fun y => if y = key then some val else f y) → w.grownBy w' (some b) → wpList P ops Q rest (a.put o.dst undef) w') : wpList P ops Q (o :: rest) a w := by
  obtain ⟨D, h1, h2⟩ := hown
  refine wpList_mapUpdate_own (H := Unit) w hg m x v t hop M.k M.e (Maps.int_keyed M.hk) M.ht (plainElem P M.e) b n D hm h1 hn _ _ (.int qk key) hx hv (Maps.keyOf_int_mk M.hk hw) (.lit (.int qe val)) [] (plainElem_int M.he hwv) ?_
  intro w' h3 hg'
  refine hK w' ⟨_, h3, fun y hy => ?_⟩ hg'
  by_cases e : y = key
  · subst e
    refine ⟨?_, ?_⟩
    · rw [Maps.has_put_same h1.isMap (isKeyLit qk y)]; simp
    · rw [Maps.atKey_put_same h1.isMap (isKeyLit qk y)]; simp
  · have hne : (Lit.int qk y) ≠ .int qk key := fun q => e (by injection q)
    refine ⟨?_, ?_⟩
    · rw [Maps.has_put_other hne, (h2 y hy).1]; simp [e]
    · rw [Maps.atKey_put_other hne, (h2 y hy).2]; simp [e]
end

/-- 'for k, v := range m' under way: the keys of 'left' are still to come. -/
def Ranges (M : IM P t qk qe) (w : World) (b r n : Nat) (f : Int → Option Int) (left : Int → Bool) (cnt : Nat) : Prop :=
  ∃ (D : DataW Unit) (l : Lit → Bool), w.ranges P M.k (plainElem P M.e) b r n D l cnt ∧ (∀ x, (Lit.int qk x).wf = true → Maps.has D (.int qk x) = (f x).isSome ∧ D.atKey (.int qk x) (.lit (.int qe 0)) = .lit (.int qe ((f x).getD 0))) ∧ ∀ x, left x = l (.int qk x)
theorem ranges_left {M : IM P t qk qe} {w : World} {b r n cnt : Nat} {f : Int → Option Int} {left : Int → Bool} (h : Ranges M w b r n f left cnt) : w.rangeLeft b r = cnt := by
  obtain ⟨D, l, h1, _⟩ := h; exact h1.left_eq
theorem ranges_lt {M : IM P t qk qe} {w : World} {b r n cnt : Nat} {f : Int → Option Int} {left : Int → Bool} (h : Ranges M w b r n f left cnt) : r < w.heap.size := by
  obtain ⟨D, l, h1, _⟩ := h; exact h1.lt
theorem ranges_owns {M : IM P t qk qe} {w : World} {b r n cnt : Nat} {f : Int → Option Int} {left : Int → Bool} (h : Ranges M w b r n f left cnt) : Owns M w b n f := by
  obtain ⟨D, l, h1, h2, _⟩ := h; exact ⟨D, h1.owns, h2⟩
theorem ranges_kept {M : IM P t qk qe} {w w' : World} {b r n cnt : Nat} {f : Int → Option Int} {left : Int → Bool} {row : Option Nat} (h : Ranges M w b r n f left cnt) (hg : w.grownBy w' row) (hb : some b ≠ row) (hr : some r ≠ row) : Ranges M w' b r n f left cnt := by
  obtain ⟨D, l, h1, h2, h3⟩ := h; exact ⟨D, l, h1.kept hg hb hr, h2, h3⟩
theorem ranges_ne {M : IM P t qk qe} {w : World} {b r n cnt : Nat} {f : Int → Option Int} {left : Int → Bool} (h : Ranges M w b r n f left cnt) : r ≠ b := by
  obtain ⟨D, l, h1, _⟩ := h; exact h1.ne

section
variable {ops : Array Oper} {rest : List Oper} {o : Oper} {a : Act} {Q : Exit → Act → World → Prop}
theorem wp_range (M : IM P t qk qe) (w : World) (hg : o.guard = none) (m : Operand) (hop : o.op = Op.range t m) (b n : Nat) (f : Int → Option Int) (hm : a.eval m = .map (some b)) (hown : Owns M w b n f)
    (hK : ∀ w' left cnt, Ranges M w' b w.heap.size n f left cnt → (∀ x, (Lit.int qk x).wf = true → left x = (f x).isSome) → w.grownBy w' none → w'.heap.size = w.heap.size + 1 → wpList P ops Q rest (a.put o.dst (.pointer (some ⟨w.heap.size, 0, none⟩))) w') :
    wpList P ops Q (o :: rest) a w := by
  obtain ⟨D, h1, h2⟩ := hown
  refine wpList_range_own (H := Unit) w hg m t hop M.k M.e (Maps.int_keyed M.hk) M.ht (plainElem P M.e) b n D hm h1 ?_
  intro w' hr hg' hs
  exact hK w' (fun x => Maps.has D (.int qk x)) _ ⟨D, _, hr, h2, fun _ => rfl⟩ (fun x hx => (h2 x hx).1) hg' hs

theorem wp_next (M : IM P t qk qe) (w : World) (hg : o.guard = none) (it : Operand) (hop : o.op = Op.next it false) (b r n cnt : Nat) (f : Int → Option Int) (left : Int → Bool) (hit : a.eval it = .pointer (some ⟨r, 0, none⟩)) (h : Ranges M w b r n f left cnt)
    (hDone : (∀ x, left x = false) → wpList P ops Q rest (a.put o.dst (.tuple #[.bool false])) w)
    (hMore : ∀ (x c : Int) (w' : World) (cnt' : Nat), (Lit.int qk x).wf = true → (Lit.int qe c).wf = true → f x = some c → left x = true → Ranges M w' b r n f (fun y => left y && !decide (y = x)) cnt' → cnt' < cnt →
      w.grownBy w' (some r) → w'.heap.size = w.heap.size → (Instr.entry (.pointer (some ⟨r, 0, none⟩))).run P w' = .ok (.tuple #[.int qk x, .int qe c]) w' → wpList P ops Q rest (a.put o.dst (.tuple #[.bool true, .int qk x, .int qe c])) w') :
    wpList P ops Q (o :: rest) a w := by
  obtain ⟨D, l, h1, h2, h3⟩ := h
  refine wpList_next_ranges_ii (H := Unit) w hg it hop M.k M.e qk qe (Maps.int_keyed M.hk) M.hk M.he b r n D l cnt hit h1 (fun _ hl => hDone fun x => (h3 x).trans (hl _)) ?_
  intro x c w' cnt' hwx hwc hl hat hr hlt hg' hs hen
  have hh : (f x).isSome = true := by rw [← (h2 x hwx).1]; exact Maps.has_true_of_atKey hat
  have hf : f x = some c := by
    have h4 := (h2 x hwx).2
    rw [hat] at h4
    injection h4 with h4
    injection h4 with _ h4
    cases hfx : f x with
    | none => rw [hfx] at hh; cases hh
    | some d => rw [hfx] at h4; simp at h4; rw [h4]
  refine hMore x c w' cnt' hwx hwc hf ((h3 x).trans hl) ⟨D, _, hr, h2, fun y => ?_⟩ hlt hg' hs hen
  have e : (Lit.int qk y).sameKey (.int qk x) = decide (y = x) := by
    by_cases e : y = x
    · subst e; simp [WideAt.sameKey_self (isKeyLit qk y)]
    · rw [Maps.sameKey_ne (fun q => e (by injection q))]; simp [e]
  show (left y && !decide (y = x)) = _
  rw [h3 y, e]
end
end Go.Proofs.Ythlahhkjoocigaa.HIntMap
