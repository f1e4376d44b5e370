/- A map that the call has made, whole numbers as keys and elements, told as a function; of any program. -/
import Derived.Maps.RangeWalk
import Derived.Maps.OwnOps
import Derived.Maps.OwnSet
namespace Go.Proofs.Ytjieagpfnnbiiaa.HIntMap
open Go
open Go.Maps (Keyed)

/-- What the types are: t a map type, its keys' kind, its elements' kind. -/
structure IM (P : Program) (t : TypeId) (qk qe : IntKind) where
  k : TypeId
  e : TypeId
  ht : P.underlying t = some (.map k e)
  hk : P.underlying k = some (.int qk)
  he : P.underlying e = some (.int qe)
  hz : ∀ W : World, (zeroValue e).run P W = .ok (.int qe 0) W

variable {P : Program} {t : TypeId} {qk qe : IntKind}

/-- Block b is a map of at most n entries that holds f. -/
def Owns (M : IM P t qk qe) (w : World) (b n : Nat) (f : Int → Option Int) : Prop :=
  ∃ D : DataW Unit, w.ownsMap P M.k (plainElem P M.e) b n D ∧ (∀ x, (Lit.int qk x).wf = true → Maps.has D (.int qk x) = (f x).isSome ∧ D.atKey (.int qk x) (.lit (.int qe 0)) = .lit (.int qe ((f x).getD 0)))

theorem isKeyLit (q : IntKind) (x : Int) : WideAt.IsKeyLit (.int q x) := trivial

theorem owns_made (M : IM P t qk qe) (w : World) : Owns M (w.alloc (.map #[] 0)) w.heap.size 0 (fun _ => none) :=
  ⟨.map [], World.ownsMap_made w P M.k _, fun _ _ => ⟨rfl, rfl⟩⟩
theorem owns_lt {M : IM P t qk qe} {w : World} {b n : Nat} {f : Int → Option Int} (h : Owns M w b n f) : b < w.heap.size := by
  obtain ⟨D, h1, h2⟩ := h; exact h1.lt

section
variable {ops : Array Oper} {rest : List Oper} {o : Oper} {a : Act} {Q : Exit → Act → World → Prop}
/-- 'm[k]', at the operation. -/
theorem wp_look (M : IM P t qk qe) (w : World) (hg : o.guard = none) (m x : Operand) (hop : o.op = Op.lookup t m x false) (b n : Nat) (f : Int → Option Int)
    (hm : a.eval m = .map (some b)) (hown : Owns M w b n f) (key : Int) (hx : a.eval x = .int qk key) (hw : (Lit.int qk key).wf = true)
    (hK : wpList P ops Q rest (a.put o.dst (.int qe ((f key).getD 0))) w) : wpList P ops Q (o :: rest) a w := by
  obtain ⟨D, h1, h2⟩ := hown
  refine wpList_lookup_own_int (H := Unit) w hg m x t hop M.k M.e qe (Maps.int_keyed M.hk) M.ht M.he (M.hz w) b n D hm h1 _ _ hx (Maps.keyOf_int_mk M.hk hw) ?_
  intro c hat _
  rw [(h2 key hw).2] at hat
  injection hat with hat
  injection hat with _ hat
  subst hat
  exact hK

/-- 'm[k] = v', at the operation. -/
theorem wp_store (M : IM P t qk qe) (w : World) (hg : o.guard = none) (m x v : Operand) (hop : o.op = Op.mapUpdate t m x v) (b n : Nat) (f : Int → Option Int)
    (hm : a.eval m = .map (some b)) (hown : Owns M w b n f) (hn : n < maxLen) (key val : Int) (hx : a.eval x = .int qk key) (hv : a.eval v = .int qe val) (hw : (Lit.int qk key).wf = true) (hwv : (Lit.int qe val).wf = true)
    (hK : ∀ w', Owns M w' b (n + 1) (fun y => if y = key then some val else f y) → w.grownBy w' (some b) → wpList P ops Q rest (a.put o.dst undef) w') : wpList P ops Q (o :: rest) a w := by
  obtain ⟨D, h1, h2⟩ := hown
  refine wpList_mapUpdate_own (H := Unit) w hg m x v t hop M.k M.e (Maps.int_keyed M.hk) M.ht (plainElem P M.e) b n D hm h1 hn _ _ (.int qk key) hx hv (Maps.keyOf_int_mk M.hk hw) (.lit (.int qe val)) [] (plainElem_int M.he hwv) ?_
  intro w' h3 hg'
  refine hK w' ⟨_, h3, fun y hy => ?_⟩ hg'
  by_cases e : y = key
  · subst e
    refine ⟨?_, ?_⟩
    · rw [Maps.has_put_same h1.isMap (isKeyLit qk y)]; simp
    · rw [Maps.atKey_put_same h1.isMap (isKeyLit qk y)]; simp
  · have hne : (Lit.int qk y) ≠ .int qk key := fun q => e (by injection q)
    refine ⟨?_, ?_⟩
    · rw [Maps.has_put_other hne, (h2 y hy).1]; simp [e]
    · rw [Maps.atKey_put_other hne, (h2 y hy).2]; simp [e]
end

section
variable {ops : Array Oper} {rest : List Oper} {o : Oper} {a : Act} {Q : Exit → Act → World → Prop}
end
end Go.Proofs.Ytjieagpfnnbiiaa.HIntMap
