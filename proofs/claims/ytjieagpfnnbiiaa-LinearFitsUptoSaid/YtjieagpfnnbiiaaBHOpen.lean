/- What an argument that can be read as data is, in the words of the printed texts: a slice of any kind, a struct, nested as they may be; of any program. -/
import Derived.Test.YtjieagpfnnbiiaaBWWords
import Derived.ChangeArms
import Derived.ProofKit
import Derived.WideShapes
import Derived.OpenShut
namespace Go.Proofs.Ytjieagpfnnbiiaa.HOpen
open Go Go.RowKit Go.WideShapes Go.Proofs.YtjieagpfnnbiiaaW.PrintWords

theorem mapM_length {α β : Type} (l : List α) (f : α → Option β) (r : List β) (h : l.mapM f = some r) : r.length = l.length := by
  induction l generalizing r with
  | nil => simp at h; subst h; rfl
  | cons x l ih =>
    simp only [List.mapM_cons, Option.bind_eq_bind, Option.bind_eq_some_iff] at h
    obtain ⟨y, _, ys, hys, h⟩ := h
    cases h
    simp [ih ys hys]
theorem mapM_get {α β : Type} (l : List α) (f : α → Option β) (r : List β) (h : l.mapM f = some r) (i : Nat) (x : α) (hx : l[i]? = some x) : f x = r[i]? := by
  induction l generalizing r i with
  | nil => simp at hx
  | cons y l ih =>
    simp only [List.mapM_cons, Option.bind_eq_bind, Option.bind_eq_some_iff] at h
    obtain ⟨z, hz, ys, hys, h⟩ := h
    cases h
    cases i with
    | zero => simp at hx; subst hx; simpa using hz
    | succ i => simp at hx; simpa using ih ys hys i hx

theorem cells?_get {w : World} {base : Nat} {a : Addr} {n : Nat} {cs : List Value} (h : w.cells? base a n = some cs) : cs.length = n ∧ ∀ i u, cs[i]? = some u → w.cell? (a.add i) = some u := by
  unfold World.cells? at h
  split at h
  · have hl := mapM_length (List.range n) (fun i => w.cell? (a.add i)) cs h
    rw [List.length_range] at hl
    refine ⟨hl, fun i u hu => ?_⟩
    have hi : i < n := by have := (List.getElem?_eq_some_iff.1 hu).1; omega
    have hg := mapM_get (List.range n) (fun i => w.cell? (a.add i)) cs h i i (by simp [hi])
    rw [hg, hu]
  · cases h

/-- What reads as data at type T is a value of kind k that is 'ok'. -/
structure Opens (P : Program) {α : Type} (k : Kd α) (T : TypeId) (ok : α → Prop) : Prop where
  out : ∀ {H : Type} (enc : TypeId × Value → H) (w : World) (base : Nat) (spare : Nat → Bool) (held : Bool) (fuel : Nat) (cs : List Value) (x : DataW H × List MemPlace), DataW.trod enc P w base spare held fuel T cs = some x → ∃ a, k.K w a cs ∧ ok a

def OkInt (q : IntKind) (n : Int) : Prop := (Lit.int q n).wf = true
theorem okInt_u8 {n : Int} (h : OkInt .u8 n) : 0 ≤ n ∧ n ≤ 255 := by have h := bounds_u8 h; omega
theorem okInt_u16 {n : Int} (h : OkInt .u16 n) : 0 ≤ n ∧ n ≤ 65535 := by have h := bounds_u16 h; omega
theorem opens_int {P : Program} {T : TypeId} {q : IntKind} (h : P.underlying T = some (.int q)) : Opens P (Kd.int q) T (OkInt q) :=
  ⟨fun enc w base spare held fuel cs x hx => by obtain ⟨m, rfl, rfl, hw⟩ := DataW.trod_int h hx; exact ⟨m, rfl, hw⟩⟩
theorem opens_string {P : Program} {T : TypeId} (h : P.underlying T = some .string) : Opens P Kd.string T (fun s => s.size ≤ maxLen) :=
  ⟨fun enc w base spare held fuel cs x hx => by obtain ⟨m, rfl, rfl, hm⟩ := DataW.trod_string h hx; exact ⟨m, rfl, hm⟩⟩

theorem all_of {α : Type} (Q : Nat → α → Prop) : ∀ (n : Nat), (∀ i, i < n → ∃ a, Q i a) → ∃ l : List α, l.length = n ∧ ∀ i a, l[i]? = some a → Q i a
  | 0, _ => ⟨[], rfl, fun i a h => by simp at h⟩
  | n + 1, h => by
    obtain ⟨l, hl, hq⟩ := all_of Q n (fun i hi => h i (by omega))
    obtain ⟨a, ha⟩ := h n (by omega)
    refine ⟨l ++ [a], by simp [hl], fun i b hb => ?_⟩
    rcases Nat.lt_or_ge i n with hi | hi
    · rw [List.getElem?_append_left (by omega)] at hb; exact hq i b hb
    · have : i = n := by have := (List.getElem?_eq_some_iff.1 hb).1; simp at this; omega
      subst this
      rw [List.getElem?_append_right (by omega)] at hb
      simp [hl] at hb
      subst hb; exact ha

theorem opens_slice {P : Program} {α : Type} {k : Kd α} {T E : TypeId} {ok : α → Prop} (h : P.underlying T = some (.slice E)) (hs : P.cellsOf E = k.sz) (ho : Opens P k E ok) : Opens P (Kd.slice E k) T (fun xs => xs.length ≤ 9223372036854775807 ∧ ∀ x ∈ xs, ok x) :=
  ⟨fun enc w base spare held fuel cs x hx => by
    rcases DataW.trod_slice h hx with ⟨rfl, _⟩ | ⟨a, len, cap, elems, rest, n, rfl, rfl, _, hb, hl, hm, hlen, hel, _, _⟩
    · exact ⟨[], ⟨none, 0, rfl, Nat.le_refl _, rfl, by simp, fun hp => absurd hp (by simp)⟩, by simp, fun x hx => by cases hx⟩
    · obtain ⟨l, hll, hq⟩ := all_of (fun i y => ∃ c, c.length = k.sz ∧ k.K w y c ∧ (∀ j u, c[j]? = some u → w.cell? (a.add (i * k.sz + j)) = some u) ∧ ok y) len (fun i hi => by
        have he := hel i hi
        have : i < elems.length := by omega
        rw [List.getElem?_eq_getElem this, Option.bind_eq_some_iff] at he
        obtain ⟨ci, hci, hti⟩ := he
        obtain ⟨y, hy, hoky⟩ := ho.out enc w base spare held n ci _ hti
        obtain ⟨h1, h2⟩ := cells?_get hci
        refine ⟨y, ci, h1.trans hs, hy, fun j u hu => ?_, hoky⟩
        have h3 := h2 j u hu
        rw [hs] at h3
        have ha : (a.add (i * k.sz)).add j = a.add (i * k.sz + j) := by
          unfold Addr.add
          by_cases e1 : i * k.sz = 0 <;> by_cases e2 : j = 0 <;> simp [e1, e2, Nat.add_assoc]
        rw [← ha]; exact h3)
      refine ⟨l, ⟨some a, cap, by rw [hll], by omega, rfl, ?_, fun hp => ⟨a, rfl, fun j p hp => ?_⟩⟩, ?_, fun y hy => ?_⟩
      · unfold maxLen at hm; omega
      · obtain ⟨c, h1, h2, h3, _⟩ := hq j p hp
        exact ⟨c, h1, h2, h3⟩
      · unfold maxLen at hm; omega
      · obtain ⟨i, hi⟩ := List.getElem?_of_mem hy
        obtain ⟨_, _, _, _, h4⟩ := hq i y hi
        exact h4⟩

/-- A struct's fields, one behind the other. -/
theorem pair_at {α β : Type} {k1 : Kd α} {k2 : Kd β} {w : World} {cs : List Value} {o s : Nat} {x : α} {y : β} (h1 : k1.K w x ((cs.drop o).take s)) (h2 : k2.K w y (cs.drop (o + s))) : (Kd.pair k1 k2).K w (x, y) (cs.drop o) :=
  ⟨_, _, by rw [← List.drop_drop]; exact (List.take_append_drop s (cs.drop o)).symm, h1, h2⟩
theorem last_at {α : Type} {k : Kd α} {w : World} {cs : List Value} {o s : Nat} {x : α} (hl : cs.length = o + s) (h : k.K w x ((cs.drop o).take s)) : k.K w x (cs.drop o) := by
  rwa [List.take_of_length_le (by rw [List.length_drop]; omega)] at h
end Go.Proofs.Ytjieagpfnnbiiaa.HOpen
