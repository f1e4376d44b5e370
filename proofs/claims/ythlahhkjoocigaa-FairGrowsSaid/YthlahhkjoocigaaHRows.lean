/- Rows of one-cell elements (slices of slices ..) that are read, as lists of values, and back; of any program. -/
import Derived.Test.YthlahhkjoocigaaWWords
namespace Go.Proofs.Ythlahhkjoocigaa.HRows
open Go Go.RowKit Go.Proofs.YthlahhkjoocigaaW.PrintWords

theorem all_vals {α β : Type} : ∀ (xs : List α) (Q : Nat → α → β → Prop), (∀ j x, xs[j]? = some x → ∃ v, Q j x v) → ∃ vs : List β, vs.length = xs.length ∧ ∀ j x v, xs[j]? = some x → vs[j]? = some v → Q j x v
  | [], _, _ => ⟨[], rfl, fun j x v h => by simp at h⟩
  | x :: xs, Q, h => by
    obtain ⟨v, hv⟩ := h 0 x rfl
    obtain ⟨vs, hl, hq⟩ := all_vals xs (fun j => Q (j + 1)) (fun j y hy => h (j + 1) y (by simpa using hy))
    refine ⟨v :: vs, by simp [hl], fun j y u hy hu => ?_⟩
    cases j with
    | zero => simp at hy hu; subst hy; subst hu; exact hv
    | succ j => simp at hy hu; exact hq j y u hy hu

/-- The values that a row of one-cell elements holds. -/
theorem C_vals {α : Type} {k : Kd α} {w : World} {A : Option Addr} {n : Nat} {xs : List α} (hsz : k.sz = 1) (h : k.C w A n xs) :
    ∃ vs : List Value, vs.length = xs.length ∧ (∀ (j : Nat) (x : α) (v : Value), xs[j]? = some x → vs[j]? = some v → k.K w x [v]) ∧ (∀ ad, A = some ad → ∀ (j : Nat) (v : Value), vs[j]? = some v → w.cell? (ad.add j) = some v) ∧ (∀ v ∈ vs, v.oneCell' = true) := by
  have hn : xs.length = n := h.1
  obtain ⟨vs, hl, hq⟩ := all_vals xs (fun j x (v : Value) => k.K w x [v] ∧ ∀ ad, A = some ad → w.cell? (ad.add j) = some v) (fun j x hx => by
    have hj : j < n := by have := (List.getElem?_eq_some_iff.1 hx).1; omega
    obtain ⟨ad, rfl, hc⟩ := h.2.2 (by omega)
    obtain ⟨c, hcl, hk, hcell⟩ := hc j x hx
    rw [hsz] at hcl
    obtain ⟨v, rfl⟩ := List.length_eq_one_iff.1 hcl
    refine ⟨v, hk, fun ad' e => ?_⟩
    injection e with e
    subst e
    have := hcell 0 v rfl
    rwa [hsz, Nat.mul_one, Nat.add_zero] at this)
  refine ⟨vs, hl, fun j x v hx hv => (hq j x v hx hv).1, fun ad e j v hv => ?_, fun v hv => ?_⟩
  · have hj : j < xs.length := by have := (List.getElem?_eq_some_iff.1 hv).1; omega
    exact (hq j _ v (List.getElem?_eq_getElem hj) hv).2 ad e
  · obtain ⟨j, hj⟩ := List.getElem?_of_mem hv
    have hjl : j < xs.length := by have := (List.getElem?_eq_some_iff.1 hj).1; omega
    exact k.K_one (hq j _ v (List.getElem?_eq_getElem hjl) hj).1 v (.head _)

/-- And back: a row of the call's own that holds such values is read so. -/
theorem C_of_owns {α : Type} {k : Kd α} {w : World} {base e : Nat} {v : Value} {vs : List Value} {xs : List α} (hsz : k.sz = 1) (ho : w.ownsRow base e 1 v vs.length vs) (hl : vs.length = xs.length)
    (hv : ∀ (j : Nat) (x : α) (u : Value), xs[j]? = some x → vs[j]? = some u → k.K w x [u]) : ∃ A c, v = .slice A xs.length c ∧ xs.length ≤ c ∧ k.C w A xs.length xs := by
  have cell : ∀ (g cap : Nat), v = .slice (some ⟨g, 0, none⟩) vs.length cap → ∀ (j : Nat) (x : α), xs[j]? = some x → ∃ c, c.length = k.sz ∧ k.K w x c ∧ ∀ i u, c[i]? = some u → w.cell? ((⟨g, 0, none⟩ : Addr).add (j * k.sz + i)) = some u := by
    intro g cap hg j x hx
    have hj : j < vs.length := by have := (List.getElem?_eq_some_iff.1 hx).1; omega
    refine ⟨[vs[j]], by rw [hsz]; rfl, hv j x _ hx (List.getElem?_eq_getElem hj), fun i u hu => ?_⟩
    have hi : i = 0 := by have := (List.getElem?_eq_some_iff.1 hu).1; simp at this; omega
    subst hi
    simp at hu
    subst hu
    rw [hsz, Nat.mul_one, Nat.add_zero]
    exact ho.cells (g := g) (by rw [hg]; rfl) j _ (List.getElem?_eq_getElem hj)
  rcases ho.2 with ⟨rfl, h0⟩ | ⟨g, cap, cur, rfl, _, _, hnc, hmx, _⟩
  · have h00 : xs.length = 0 := by omega
    exact ⟨none, 0, by rw [h00], by omega, rfl, by omega, fun hp => absurd hp (by omega)⟩
  · refine ⟨some ⟨g, 0, none⟩, cap, by rw [hl], by omega, rfl, ?_, fun _ => ⟨_, rfl, cell g cap rfl⟩⟩
    unfold maxLen at hmx; omega

theorem K_append {α : Type} {k : Kd α} {w : World} {xs ys : List α} {vs us : List Value} (h1 : vs.length = xs.length) (hv : ∀ (j : Nat) (x : α) (u : Value), xs[j]? = some x → vs[j]? = some u → k.K w x [u])
    (hu : ∀ (j : Nat) (x : α) (u : Value), ys[j]? = some x → us[j]? = some u → k.K w x [u]) : ∀ (j : Nat) (x : α) (u : Value), (xs ++ ys)[j]? = some x → (vs ++ us)[j]? = some u → k.K w x [u] := by
  intro j x u hx hy
  rcases Nat.lt_or_ge j xs.length with hj | hj
  · rw [List.getElem?_append_left hj] at hx
    rw [List.getElem?_append_left (by omega)] at hy
    exact hv j x u hx hy
  · rw [List.getElem?_append_right hj] at hx
    rw [List.getElem?_append_right (by omega), h1] at hy
    exact hu _ x u hx hy
end Go.Proofs.Ythlahhkjoocigaa.HRows
