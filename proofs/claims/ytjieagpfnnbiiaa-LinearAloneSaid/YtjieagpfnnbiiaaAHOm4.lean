/- slices.Insert of a pair: rows as cells. -/
import Derived.Test.YtjieagpfnnbiiaaAHOm3
import Derived.Shelf.Spec.SlicesInsertGrow
namespace Go.Proofs.Ytjieagpfnnbiiaa.XLin
open Go Go.RowKit Go.Proofs.YtjieagpfnnbiiaaW.PrintWords Go.Proofs.YtjieagpfnnbiiaaW.PrintLast Go.Proofs.YtjieagpfnnbiiaaW.PrintMore
open Go.Proofs.Ytjieagpfnnbiiaa
set_option linter.unusedVariables false
set_option linter.unusedSimpArgs false
/-- A row's cells. -/
def cellsP (xs : List S25) : List Value := xs.flatMap (fun x => [.string x.f0, .string x.f1])
theorem cellsP_cons (x : S25) (xs : List S25) : cellsP (x :: xs) = .string x.f0 :: .string x.f1 :: cellsP xs := rfl
theorem cellsP_len : ∀ xs : List S25, (cellsP xs).length = xs.length * 2
  | [] => rfl
  | x :: xs => by rw [cellsP_cons, List.length_cons, List.length_cons, cellsP_len xs, List.length_cons]; omega
theorem cellsP_append (xs ys : List S25) : cellsP (xs ++ ys) = cellsP xs ++ cellsP ys := by simp [cellsP]
theorem cellsP_take : ∀ (i : Nat) (xs : List S25), (cellsP xs).take (i * 2) = cellsP (xs.take i)
  | 0, xs => by simp [cellsP]
  | i + 1, [] => by simp [cellsP]
  | i + 1, x :: xs => by
    rw [cellsP_cons, List.take_succ_cons, cellsP_cons, ← cellsP_take i xs, show (i + 1) * 2 = (i * 2) + 1 + 1 by omega, List.take_succ_cons, List.take_succ_cons]
theorem cellsP_drop : ∀ (i : Nat) (xs : List S25), (cellsP xs).drop (i * 2) = cellsP (xs.drop i)
  | 0, xs => by simp
  | i + 1, [] => by simp [cellsP]
  | i + 1, x :: xs => by
    rw [cellsP_cons, List.drop_succ_cons, ← cellsP_drop i xs, show (i + 1) * 2 = (i * 2) + 1 + 1 by omega, List.drop_succ_cons, List.drop_succ_cons]
theorem cellsP_one : ∀ (xs : List S25), ∀ u ∈ cellsP xs, u.oneCell' = true
  | [], u, h => by cases h
  | x :: xs, u, h => by
    rw [cellsP_cons] at h
    rcases List.mem_cons.1 h with rfl | h
    · rfl
    · rcases List.mem_cons.1 h with rfl | h
      · rfl
      · exact cellsP_one xs u h
theorem reps_cellsP {W : World} {b : Nat} {ok : Nat → Prop} : ∀ xs : List S25, Reps (k25.M W b ok) 2 xs (cellsP xs) := fun xs =>
  ⟨cellsP_len xs, fun j p hj => by
    have hjl := (List.getElem?_eq_some_iff.1 hj).1
    have he := (List.getElem?_eq_some_iff.1 hj).2
    rw [cellsP_drop, List.drop_eq_getElem_cons hjl, he, cellsP_cons]
    exact k25_mkM W b ok p⟩
theorem cellsP_reps {W : World} {b : Nat} {ok : Nat → Prop} : ∀ (xs : List S25) (cs : List Value), Reps (k25.M W b ok) 2 xs cs → cs = cellsP xs
  | [], cs, h => by
    have := h.1
    simp only [List.length_nil, Nat.zero_mul] at this
    exact List.eq_nil_of_length_eq_zero this
  | x :: xs, cs, h => by
    have hl := h.1
    rw [List.length_cons] at hl
    have h0 := h.2 0 x rfl
    rw [Nat.zero_mul, List.drop_zero] at h0
    have h1 := k25_openM h0
    have hr : Reps (k25.M W b ok) 2 xs (cs.drop 2) := ⟨by rw [List.length_drop]; omega, fun j p hj => by
      have := h.2 (j + 1) p hj
      rw [List.drop_drop, show 2 + j * 2 = (j + 1) * 2 by omega]
      exact this⟩
    rw [cellsP_cons, ← cellsP_reps xs _ hr]
    have h2 := List.take_append_drop 2 cs
    rw [h1] at h2
    exact h2.symm
theorem R_blk {W : World} {base n c : Nat} {ad : Addr} {xs : List S25} (h : Kd.R k25 25 W base (fun _ => True) (.slice (some ad) n c) xs) : ∃ g cur, ad = ⟨g, 0, none⟩ ∧ n = xs.length ∧ base ≤ g ∧ W.heap[g]? = some (.cells cur 25 (0, 0)) ∧ n ≤ c ∧ c ≤ 9223372036854775807 ∧ cur.size = c * 2 ∧ cur.toList.take (n * 2) = cellsP xs := by
  obtain ⟨_, inner, ⟨hil, hown⟩, hrep⟩ := h
  rcases hown with ⟨hv, _⟩ | ⟨g, cap, cur, hv, hb, hh, hn, hcm, hcs, ht⟩
  · cases hv
  · simp only [Value.slice.injEq, Option.some.injEq] at hv
    obtain ⟨h1, h2, h3⟩ := hv
    subst h3
    rw [cellsP_reps xs inner hrep] at ht
    exact ⟨g, cur, h1, h2, hb, hh, by omega, by unfold maxLen at hcm; omega, hcs, by rw [h2]; exact ht⟩
theorem R_mk {W : World} {base c g : Nat} {cur : Array Value} {xs : List S25} (hb : base ≤ g) (hh : W.heap[g]? = some (.cells cur 25 (0, 0))) (hn : xs.length ≤ c) (hc : c ≤ 9223372036854775807) (hs : cur.size = c * 2) (ht : cur.toList.take (xs.length * 2) = cellsP xs) : Kd.R k25 25 W base (fun _ => True) (.slice (some ⟨g, 0, none⟩) xs.length c) xs :=
  ⟨fun _ _ => trivial, cellsP xs, ⟨cellsP_len xs, .inr ⟨g, c, cur, rfl, hb, hh, hn, by unfold maxLen; omega, hs, ht⟩⟩, reps_cellsP xs⟩
theorem run_copy_2 {P : Program} (w : World) (dT sT ty elem : TypeId) (b o dLen dCap : Nat) (a : Addr) (sLen sCap k : Nat) (cs : List Value)
    (hu : P.underlying dT = some (.slice elem)) (hs : (P.info? elem).map (·.size) = some 2) (hk : Nat.min sLen dLen = k) (hn : cs.length = k * 2)
    (hsrc : ∀ j v, cs[j]? = some v → w.cell? (a.add j) = some v) (hc : ∀ j, j < cs.length → (w.cell? ⟨b, o + j, none⟩).isSome = true) (hf : ∀ j, j < cs.length → w.frozen? ⟨b, o + j, none⟩ = false) (h1 : ∀ v ∈ cs, v.oneCell' = true) :
    (Builtin.copy_ #[dT, sT] ty #[.slice (some ⟨b, o, none⟩) dLen dCap, .slice (some a) sLen sCap]).run P w = .ok (goInt k) (w.setCells b o cs) := by
  have hl := run_loadCells_list (P := P) w a cs hsrc
  have hst := run_storeCells_cells (P := P) b o cs 0 w (by simpa using hc) (by simpa using hf) h1
  cases hq : P.info? elem with
  | none => simp [hq] at hs
  | some i =>
    have hi : i.size = 2 := by simpa [hq] using hs
    simp [Builtin.copy_, run_underlying hu, Builtin.lenOf, Builtin.firstCells, sizeOf, typeInfo, hq, hi, hk, ← hn, hl, hst]
theorem cut_up {P : Program} {t e : TypeId} {i : TypeInfo} (ht : P.underlying t = some (.slice e)) (hi : P.info? e = some i) (A : Option Addr) (n c j : Nat) (hc : j ≤ c) :
    ∀ W : World, (Instr.slice t (.slice A n c) none (some (.int .i64 (j : Int))) none).run P W = .ok (.slice A j c) W := by
  intro W
  have hel : P.elem t = e := by simp [Program.elem, ht]
  have hu : P.underlying t = some (.slice (P.elem t)) := by rw [hel]; exact ht
  have ha : (A.map fun x => x.add 0) = A := by cases A <;> simp [Addr.add]
  rw [run_slice_h W t A n c hu .i64 (j : Int) (Int.natCast_nonneg _) (by omega), hel]
  simp [sizeOf, typeInfo, hi, sliced, Result.andThen, ha]
def insP (xs : List S25) (i : Nat) (p : S25) : List S25 := xs.take i ++ p :: xs.drop i
theorem insP_len {xs : List S25} {i : Nat} (p : S25) (h : i ≤ xs.length) : (insP xs i p).length = xs.length + 1 := by unfold insP; rw [List.length_append, List.length_cons, List.length_take, List.length_drop]; omega

end Go.Proofs.Ytjieagpfnnbiiaa.XLin
