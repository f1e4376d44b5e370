import Derived.Test.YtjieagpfnnbiiaaBHOm3
import Derived.Shelf.Spec.SlicesInsertGrow
/- slices.Insert of a pair: rows as cells. -/
namespace Go.Proofs.Ytjieagpfnnbiiaa.XLin
open Go Go.RowKit Go.Proofs.YtjieagpfnnbiiaaW.PrintWords Go.Proofs.YtjieagpfnnbiiaaW.PrintLast Go.Proofs.YtjieagpfnnbiiaaW.PrintMore
open Go.Proofs.Ytjieagpfnnbiiaa
set_option linter.unusedVariables false
set_option linter.unusedSimpArgs false
/-- A row's cells. -/
def cellsP (xs : List S25) : List Value := xs.flatMap (fun x => [.string x.f0, .string x.f1])
theorem cellsP_cons (x : S25) (xs : List S25) : cellsP (x :: xs) = .string x.f0 :: .string x.f1 :: cellsP xs := rfl
theorem cellsP_len : ∀ xs : List S25, (cellsP xs).length = xs.length * 2
  | [] => rfl
  | x :: xs => by rw [cellsP_cons, List.length_cons, List.length_cons, cellsP_len xs, List.length_cons]; omega
theorem cellsP_append (xs ys : List S25) : cellsP (xs ++ ys) = cellsP xs ++ cellsP ys := by simp [cellsP]
theorem cellsP_take : ∀ (i : Nat) (xs : List S25), (cellsP xs).take (i * 2) = cellsP (xs.take i)
  | 0, xs => by simp [cellsP]
  | i + 1, [] => by simp [cellsP]
  | i + 1, x :: xs => by
    rw [cellsP_cons, List.take_succ_cons, cellsP_cons, ← cellsP_take i xs, show (i + 1) * 2 = (i * 2) + 1 + 1 by omega, List.take_succ_cons, List.take_succ_cons]
theorem cellsP_drop : ∀ (i : Nat) (xs : List S25), (cellsP xs).drop (i * 2) = cellsP (xs.drop i)
  | 0, xs => by simp
  | i + 1, [] => by simp [cellsP]
  | i + 1, x :: xs => by
    rw [cellsP_cons, List.drop_succ_cons, ← cellsP_drop i xs, show (i + 1) * 2 = (i * 2) + 1 + 1 by omega, List.drop_succ_cons, List.drop_succ_cons]
theorem cellsP_one : ∀ (xs : List S25), ∀ u ∈ cellsP xs, u.oneCell' = true
  | [], u, h => by cases h
  | x :: xs, u, h => by
    rw [cellsP_cons] at h
    rcases List.mem_cons.1 h with rfl | h
    · rfl
    · rcases List.mem_cons.1 h with rfl | h
      · rfl
      · exact cellsP_one xs u h
theorem reps_cellsP {W : World} {b : Nat} {ok : Nat → Prop} : ∀ xs : List S25, Reps (k25.M W b ok) 2 xs (cellsP xs) := fun xs =>
  ⟨cellsP_len xs, fun j p hj => by
    have hjl := (List.getElem?_eq_some_iff.1 hj).1
    have he := (List.getElem?_eq_some_iff.1 hj).2
    rw [cellsP_drop, List.drop_eq_getElem_cons hjl, he, cellsP_cons]
    exact k25_mkM W b ok p⟩
theorem cellsP_reps {W : World} {b : Nat} {ok : Nat → Prop} : ∀ (xs : List S25) (cs : List Value), Reps (k25.M W b ok) 2 xs cs → cs = cellsP xs
  | [], cs, h => by
    have := h.1
    simp only [List.length_nil, Nat.zero_mul] at this
    exact List.eq_nil_of_length_eq_zero this
  | x :: xs, cs, h => by
    have hl := h.1
    rw [List.length_cons] at hl
    have h0 := h.2 0 x rfl
    rw [Nat.zero_mul, List.drop_zero] at h0
    have h1 := k25_openM h0
    have hr : Reps (k25.M W b ok) 2 xs (cs.drop 2) := ⟨by rw [List.length_drop]; omega, fun j p hj => by
      have := h.2 (j + 1) p hj
      rw [List.drop_drop, show 2 + j * 2 = (j + 1) * 2 by omega]
      exact this⟩
    rw [cellsP_cons, ← cellsP_reps xs _ hr]
    have h2 := List.take_append_drop 2 cs
    rw [h1] at h2
    exact h2.symm
theorem R_blk {W : World} {base n c : Nat} {ad : Addr} {xs : List S25} (h : Kd.R k25 25 W base (fun _ => True) (.slice (some ad) n c) xs) : ∃ g cur, ad = ⟨g, 0, none⟩ ∧ n = xs.length ∧ base ≤ g ∧ W.heap[g]? = some (.cells cur 25 (0, 0)) ∧ n ≤ c ∧ c ≤ 9223372036854775807 ∧ cur.size = c * 2 ∧ cur.toList.take (n * 2) = cellsP xs := by
  obtain ⟨_, inner, ⟨hil, hown⟩, hrep⟩ := h
  rcases hown with ⟨hv, _⟩ | ⟨g, cap, cur, hv, hb, hh, hn, hcm, hcs, ht⟩
  · cases hv
  · simp only [Value.slice.injEq, Option.some.injEq] at hv
    obtain ⟨h1, h2, h3⟩ := hv
    subst h3
    rw [cellsP_reps xs inner hrep] at ht
    exact ⟨g, cur, h1, h2, hb, hh, by omega, by unfold maxLen at hcm; omega, hcs, by rw [h2]; exact ht⟩
theorem R_mk {W : World} {base c g : Nat} {cur : Array Value} {xs : List S25} (hb : base ≤ g) (hh : W.heap[g]? = some (.cells cur 25 (0, 0))) (hn : xs.length ≤ c) (hc : c ≤ 9223372036854775807) (hs : cur.size = c * 2) (ht : cur.toList.take (xs.length * 2) = cellsP xs) : Kd.R k25 25 W base (fun _ => True) (.slice (some ⟨g, 0, none⟩) xs.length c) xs :=
  ⟨fun _ _ => trivial, cellsP xs, ⟨cellsP_len xs, .inr ⟨g, c, cur, rfl, hb, hh, hn, by unfold maxLen; omega, hs, ht⟩⟩, reps_cellsP xs⟩
theorem run_copy_2 {P : Program} (w : World) (dT sT ty elem : TypeId) (b o dLen dCap : Nat) (a : Addr) (sLen sCap k : Nat) (cs : List Value)
    (hu : P.underlying dT = some (.slice elem)) (hs : (P.info? elem).map (·.size) = some 2) (hk : Nat.min sLen dLen = k) (hn : cs.length = k * 2)
    (hsrc : ∀ j v, cs[j]? = some v → w.cell? (a.add j) = some v) (hc : ∀ j, j < cs.length → (w.cell? ⟨b, o + j, none⟩).isSome = true) (hf : ∀ j, j < cs.length → w.frozen? ⟨b, o + j, none⟩ = false) (h1 : ∀ v ∈ cs, v.oneCell' = true) :
    (Builtin.copy_ #[dT, sT] ty #[.slice (some ⟨b, o, none⟩) dLen dCap, .slice (some a) sLen sCap]).run P w = .ok (goInt k) (w.setCells b o cs) := by
  have hl := run_loadCells_list (P := P) w a cs hsrc
  have hst := run_storeCells_cells (P := P) b o cs 0 w (by simpa using hc) (by simpa using hf) h1
  cases hq : P.info? elem with
  | none => simp [hq] at hs
  | some i =>
    have hi : i.size = 2 := by simpa [hq] using hs
    simp [Builtin.copy_, run_underlying hu, Builtin.lenOf, Builtin.firstCells, sizeOf, typeInfo, hq, hi, hk, ← hn, hl, hst]
theorem cut_up {P : Program} {t e : TypeId} {i : TypeInfo} (ht : P.underlying t = some (.slice e)) (hi : P.info? e = some i) (A : Option Addr) (n c j : Nat) (hc : j ≤ c) :
    ∀ W : World, (Instr.slice t (.slice A n c) none (some (.int .i64 (j : Int))) none).run P W = .ok (.slice A j c) W := by
  intro W
  have hel : P.elem t = e := by simp [Program.elem, ht]
  have hu : P.underlying t = some (.slice (P.elem t)) := by rw [hel]; exact ht
  have ha : (A.map fun x => x.add 0) = A := by cases A <;> simp [Addr.add]
  rw [run_slice_h W t A n c hu .i64 (j : Int) (Int.natCast_nonneg _) (by omega), hel]
  simp [sizeOf, typeInfo, hi, sliced, Result.andThen, ha]
def insP (xs : List S25) (i : Nat) (p : S25) : List S25 := xs.take i ++ p :: xs.drop i
theorem insP_len {xs : List S25} {i : Nat} (p : S25) (h : i ≤ xs.length) : (insP xs i p).length = xs.length + 1 := by unfold insP; rw [List.length_append, List.length_cons, List.length_take, List.length_drop]; omega

end Go.Proofs.Ytjieagpfnnbiiaa.XLin
/- slices.Insert of a pair. -/
namespace Go.Proofs.Ytjieagpfnnbiiaa.XLin
open Go Go.RowKit Go.Proofs.YtjieagpfnnbiiaaW.PrintWords Go.Proofs.YtjieagpfnnbiiaaW.PrintLast Go.Proofs.YtjieagpfnnbiiaaW.PrintMore
open Go.Proofs.Ytjieagpfnnbiiaa
set_option linter.unusedVariables false
set_option linter.unusedSimpArgs false
def InsPost (W : World) (base : Nat) (row : Option Nat) (l : List S25) (e : Ending) (W' : World) : Prop :=
  ∃ A' c', e = .returned (.slice A' l.length c') ∧ Kd.R k25 25 W' base (fun _ => True) (.slice A' l.length c') l ∧ W.grownBy W' row
theorem one_C {W : World} {vb : Nat} {p : S25} (hv : W.heap[vb]? = some (.cells #[.string p.f0, .string p.f1] 25 (0, 0))) : Kd.C k25 W (some ⟨vb, 0, none⟩) 1 [p] :=
  ⟨rfl, by decide, fun _ => ⟨_, rfl, fun j q hj => by
    obtain rfl : j = 0 := by have := (List.getElem?_eq_some_iff.1 hj).1; simp at this; exact this
    obtain rfl : p = q := by simpa using hj
    refine ⟨[.string p.f0, .string p.f1], rfl, k25_mk W p, fun t u hu => ?_⟩
    rw [Nat.zero_mul, Nat.zero_add, Addr.add_lit, Nat.zero_add, blk_cell hv t]
    rw [← Array.getElem?_toList]
    exact hu⟩⟩
theorem row_cell {W : World} {g : Nat} {cur : Array Value} {n : Nat} {xs : List S25} (hh : W.heap[g]? = some (.cells cur 25 (0, 0))) (ht : cur.toList.take (n * 2) = cellsP xs) {j : Nat} {v : Value} (h : (cellsP xs)[j]? = some v) : W.cell? ⟨g, j, none⟩ = some v := by
  rw [blk_cell hh j, ← Array.getElem?_toList]
  rw [← ht] at h
  rw [List.getElem?_take] at h
  split at h
  · exact h
  · cases h
theorem row_some {W : World} {g : Nat} {cur : Array Value} (hh : W.heap[g]? = some (.cells cur 25 (0, 0))) {j : Nat} (h : j < cur.size) : (W.cell? ⟨g, j, none⟩).isSome = true := by
  rw [blk_cell hh j, Array.getElem?_eq_getElem h]
  rfl
theorem set_grown (g : Nat) (vs : List Value) (o : Nat) (W : World) : W.grownBy (W.setCells g o vs) (some g) := by
  obtain ⟨s1, s2, s3, s4⟩ := setCells_same g vs o W
  exact ⟨s1, s2, s3, by omega, fun k hk hne => setCells_far vs o k (fun e => hne (by rw [e]))⟩
theorem step_copy {ops : Array Oper} {o : Oper} {a : Act} {w : World} {K : Act → World → Prop} {Q : Exit → Act → World → Prop} {E : Prop}
    (hg : o.guard = none) (d x : Operand) (dT sT : TypeId) (hop : o.op = Op.call { callee := Callee.builtin Builtin.copy, args := #[d, x], argTypes := #[dT, sT] })
    (v u : Value) (hd : a.eval d = v) (hx : a.eval x = u) {v' : Value} {w' : World} (hr : ∀ ty, (Builtin.copy_ #[dT, sT] ty #[v, u]).run Try.prog w = .ok v' w') (hK : K (a.put o.dst v') w') :
    if Region.wanted o (yielded ops a.tmps) = true then Oper.wp Try.prog o a w K Q else E := step_copy_runI hg d x dT sT hop v u hd hx (hr _) hK
set_option maxHeartbeats 8000000 in
set_option maxRecDepth 100000 in
theorem insert50_shift (base : Nat) (xs : List S25) (ad : Addr) (c i : Nat) (p : S25) (vb : Nat) (W : World) (HO : Kd.R k25 25 W base (fun _ => True) (.slice (some ad) xs.length c) xs) (hv : W.heap[vb]? = some (.cells #[.string p.f0, .string p.f1] 25 (0, 0))) (hne : vb ≠ ad.block) (hi : i < xs.length) (hl : xs.length ≤ 4398046511000) (hroom0 : ∀ N : Nat, (xs.length : Int) + 1 = (N : Int) → N ≤ c) :
    Calls Try.prog 50 #[.slice (some ad) xs.length c, .int .i64 (i : Int), .slice (some ⟨vb, 0, none⟩) 1 1] W (InsPost W base (some ad.block) (insP xs i p)) := by
  obtain ⟨i25, hi25, hs25⟩ := Option.map_eq_some_iff.1 info25
  have hz25 : i25.size = 2 := (Prod.mk.inj (Prod.mk.inj hs25).2).1
  have hzz : i25.zero = some (.agg #[(.string ⟨#[]⟩), (.string ⟨#[]⟩)]) := (Prod.mk.inj hs25).1
  have hzb : i25.bytes = 32 := (Prod.mk.inj (Prod.mk.inj hs25).2).2
  have hsz : (Try.prog.info? 25).map (·.size) = some 2 := by rw [hi25]; simp [hz25]
  obtain ⟨n, hxn⟩ : ∃ n, xs.length = n := ⟨_, rfl⟩
  rw [hxn] at HO hi hl ⊢
  obtain ⟨g, cur, rfl, hnx, hb, hh, hnc, hc, hcs, ht⟩ := R_blk HO
  simp only at hne
  obtain ⟨N, hN⟩ : ∃ N : Nat, (n : Int) + 1 = (N : Int) := ⟨n + 1, by omega⟩
  obtain ⟨i1, hi1⟩ : ∃ i1 : Nat, (i : Int) + 1 = (i1 : Int) := ⟨i + 1, by omega⟩
  have hroom : N ≤ c := hroom0 N (by rw [hxn]; exact hN)
  have hcut0 : ∃ v, ∀ W : World, (Instr.slice 22 (.slice (some ⟨g, 0, none⟩) n c) (some (.int .i64 (i : Int))) none none).run Try.prog W = .ok v W := ⟨_, cut_from (P := Try.prog) 22 25 .i64 Try.underlying22 hi25 2 hz25 (some ⟨g, 0, none⟩) n c (i : Int) (by omega) (by omega)⟩
  obtain ⟨v0, hcut0⟩ := hcut0
  have hcutN := cut_up (P := Try.prog) Try.underlying22 hi25 (some ⟨g, 0, none⟩) n c N hroom
  have hcut1 := cut_from (P := Try.prog) 22 25 .i64 Try.underlying22 hi25 2 hz25 (some ⟨g, 0, none⟩) N c (i1 : Int) (by omega) (by omega)
  simp only [Int.toNat_natCast] at hcut1
  rw [if_neg (by omega), Option.map_some, add_plain] at hcut1
  have hcut2 := cut_from (P := Try.prog) 22 25 .i64 Try.underlying22 hi25 2 hz25 (some ⟨g, 0, none⟩) N c (i : Int) (by omega) (by omega)
  simp only [Int.toNat_natCast] at hcut2
  rw [if_neg (by omega), Option.map_some, add_plain] at hcut2
  have hk : Nat.min (N - i) (N - i1) = n - i := by simp only [Nat.min_def]; split <;> omega
  have hk2 : Nat.min 1 (N - i) = 1 := by simp only [Nat.min_def]; split <;> omega
  have hD : (cellsP (xs.drop i)).length = (n - i) * 2 := by rw [cellsP_len, List.length_drop, hxn]
  have hcp1 : ∀ ty, (Builtin.copy_ #[22, 22] ty #[.slice (some ⟨g, i1 * 2, none⟩) (N - i1) (c - i1), .slice (some ⟨g, i * 2, none⟩) (N - i) (c - i)]).run Try.prog W.drew = .ok (goInt (n - i : Nat)) (W.drew.setCells g (i1 * 2) (cellsP (xs.drop i))) := fun ty =>
    run_copy_2 W.drew 22 22 ty 25 g (i1 * 2) _ _ ⟨g, i * 2, none⟩ _ _ (n - i) _ Try.underlying22 hsz hk hD
      (fun j v hj => by rw [Addr.add_lit]; rw [← cellsP_drop, List.getElem?_drop] at hj; exact row_cell hh ht hj)
      (fun j hj => row_some hh (by rw [hD] at hj; rw [hcs]; omega)) (fun j hj => blk_frozen hh _) (cellsP_one _)
  obtain ⟨cur1, hh1, hcs1, ht1⟩ := setCells_row (e := 25) (cellsP (xs.drop i)) (i1 * 2) W.drew cur hh (by rw [hD, hcs]; omega)
  have hg1 := undrew (set_grown g (cellsP (xs.drop i)) (i1 * 2) W.drew)
  have hv1 : (W.drew.setCells g (i1 * 2) (cellsP (xs.drop i))).heap[vb]? = some (.cells #[.string p.f0, .string p.f1] 25 (0, 0)) := (setCells_far _ _ vb hne).trans hv
  generalize W.drew.setCells g (i1 * 2) (cellsP (xs.drop i)) = W1 at hcp1 hh1 hg1 hv1
  have hcp2 : ∀ ty, (Builtin.copy_ #[22, 22] ty #[.slice (some ⟨g, i * 2, none⟩) (N - i) (c - i), .slice (some ⟨vb, 0, none⟩) 1 1]).run Try.prog W1 = .ok (goInt (1 : Nat)) (W1.setCells g (i * 2) [.string p.f0, .string p.f1]) := fun ty =>
    run_copy_2 W1 22 22 ty 25 g (i * 2) _ _ ⟨vb, 0, none⟩ _ _ 1 _ Try.underlying22 hsz hk2 rfl
      (fun j v hj => by rw [Addr.add_lit, Nat.zero_add, blk_cell hv1 j, ← Array.getElem?_toList]; exact hj)
      (fun j hj => row_some hh1 (by simp only [List.length_cons, List.length_nil] at hj; rw [hcs1, hcs]; omega)) (fun j hj => blk_frozen hh1 _) (cellsP_one [p])
  obtain ⟨cur2, hh2, hcs2, ht2⟩ := setCells_row (e := 25) [.string p.f0, .string p.f1] (i * 2) W1 cur1 hh1 (by simp only [List.length_cons, List.length_nil]; rw [hcs1, hcs]; omega)
  have hg2 := hg1.trans (set_grown g [.string p.f0, .string p.f1] (i * 2) W1)
  generalize W1.setCells g (i * 2) [.string p.f0, .string p.f1] = W2 at hcp2 hh2 hg2
  have hcon : cur2.toList.take (N * 2) = cellsP (insP xs i p) := by
    have e1 : cur1.toList.take (i * 2) = cellsP (xs.take i) := by
      rw [ht1, List.append_assoc, List.take_append_of_le_length (by rw [List.length_take, Array.length_toList]; omega), List.take_take, Nat.min_eq_left (by omega), ← cellsP_take, ← ht, List.take_take, Nat.min_eq_left (by omega)]
    have e2 : cur1.toList.drop (i * 2 + 2) = cellsP (xs.drop i) ++ cur.toList.drop (i1 * 2 + (cellsP (xs.drop i)).length) := by
      rw [ht1, List.append_assoc, List.drop_append_of_le_length (by rw [List.length_take, Array.length_toList]; omega), List.drop_eq_nil_of_le (by rw [List.length_take]; omega), List.nil_append]
    rw [ht2, e1, List.length_cons, List.length_cons, List.length_nil, e2]
    have e3 : cellsP (xs.take i) ++ [.string p.f0, .string p.f1] ++ (cellsP (xs.drop i) ++ cur.toList.drop (i1 * 2 + (cellsP (xs.drop i)).length)) = cellsP (insP xs i p) ++ cur.toList.drop (i1 * 2 + (cellsP (xs.drop i)).length) := by
      unfold insP
      rw [cellsP_append, cellsP_cons]
      simp only [List.append_assoc, List.cons_append, List.nil_append]
    rw [e3, List.take_append_of_le_length (by rw [cellsP_len, insP_len p (by omega)]; omega), List.take_of_length_le (by rw [cellsP_len, insP_len p (by omega)]; omega)]
  have hil : (insP xs i p).length = N := by rw [insP_len p (by omega)]; omega
  have hR : Kd.R k25 25 W2 base (fun _ => True) (.slice (some ⟨g, 0, none⟩) (insP xs i p).length c) (insP xs i p) := R_mk hb hh2 (by omega) hc (by rw [hcs2, hcs1, hcs]) (by rw [hil]; exact hcon)
  have hov : ∀ lb cb, (callFunc 63 #[.slice (some ⟨vb, 0, none⟩) 1 1, .slice (some ⟨g, i1 * 2, none⟩) lb cb]).run Try.prog W = .ok (.value (.bool false)) W := fun lb cb => by
    rw [run_callFunc_extern Try.func63 (by kernel_rfl) (by kernel_rfl) (by kernel_rfl) (e := Extern.SlicesOverlaps.overlaps #[22, 22] #[4]) (by kernel_rfl), Lib.run_overlaps_apart W 22 4 25 Try.underlying22 2 Try.sizeOf25 ⟨vb, 0, none⟩ ⟨g, i1 * 2, none⟩ 1 1 lb cb hne 25 25 2 cur.size (by simp [World.shape?, hv]) (by simp [World.shape?, hh]) (by omega) (blk_frozen hv 0) (blk_frozen hv 2)]
    rfl
  rw [hil] at hR
  have HR := Aside0.mk hR
  have HG := Aside0.mk hg2
  have HIL := Aside0.mk hil
  have HC1 := Aside0.mk hcp1
  have HC2 := Aside0.mk hcp2
  have HOV := Aside0.mk hov
  clear hroom0 hnx hxn
  clear HO hs25 hi25 hz25 hzz hzb hsz ht ht1 ht2 hh hh1 hh2 hcs hcs1 hcs2 hg1 hg2 hv hv1 hcon hil hR hD hcp1 hcp2 hov hk hk2
  have hwr : IntKind.i64.wrap (i1 : Int) = (i1 : Int) := IntWalk.i64_in _ (by omega)
  have hz1 : ¬ ((i : Int) = (n : Int)) := by omega
  have hz2 : decide ((N : Int) > (c : Int)) = false := decide_eq_false (by omega)
  have hz3 : ((i : Int) == (n : Int)) = false := beq_false_of_ne hz1
  go_enter Try.func50, Try.ntmps50
  have hov := HOV.out
  go_upto_region 15 with (simp only [hov])
  clear hov
  go_region_law (first | (refine step_copy rfl (.tmp 73) (.tmp 76) 22 22 rfl (.slice (some ⟨g, i1 * 2, none⟩) (N - i1) (c - i1)) (.slice (some ⟨g, i * 2, none⟩) (N - i) (c - i)) (by simp [Act.eval, Act.put]) (by simp [Act.eval, Act.put]) HC1.out ?_))
  have hcp2 := HC2.out
  go_wp2
  go_ret
  exact ⟨some ⟨g, 0, none⟩, c, by rw [HIL.out]; rfl, by rw [HIL.out]; exact HR.out, HG.out⟩

end Go.Proofs.Ytjieagpfnnbiiaa.XLin
