/- Calls one behind the other (plain). -/
import Derived.Test.YtjieagpfnnbiiaaBHLin19
import Derived.Test.YtjieagpfnnbiiaaBHLin15
namespace Go.Proofs.Ytjieagpfnnbiiaa.XLin
open Go Go.RowKit Go.Proofs.YtjieagpfnnbiiaaW.PrintWords Go.Proofs.YtjieagpfnnbiiaaW.PrintLast Go.Proofs.YtjieagpfnnbiiaaW.PrintMore
open Go.Proofs.Ytjieagpfnnbiiaa
set_option linter.unusedVariables false
set_option linter.unusedSimpArgs false
/-- The map behind a call. -/
def stepM (m : List S25) (c : S32) : List S25 := if c.f0 = 1 then applyP m c.f1 else m
def mapAt (base : List S25) (calls : List S32) (j : Nat) : List S25 := (calls.take j).foldl stepM base
theorem mapAt_succ {base : List S25} {calls : List S32} {j : Nat} (h : j < calls.length) : mapAt base calls (j + 1) = stepM (mapAt base calls j) (calls.getD j z32) := by
  unfold mapAt
  rw [List.take_succ_eq_append_getElem h, List.foldl_append, List.getD_eq_getElem?_getD, List.getElem?_eq_getElem h]
  rfl
theorem alone_get : ∀ (calls : List S32) (i : Nat) (m : List S25) (j : Nat), j < calls.length → (aloneP i m calls).1.getD j z36 = ⟨calls.getD j z32, 2 * ((i + j : Nat) : Int), 2 * ((i + j : Nat) : Int) + 1, 0, ((i + j : Nat) : Int), tells (mapAt m calls j) (calls.getD j z32)⟩
  | [], _, _, _, h => by simp at h
  | c :: cs, i, m, 0, _ => rfl
  | c :: cs, i, m, j + 1, h => by
    have h1 := alone_get cs (i + 1) (stepM m c) j (by simpa using h)
    have e : (i + 1 + j : Nat) = i + (j + 1) := by omega
    rw [e] at h1
    exact h1
/-- A history of calls one behind the other: what is told, whatever. -/
def SeqHist (calls : List S32) (L : List S36) : Prop := L.length = calls.length ∧ ∀ j, j < calls.length → (L.getD j z36).f0 = calls.getD j z32 ∧ (L.getD j z36).f1 = 2 * (j : Int) ∧ (L.getD j z36).f2 = 2 * (j : Int) + 1 ∧ (L.getD j z36).f3 = 0
theorem alone_seq (base : List S25) (calls : List S32) : SeqHist calls (aloneP 0 base calls).1 := by
  refine ⟨aloneP_len calls 0 base, fun j hj => ?_⟩
  rw [alone_get calls 0 base j hj, Nat.zero_add]
  exact ⟨rfl, rfl, rfl, rfl⟩
def kindP (x : S36) : Bool := if x.f0.f0 ≥ 1 then decide (x.f0.f0 ≤ 3) else false
theorem SeqHist.must {calls : List S32} {L : List S36} (h : SeqHist calls L) {j : Nat} (hj : j < L.length) : mustP (L.getD j z36) = kindP (L.getD j z36) := by
  obtain ⟨h0, h1, h2, h3⟩ := h.2 j (by rw [← h.1]; exact hj)
  unfold mustP kindP
  rw [if_neg (by omega), if_pos h3]
theorem SeqHist.may {calls : List S32} {L : List S36} (h : SeqHist calls L) {j : Nat} (hj : j < L.length) : mayP (L.getD j z36) = kindP (L.getD j z36) := by
  obtain ⟨h0, h1, h2, h3⟩ := h.2 j (by rw [← h.1]; exact hj)
  unfold mayP
  rw [if_neg (by omega)]
  exact h.must hj
theorem SeqHist.ahead {calls : List S32} {L : List S36} (h : SeqHist calls L) {j k : Nat} (hj : j < L.length) (hk : k < L.length) : aheadP (L.getD j z36) (L.getD k z36) = decide (j < k) := by
  obtain ⟨_, _, h2, _⟩ := h.2 j (by rw [← h.1]; exact hj)
  obtain ⟨_, h1, _, _⟩ := h.2 k (by rw [← h.1]; exact hk)
  unfold aheadP
  rw [if_pos (by omega), h2, h1]
  by_cases e : j < k
  · rw [decide_eq_true e]
    exact decide_eq_true (by omega)
  · rw [decide_eq_false e]
    exact decide_eq_false (by omega)
/-- The order of those that count, as far as a place. -/
def ordP (L : List S36) (i : Nat) : List Int := ((List.range i).filter (fun j => kindP (L.getD j z36))).map (fun j : Nat => (j : Int))
theorem ordP_succ (L : List S36) (i : Nat) : ordP L (i + 1) = if kindP (L.getD i z36) = true then ordP L i ++ [(i : Int)] else ordP L i := by
  unfold ordP
  rw [List.range_succ, List.filter_append, List.map_append]
  split
  · next h => simp only [List.filter_cons, h, List.filter_nil, if_true, List.map_cons, List.map_nil]
  · next h => simp only [List.filter_cons, h, List.filter_nil, Bool.false_eq_true, if_false, List.map_nil, List.append_nil]
theorem mem_ordP {L : List S36} {i : Nat} {n : Int} : n ∈ ordP L i ↔ ∃ j : Nat, n = (j : Int) ∧ j < i ∧ kindP (L.getD j z36) = true := by
  unfold ordP
  rw [List.mem_map]
  constructor
  · rintro ⟨j, hj, rfl⟩
    rw [List.mem_filter, List.mem_range] at hj
    exact ⟨j, rfl, hj.1, hj.2⟩
  · rintro ⟨j, rfl, h1, h2⟩
    exact ⟨j, by rw [List.mem_filter, List.mem_range]; exact ⟨h1, h2⟩, rfl⟩
theorem thenP_map {m : List S25} {x : S36} : (thenP m x).1 = stepM m x.f0 := by
  unfold thenP stepM
  split <;> rfl
theorem stepM_no {m : List S25} {x : S36} (h : kindP x = false) : stepM m x.f0 = m := by
  unfold stepM
  rw [if_neg]
  intro e
  unfold kindP at h
  rw [if_pos (by omega), e] at h
  exact absurd h (by decide)
/-- .. and the other way. -/
theorem seq_fits {calls : List S32} {L : List S36} {base : List S25} (hs : SeqHist calls L) (ht : ∀ j, j < L.length → kindP (L.getD j z36) = true → (thenP (mapAt base calls j) (L.getD j z36)).2 = true) : ∀ (d i : Nat), i + d = L.length →
    fitsFrom L (ordP L i) (mapAt base calls i) (((List.range' i d).filter (fun j => kindP (L.getD j z36))).map (fun j : Nat => (j : Int))) = true
  | 0, i, hd => fits_nil.2 (fun n hn hmu => mem_ordP.2 ⟨n, rfl, by omega, by rw [← hs.must hn]; exact hmu⟩)
  | d + 1, i, hd => by
    have hi : i < L.length := by omega
    have hic : i < calls.length := by rw [← hs.1]; exact hi
    have hst := mapAt_succ (base := base) hic
    have hf0 := (hs.2 i hic).1
    rw [← hf0] at hst
    have ih := seq_fits hs ht d (i + 1) (by omega)
    rw [List.range'_succ, List.filter_cons]
    cases hk : kindP (L.getD i z36) with
    | false =>
      have e1 : ordP L (i + 1) = ordP L i := by rw [ordP_succ, hk]; rfl
      have e2 : mapAt base calls (i + 1) = mapAt base calls i := hst.trans (stepM_no hk)
      rw [e1, e2] at ih
      exact ih
    | true =>
      have e1 : ordP L (i + 1) = ordP L i ++ [(i : Int)] := by rw [ordP_succ, hk]; rfl
      have e2 : mapAt base calls (i + 1) = (thenP (mapAt base calls i) (L.getD i z36)).1 := hst.trans thenP_map.symm
      rw [e1, e2] at ih
      rw [if_pos rfl, List.map_cons]
      refine fits_cons.2 ⟨by omega, by rw [Int.toNat_natCast, hs.may hi, hk], fun q => ?_, fun b hb => ?_, by rw [Int.toNat_natCast]; exact ht i hi hk, by rw [Int.toNat_natCast]; exact ih⟩
      · obtain ⟨j, e, hj, _⟩ := mem_ordP.1 q
        omega
      · obtain ⟨j, rfl, hj, _⟩ := mem_ordP.1 hb
        rw [Int.toNat_natCast, Int.toNat_natCast, hs.ahead hi (by omega)]
        exact decide_eq_false (by omega)
theorem ordP_all (L : List S36) (n : Nat) : ordP L n = (((List.range' 0 n).filter (fun j => kindP (L.getD j z36))).map (fun j : Nat => (j : Int))) := by
  unfold ordP
  rw [List.range_eq_range']
theorem seq_fitsP {calls : List S32} {L : List S36} {base : List S25} (hs : SeqHist calls L) (ht : ∀ j, j < L.length → kindP (L.getD j z36) = true → (thenP (mapAt base calls j) (L.getD j z36)).2 = true) : fitsP base L (ordP L L.length) = true := by
  have := seq_fits hs ht L.length 0 (by omega)
  rw [← ordP_all] at this
  exact this
theorem eqPairs_iff : ∀ (a b : List S25), eqPairs a b = true ↔ a = b
  | [], [] => by simp [eqPairs]
  | [], q :: b => by simp [eqPairs]
  | p :: a, [] => by simp [eqPairs]
  | p :: a, q :: b => by
    unfold eqPairs
    rw [Bool.and_eq_true, Bool.and_eq_true, beq_iff_eq, beq_iff_eq, eqPairs_iff a b, List.cons.injEq]
    constructor
    · rintro ⟨⟨h1, h2⟩, h3⟩
      refine ⟨?_, h3⟩
      cases p
      cases q
      simp only at h1 h2
      rw [ByteArray.toList_eq, ByteArray.toList_eq] at h1 h2
      rw [bytes_eq h1, bytes_eq h2]
    · rintro ⟨rfl, h3⟩
      exact ⟨⟨rfl, rfl⟩, h3⟩
/-- What the map tells is told. -/
theorem tells_told (m : List S25) (x : S36) (hk : kindP x = true) (h : x.f5 = tells m x.f0) : (thenP m x).2 = true := by
  unfold thenP
  split
  · rfl
  · next h1 =>
    show toldP m x = true
    unfold tells at h
    unfold toldP
    by_cases h3 : x.f0.f0 = 3
    · rw [if_pos h3, eqPairs_iff, h, if_neg (by omega), if_pos h3]
    · rw [if_neg h3]
      have h2 : x.f0.f0 = 2 := by
        unfold kindP at hk
        split at hk
        · have := of_decide_eq_true hk
          omega
        · cases hk
      rw [if_pos h2] at h
      cases hg : getP m x.f0.f2 with
      | none =>
        rw [hg] at h
        unfold toldG
        rw [h]
        rfl
      | some v =>
        rw [hg] at h
        unfold toldG
        rw [eqPairs_iff, h]
section
variable {base : List S25} {calls : List S32}
theorem alone_told (j : Nat) (hj : j < (aloneP 0 base calls).1.length) (hk : kindP ((aloneP 0 base calls).1.getD j z36) = true) : (thenP (mapAt base calls j) ((aloneP 0 base calls).1.getD j z36)).2 = true := by
  rw [aloneP_len] at hj
  refine tells_told _ _ hk ?_
  rw [alone_get calls 0 base j hj]
theorem alone_fits : fitsP base (aloneP 0 base calls).1 (ordP (aloneP 0 base calls).1 (aloneP 0 base calls).1.length) = true := seq_fitsP (alone_seq base calls) alone_told
theorem getD_set36 {l : List S36} {n k : Nat} {x : S36} (hk : k < l.length) : (l.set n x).getD k z36 = if n = k then x else l.getD k z36 := by
  rw [List.getD_eq_getElem?_getD, List.getD_eq_getElem?_getD, List.getElem?_set]
  split
  · next h =>
    subst h
    rw [if_pos hk]
    rfl
  · rfl
end

end Go.Proofs.Ytjieagpfnnbiiaa.XLin
