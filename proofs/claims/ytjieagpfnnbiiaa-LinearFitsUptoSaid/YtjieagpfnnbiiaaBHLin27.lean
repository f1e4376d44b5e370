/- LinearFits: what it asks (plain), and rows. -/
import Derived.Test.YtjieagpfnnbiiaaBHLin26
namespace Go.Proofs.Ytjieagpfnnbiiaa.XLin
open Go Go.RowKit Go.Proofs.YtjieagpfnnbiiaaW.PrintWords Go.Proofs.YtjieagpfnnbiiaaW.PrintLast Go.Proofs.YtjieagpfnnbiiaaW.PrintMore
open Go.Proofs.Ytjieagpfnnbiiaa
set_option linter.unusedVariables false
set_option linter.unusedSimpArgs false
/-- Where calls are such as may be more freely, an order still fits. -/
theorem fits_mono {L L' : List S36} (hl : L.length ≤ L'.length) (hmay : ∀ j, j < L.length → mayP (L.getD j z36) = true → mayP (L'.getD j z36) = true) (hmust : ∀ j, j < L'.length → mustP (L'.getD j z36) = true → j < L.length ∧ mustP (L.getD j z36) = true)
    (hah : ∀ a b, a < L.length → b < L.length → aheadP (L.getD a z36) (L.getD b z36) = false → aheadP (L'.getD a z36) (L'.getD b z36) = false) (hth : ∀ j m, j < L.length → thenP m (L'.getD j z36) = thenP m (L.getD j z36)) :
    ∀ (rest pre : List Int) (m : List S25), (∀ n ∈ pre, 0 ≤ n ∧ n < (L.length : Int)) → fitsFrom L pre m rest = true → fitsFrom L' pre m rest = true
  | [], pre, m, hp, h => fits_nil.2 (fun n hn hmu => fits_nil.1 h n (hmust n hn hmu).1 (hmust n hn hmu).2)
  | n :: rest, pre, m, hp, h => by
    obtain ⟨h1, h2, h3, h4, h5, h6⟩ := fits_cons.1 h
    have hn : n.toNat < L.length := by omega
    refine fits_cons.2 ⟨by omega, hmay _ hn h2, h3, fun k hk => ?_, by rw [hth _ _ hn]; exact h5, ?_⟩
    · have := hp k hk
      exact hah _ _ hn (by omega) (h4 k hk)
    · rw [hth _ _ hn]
      refine fits_mono hl hmay hmust hah hth rest _ _ (fun k hk => ?_) h6
      rcases List.mem_append.1 hk with hk | hk
      · exact hp k hk
      · obtain rfl := List.mem_singleton.1 hk
        exact h1
theorem legal_mono {base : List S25} {L L' : List S36} {o : List Int} (hs : Small base) (h12 : L'.length ≤ 12) (hf : fitsP base L o = true) (hl : L.length ≤ L'.length) (hmay : ∀ j, j < L.length → mayP (L.getD j z36) = true → mayP (L'.getD j z36) = true) (hmust : ∀ j, j < L'.length → mustP (L'.getD j z36) = true → j < L.length ∧ mustP (L.getD j z36) = true)
    (hah : ∀ a b, a < L.length → b < L.length → aheadP (L.getD a z36) (L.getD b z36) = false → aheadP (L'.getD a z36) (L'.getD b z36) = false) (hth : ∀ j m, j < L.length → thenP m (L'.getD j z36) = thenP m (L.getD j z36)) : legalP base L' = true :=
  (legal_iff h12 hs).2 ⟨o, fits_mono hl hmay hmust hah hth o [] base (fun n hn => by cases hn) hf⟩
/-- An end put later. -/
theorem legal_late {base : List S25} {calls : List S32} {n : Nat} {z : Int} (hs : Small base) (hc : calls.length ≤ 9) (hn : n < (aloneP 0 base calls).1.length) (hz : ((aloneP 0 base calls).1.getD n z36).f2 ≤ z) : legalP base ((aloneP 0 base calls).1.set n { (aloneP 0 base calls).1.getD n z36 with f2 := z }) = true := by
  have hq := alone_seq base calls
  have hfit := alone_fits (base := base) (calls := calls)
  obtain ⟨l, hl⟩ : ∃ l, (aloneP 0 base calls).1 = l := ⟨_, rfl⟩
  rw [hl] at hn hz hq hfit ⊢
  have hll : l.length = calls.length := hq.1
  have hf2 := (hq.2 n (by omega)).2.2.1
  have hg : ∀ j, j < l.length → (l.set n { l.getD n z36 with f2 := z }).getD j z36 = if n = j then { l.getD n z36 with f2 := z } else l.getD j z36 := fun j hj => getD_set36 hj
  have hmu : mustP { l.getD n z36 with f2 := z } = mustP (l.getD n z36) := by
    unfold mustP
    rw [if_neg (show ¬ ({ l.getD n z36 with f2 := z } : S36).f2 < 0 by show ¬ z < 0; omega), if_neg (show ¬ (l.getD n z36).f2 < 0 by omega)]
  refine legal_mono hs (by rw [List.length_set]; omega) hfit (by rw [List.length_set]; exact Nat.le_refl _) (fun j hj h => ?_) (fun j hj h => ?_) (fun a b ha hb h => ?_) (fun j m hj => ?_)
  · rw [hg j hj]
    split
    · next e =>
      subst e
      unfold mayP at h ⊢
      rw [if_neg (by omega)] at h
      rw [if_neg (show ¬ ({ l.getD n z36 with f2 := z } : S36).f2 < 0 by show ¬ z < 0; omega), hmu]
      exact h
    · exact h
  · rw [List.length_set] at hj
    rw [hg j hj] at h
    refine ⟨hj, ?_⟩
    split at h
    · next e =>
      subst e
      rw [hmu] at h
      exact h
    · exact h
  · rw [hg a ha, hg b hb]
    have hb1 : (if n = b then ({ l.getD n z36 with f2 := z } : S36) else l.getD b z36).f1 = (l.getD b z36).f1 := by
      split
      · next e => subst e; rfl
      · rfl
    unfold aheadP at h ⊢
    rw [hb1]
    split
    · next e =>
      subst e
      show (if z ≥ 0 then decide (z < _) else false) = false
      split
      · rw [if_pos (by omega)] at h
        have := of_decide_eq_false h
        exact decide_eq_false (by omega)
      · rfl
    · exact h
  · rw [hg j hj]
    split
    · next e => subst e; rfl
    · rfl
/-- A write that never ended. -/
theorem legal_open {base : List S25} {calls : List S32} {n : Nat} (hs : Small base) (hc : calls.length ≤ 9) (hn : n < (aloneP 0 base calls).1.length) (h1 : ((aloneP 0 base calls).1.getD n z36).f0.f0 = 1) : legalP base ((aloneP 0 base calls).1.set n { (aloneP 0 base calls).1.getD n z36 with f2 := -1 }) = true := by
  have hq := alone_seq base calls
  have hfit := alone_fits (base := base) (calls := calls)
  obtain ⟨l, hl⟩ : ∃ l, (aloneP 0 base calls).1 = l := ⟨_, rfl⟩
  rw [hl] at hn h1 hq hfit ⊢
  have hll : l.length = calls.length := hq.1
  have hg : ∀ j, j < l.length → (l.set n { l.getD n z36 with f2 := -1 }).getD j z36 = if n = j then { l.getD n z36 with f2 := -1 } else l.getD j z36 := fun j hj => getD_set36 hj
  have hmu : mustP { l.getD n z36 with f2 := -1 } = false := by
    unfold mustP
    rw [if_pos (show ({ l.getD n z36 with f2 := -1 } : S36).f2 < 0 by show (-1 : Int) < 0; omega)]
  refine legal_mono hs (by rw [List.length_set]; omega) hfit (by rw [List.length_set]; exact Nat.le_refl _) (fun j hj h => ?_) (fun j hj h => ?_) (fun a b ha hb h => ?_) (fun j m hj => ?_)
  · rw [hg j hj]
    split
    · unfold mayP
      rw [if_pos (show ({ l.getD n z36 with f2 := -1 } : S36).f2 < 0 by show (-1 : Int) < 0; omega)]
      show ((l.getD n z36).f0.f0 == 1) = true
      rw [h1]
      rfl
    · exact h
  · rw [List.length_set] at hj
    rw [hg j hj] at h
    refine ⟨hj, ?_⟩
    split at h
    · rw [hmu] at h
      cases h
    · exact h
  · rw [hg a ha, hg b hb]
    have hb1 : (if n = b then ({ l.getD n z36 with f2 := -1 } : S36) else l.getD b z36).f1 = (l.getD b z36).f1 := by
      split
      · next e => subst e; rfl
      · rfl
    unfold aheadP at h ⊢
    rw [hb1]
    split
    · rw [if_neg (show ¬ ({ l.getD n z36 with f2 := -1 } : S36).f2 ≥ 0 by show ¬ (-1 : Int) ≥ 0; omega)]
    · exact h
  · rw [hg j hj]
    split
    · next e => subst e; rfl
    · rfl
theorem getD_app {l : List S36} {z : S36} {j : Nat} : (l ++ [z]).getD j z36 = if j < l.length then l.getD j z36 else if j = l.length then z else z36 := by
  rw [List.getD_eq_getElem?_getD, List.getElem?_append]
  split
  · rw [← List.getD_eq_getElem?_getD]
  · next h =>
    split
    · next e => subst e; simp
    · next e =>
      rw [List.getElem?_eq_none (by simp; omega)]
      rfl
/-- One more that told an error. -/
theorem legal_more {base : List S25} {calls : List S32} {z : S36} (hs : Small base) (hc : calls.length ≤ 9) (hz : mustP z = false) : legalP base ((aloneP 0 base calls).1 ++ [z]) = true := by
  have hfit := alone_fits (base := base) (calls := calls)
  have hll := aloneP_len calls 0 base
  obtain ⟨l, hl⟩ : ∃ l, (aloneP 0 base calls).1 = l := ⟨_, rfl⟩
  rw [hl] at hfit hll ⊢
  refine legal_mono hs (by rw [List.length_append, hll]; simp; omega) hfit (by rw [List.length_append]; omega) (fun j hj h => ?_) (fun j hj h => ?_) (fun a b ha hb h => ?_) (fun j m hj => ?_)
  · rw [getD_app, if_pos hj]; exact h
  · rw [getD_app] at h
    split at h
    · next hj2 => exact ⟨hj2, h⟩
    · split at h
      · rw [hz] at h; cases h
      · exact absurd h (by decide)
  · rw [getD_app, if_pos ha, getD_app, if_pos hb]; exact h
  · rw [getD_app, if_pos hj]
theorem musts_more (l : List S36) (z : S36) (hz : mustP z = false) : (orderP (l ++ [z])).length = (orderP l).length := by
  rw [orderP_len, orderP_len, List.length_append, List.length_singleton, mustsP_succ, getD_app, if_neg (Nat.lt_irrefl _), if_pos rfl, hz, if_neg (by decide)]
  unfold mustsP
  congr 2
  refine List.filter_congr (fun j hj => ?_)
  rw [List.mem_range] at hj
  rw [getD_app, if_pos hj]
/-- An end is written in one's own row. -/
theorem N_end {W : World} {base g n cap i : Nat} {ok : Nat → Prop} {l : List S36} {z : Int} (h : Kd.N k36 36 W base ok (.slice (some ⟨g, 0, none⟩) n cap) l) (hi : i < n) :
    Kd.N k36 36 (W.setCell ⟨g, i * 10 + 6, none⟩ (.int .i64 z)) base ok (.slice (some ⟨g, 0, none⟩) n cap) (l.set i { l.getD i z36 with f2 := z }) := by
  obtain ⟨c, hcl, hFK, hcc, _⟩ := Kd.N_elem h z36 (i : Int) (by omega) (by omega)
  rw [Int.toNat_natCast] at hFK hcc
  obtain ⟨A1, c1, B9, d9, e, l1, g1, l9, g9⟩ := k36_openF hFK
  have hM : Kd.FK k36 W (fun k => ok k ∧ k ≠ g) { l.getD i z36 with f2 := z } (c.take 6 ++ [.int .i64 z] ++ c.drop (6 + 1)) := by
    rw [e]
    exact k36_mkF W _ { l.getD i z36 with f2 := z } l1 g1 l9 g9
  have h2 := (Kd.N_seg h (i : Int) (by omega) (by omega) (c := c) (seg := [.int .i64 z]) (j := 6) (x' := { l.getD i z36 with f2 := z }) hcl (by rw [Int.toNat_natCast]; exact hcc) (by show 6 + 1 ≤ 10; omega) hM (fun k hk => hk)).1
  rw [Int.toNat_natCast] at h2
  exact h2
theorem N_ecell {W : World} {base g n cap i : Nat} {ok : Nat → Prop} {l : List S36} (h : Kd.N k36 36 W base ok (.slice (some ⟨g, 0, none⟩) n cap) l) (hi : i < n) : W.cell? ⟨g, i * 10 + 6, none⟩ = some (.int .i64 (l.getD i z36).f2) ∧ W.frozen? ⟨g, i * 10 + 6, none⟩ = false := by
  obtain ⟨c, hcl, hFK, hcc, hfr⟩ := Kd.N_elem h z36 (i : Int) (by omega) (by omega)
  rw [Int.toNat_natCast] at hFK hcc hfr
  have h10 : k36.sz = 10 := rfl
  rw [h10] at hcc hfr
  obtain ⟨A1, c1, B9, d9, e, _⟩ := k36_openF hFK
  refine ⟨hcc 6 _ ?_, hfr 6⟩
  rw [e]
  rfl
theorem end_ops {l : List S36} {n : Nat} {z : Int} (hn : n < l.length) (h : ∀ x ∈ l, opsN x ≤ 1000) : ∀ x ∈ l.set n { l.getD n z36 with f2 := z }, opsN x ≤ 1000 := by
  intro x hx
  rcases List.mem_or_eq_of_mem_set hx with h1 | h1
  · exact h x h1
  · subst h1
    have := h (l.getD n z36) (by rw [List.getD_eq_getElem?_getD, List.getElem?_eq_getElem hn]; exact List.getElem_mem hn)
    exact this

end Go.Proofs.Ytjieagpfnnbiiaa.XLin
