/- LinearAlone: what it asks (plain), and rows. -/
import Derived.Test.YtjieagpfnnbiiaaAHLin20
import Derived.Test.YtjieagpfnnbiiaaAHLin17
namespace Go.Proofs.Ytjieagpfnnbiiaa.XLin
open Go Go.RowKit Go.Proofs.YtjieagpfnnbiiaaW.PrintWords Go.Proofs.YtjieagpfnnbiiaaW.PrintLast Go.Proofs.YtjieagpfnnbiiaaW.PrintMore
open Go.Proofs.Ytjieagpfnnbiiaa
set_option linter.unusedVariables false
set_option linter.unusedSimpArgs false
/-- A call of which nothing is told yet. -/
def dOf (c : S32) : S36 := ⟨c, 0, 0, 0, 0, []⟩
theorem rightG_small : ∀ (m : List S25) (k : Option ByteArray), rightG k m = true → Small m
  | [], _, _ => fun p hp => by cases hp
  | p :: m, none, h => by
    rw [rightG_none, Bool.and_eq_true] at h
    intro q hq
    rcases List.mem_cons.1 hq with rfl | hq
    · exact opOk_small h.1
    · exact rightG_small m _ h.2 q hq
  | p :: m, some k, h => by
    rw [rightG_some, Bool.and_eq_true, Bool.and_eq_true] at h
    intro q hq
    rcases List.mem_cons.1 hq with rfl | hq
    · exact opOk_small h.1
    · exact rightG_small m _ h.2.2 q hq
theorem may_facts {base : List S25} {l : List S36} {most : Int} (h : mayAll base l most = true) : Small base ∧ (base.length : Int) ≤ 20 ∧ (l.length : Int) ≤ most ∧ ∀ x ∈ l, x.f0.f0 = 1 → x.f0.f1.length ≤ 32 := by
  unfold mayAll at h
  simp only [Bool.and_eq_true, Bool.not_eq_true', decide_eq_true_eq] at h
  obtain ⟨h1, ⟨h2, h3⟩, h4⟩ := h
  refine ⟨rightG_small _ _ h3, h4, h2, fun x hx h0 => ?_⟩
  have hb := List.any_eq_false.1 h1 x hx
  unfold badOne at hb
  simp only [Bool.or_eq_true, not_or, Bool.and_eq_true, Bool.not_eq_true', not_and] at hb
  have hr := hb.1.1.1.1.1 (by rw [h0]; rfl)
  have hr : rightP x.f0.f1 = true := by simpa using hr
  unfold rightP at hr
  simp only [Bool.and_eq_true, decide_eq_true_eq] at hr
  exact hr.1.2
theorem alone_ops {base : List S25} {calls : List S32} (h : ∀ c ∈ calls, c.f0 = 1 → c.f1.length ≤ 32) : ∀ x ∈ (aloneP 0 base calls).1, opsN x ≤ 1000 := by
  intro x hx
  obtain ⟨j, hj, rfl⟩ := List.getElem_of_mem hx
  have hjc : j < calls.length := by rw [aloneP_len] at hj; exact hj
  have hg := alone_get calls 0 base j hjc
  rw [List.getD_eq_getElem?_getD, List.getElem?_eq_getElem hj] at hg
  have hg : (aloneP 0 base calls).1[j] = _ := hg
  unfold opsN
  split
  · next h0 =>
    rw [hg] at h0 ⊢
    have := h (calls.getD j z32) (by rw [List.getD_eq_getElem?_getD, List.getElem?_eq_getElem hjc]; exact List.getElem_mem hjc) h0
    have h9 : (calls.getD j z32).f1.length ≤ 1000 := by omega
    exact h9
  · exact Nat.zero_le _
theorem set_ops {l : List S36} {n : Nat} {p : List S25} (hn : n < l.length) (h : ∀ x ∈ l, opsN x ≤ 1000) : ∀ x ∈ l.set n { l.getD n z36 with f5 := p }, opsN x ≤ 1000 := by
  intro x hx
  rcases List.mem_or_eq_of_mem_set hx with h1 | h1
  · exact h x h1
  · subst h1
    have := h (l.getD n z36) (by rw [List.getD_eq_getElem?_getD, List.getElem?_eq_getElem hn]; exact List.getElem_mem hn)
    exact this
def swapP (o : List Int) (k : Nat) : List Int := (o.set k (o.getD (k + 1) 0)).set (k + 1) (o.getD k 0)
theorem swapP_len (o : List Int) (k : Nat) : (swapP o k).length = o.length := by unfold swapP; rw [List.length_set, List.length_set]
theorem swap_ne {o : List Int} {k : Nat} (hn : o.Nodup) (hk : k + 1 < o.length) : swapP o k ≠ o := by
  intro e
  have h1 := congrArg (fun l : List Int => l.getD (k + 1) 0) e
  unfold swapP at h1
  simp only [List.getD_eq_getElem?_getD] at h1
  rw [List.getElem?_set_self (by rw [List.length_set]; exact hk), List.getElem?_eq_getElem hk, List.getElem?_eq_getElem (show k < o.length by omega)] at h1
  have h2 : o[k] = o[k + 1] := h1
  have h3 := (List.getElem_inj hn).1 h2
  omega
section
variable {base : List S25} {calls : List S32}
theorem alone_nodup : (ordP (aloneP 0 base calls).1 (aloneP 0 base calls).1.length).Nodup := (fits_facts _ _ _ _ (alone_fits (base := base) (calls := calls))).2.1
/-- All that the law asks. -/
structure Asks (base : List S25) (calls : List S32) (l : List S36) (o : List Int) : Prop where
  len : l.length = calls.length
  fits : fitsP base l o = true
  legal : legalP base l = true
  other : ∀ o', o' ≠ o → fitsP base l o' = false
  nodup : o.Nodup
  mem : ∀ n ∈ o, ∃ j : Nat, n = (j : Int) ∧ j < l.length ∧ kindP (l.getD j z36) = true
  wrong : ∀ n, n < l.length → kindP (l.getD n z36) = true → (l.getD n z36).f0.f0 ≠ 1 → ∀ p, p ≠ (l.getD n z36).f5 → legalP base (l.set n { l.getD n z36 with f5 := p }) = false
theorem asks (hc : calls.length ≤ 9) (hs : Small base) : Asks base calls (aloneP 0 base calls).1 (ordP (aloneP 0 base calls).1 (aloneP 0 base calls).1.length) := by
  have hl := aloneP_len calls 0 base
  refine ⟨hl, alone_fits, (legal_iff (by omega) hs).2 ⟨_, alone_fits⟩, fun o' h => alone_one h, alone_nodup, fun n hn => ?_, fun n hn hk h1 p hp => ?_⟩
  · obtain ⟨j, e, h1, h2⟩ := mem_ordP.1 hn
    exact ⟨j, e, h1, h2⟩
  · cases hg : legalP base ((aloneP 0 base calls).1.set n { (aloneP 0 base calls).1.getD n z36 with f5 := p }) with
    | false => rfl
    | true =>
      obtain ⟨o, ho⟩ := (legal_iff (by rw [List.length_set]; omega) hs).1 hg
      rw [alone_wrong hn hk h1 hp o] at ho
      cases ho
end
theorem infoI64 : (Try.prog.info? 3).map (fun i => (i.zero, i.size, i.bytes)) = some (some (.int .i64 0), 1, 8) := by kernel_rfl
theorem heap36 : Kd.Heap k36 := Kd.heap_iso _ (Kd.heap_pair (Kd.heap_iso _ (Kd.heap_pair (Kd.heap_int _) (Kd.heap_pair (Kd.heap_slice 71 heap71) (Kd.heap_pair Kd.heap_string (Kd.heap_pair Kd.heap_string (Kd.heap_int _)))))) (Kd.heap_pair (Kd.heap_int _) (Kd.heap_pair (Kd.heap_int _) (Kd.heap_pair (Kd.heap_int _) (Kd.heap_pair (Kd.heap_int _) (Kd.heap_slice 25 heap25))))))
theorem arg_F36 {w W : World} {A : Option Addr} {n : Nat} {xs : List S36} (hC : Kd.C k36 w A n xs) (hb : Below w.heap.size w W) : Kd.F k36 W (fun k => k < w.heap.size) A n xs := fun W' hW =>
  heap36.C (fun q hq => (hW q hq (Nat.lt_of_lt_of_le hq hb.size)).trans (hb.block q hq)) hC
/-- What a call of one's own row is told is written. -/
theorem N_pairs {W : World} {base g n cap i : Nat} {ok : Nat → Prop} {l : List S36} {A9 : Option Addr} {c9 : Nat} {p : List S25} (h : Kd.N k36 36 W base ok (.slice (some ⟨g, 0, none⟩) n cap) l) (hi : i < n) (hf : Kd.F k25 W (fun k => ok k ∧ k ≠ g) A9 p.length p) (hc : p.length ≤ c9) :
    Kd.N k36 36 (W.setCell ⟨g, i * 10 + 9, none⟩ (.slice A9 p.length c9)) base ok (.slice (some ⟨g, 0, none⟩) n cap) (l.set i { l.getD i z36 with f5 := p }) := by
  obtain ⟨c, hcl, hFK, hcc, _⟩ := Kd.N_elem h z36 (i : Int) (by omega) (by omega)
  rw [Int.toNat_natCast] at hFK hcc
  obtain ⟨A1, c1, B9, d9, e, l1, g1, l9, g9⟩ := k36_openF hFK
  have hM : Kd.FK k36 W (fun k => ok k ∧ k ≠ g) { l.getD i z36 with f5 := p } (c.take 9 ++ [.slice A9 p.length c9] ++ c.drop (9 + 1)) := by
    rw [e]
    exact k36_mkF W _ { l.getD i z36 with f5 := p } l1 g1 hc hf
  have h2 := (Kd.N_seg h (i : Int) (by omega) (by omega) (c := c) (seg := [.slice A9 p.length c9]) (j := 9) (x' := { l.getD i z36 with f5 := p }) hcl (by rw [Int.toNat_natCast]; exact hcc) (Nat.le_refl 10) hM (fun k hk => hk)).1
  rw [Int.toNat_natCast] at h2
  exact h2
theorem N_pcell {W : World} {base g n cap i : Nat} {ok : Nat → Prop} {l : List S36} (h : Kd.N k36 36 W base ok (.slice (some ⟨g, 0, none⟩) n cap) l) (hi : i < n) : ∃ v, W.cell? ⟨g, i * 10 + 9, none⟩ = some v ∧ W.frozen? ⟨g, i * 10 + 9, none⟩ = false := by
  obtain ⟨c, hcl, hFK, hcc, hfr⟩ := Kd.N_elem h z36 (i : Int) (by omega) (by omega)
  rw [Int.toNat_natCast] at hcc hfr
  have h10 : k36.sz = 10 := rfl
  rw [h10] at hcl hcc hfr
  exact ⟨_, hcc 9 _ (List.getElem?_eq_getElem (by omega)), hfr 9⟩

end Go.Proofs.Ytjieagpfnnbiiaa.XLin
