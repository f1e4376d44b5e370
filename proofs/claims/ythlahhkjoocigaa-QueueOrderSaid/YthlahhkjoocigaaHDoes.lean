/- The plain law of layer 21, second text: what the statements do with a line, and what holds of it whatever was done. No program's code in sight. -/
import Derived.Test.YthlahhkjoocigaaHQueue
namespace Go.Proofs.Ythlahhkjoocigaa.XQueue
open Go Go.RowKit Go.Proofs.YthlahhkjoocigaaW.PrintWords Go.Proofs.YthlahhkjoocigaaW.PrintLast
set_option linter.unusedVariables false
set_option linter.unusedSimpArgs false
/-! ### What the statements do with a line -/
/-- Behind an end the first one that waits leads. -/
def leadL : List S65 → List S65
  | [] => []
  | x :: xs => { x with f4 := 1 } :: xs
def grpN (L : List S65) (g m r : Int) : Nat := if g > 0 then 0 else fits m r 0 0 L
/-- What an op does: kinds 0 to 7. -/
def doesP (L D : List S65) (g W a1 a2 a4 a5 last m r : Int) : List S65 × List S65 × Int × Int × List Int :=
  if W < 3 then (joinP L D (tsk a1) (opn a2) (ned a4), D, g, last, [])
  else if W < 5 then (if grpN L g m r = 0 then (L, D, g, last, []) else ((giveL (grpN L g m r) last L).1, D, (grpN L g m r : Int), (giveL (grpN L g m r) last L).2, []))
  else if W = 5 then (updN sayApply g.toNat L, D, g, last, (L.take g.toNat).map S65.f0)
  else if W = 6 then (if g = 0 then (L, D, 0, last, []) else (leadL (L.drop g.toNat), D ++ (L.take g.toNat).map (sayDone a5), 0, last, (L.take g.toNat).map S65.f0 ++ ((L.drop g.toNat).take 1).map S65.f0))
  else (L, (if atIdx (tsk a1) D 0 < 0 then D else D.eraseIdx (atIdx (tsk a1) D 0).toNat), g, last, [])

/-- What holds of a line, whatever was done. -/
structure Inv (n : Nat) (L D : List S65) (g : Int) : Prop where
  fine : Fine L
  len : L.length + D.length ≤ n
  g0 : 0 ≤ g
  g1 : g ≤ L.length
  says : (∀ i, i < L.length → (L.getD i z65).f4 = if i = 0 then 1 else 0) ∨ (0 < g ∧ ∀ i, i < L.length → (L.getD i z65).f4 = if (i : Int) < g then 2 else 0)
  nod : ((L ++ D).map S65.f0).Nodup
  rng : ∀ x ∈ L ++ D, 0 ≤ x.f0 ∧ x.f0 < 20

theorem inv0 : Inv 0 [] [] 0 := ⟨fun m h => (by cases h), Nat.le_refl _, by omega, by simp, .inl (fun i h => (by simp at h)), List.nodup_nil, fun x h => (by cases h)⟩
theorem Inv.more {n n' : Nat} {L D : List S65} {g : Int} (h : Inv n L D g) (hn : n ≤ n') : Inv n' L D g := ⟨h.fine, Nat.le_trans h.len hn, h.g0, h.g1, h.says, h.nod, h.rng⟩
theorem giveL_f0 : ∀ (n : Nat) (last : Int) (l : List S65), (giveL n last l).1.map S65.f0 = l.map S65.f0
  | 0, _, _ => rfl
  | _ + 1, _, [] => rfl
  | n + 1, last, m :: ms => by simp [giveL, giveL_f0 n]
theorem giveL_f4 : ∀ (n : Nat) (last : Int) (l : List S65) (i : Nat), ((giveL n last l).1.getD i z65).f4 = (l.getD i z65).f4
  | 0, _, _, _ => rfl
  | _ + 1, _, [], _ => rfl
  | n + 1, last, m :: ms, 0 => rfl
  | n + 1, last, m :: ms, i + 1 => by simpa [giveL] using giveL_f4 n _ ms i
theorem giveL_fine : ∀ (n : Nat) (last : Int) (l : List S65), Fine l → Fine (giveL n last l).1
  | 0, _, _, h => h
  | _ + 1, _, [], h => h
  | n + 1, last, m :: ms, h => by
    intro x hx
    simp only [giveL, List.mem_cons] at hx
    rcases hx with hx | hx
    · subst hx; exact h m List.mem_cons_self
    · exact giveL_fine n _ ms (fun y hy => h y (List.mem_cons_of_mem _ hy)) x hx
theorem rng_f0 {L D : List S65} (h : ∀ x ∈ L ++ D, 0 ≤ x.f0 ∧ x.f0 < 20) {L' D' : List S65} (hs : ∀ t ∈ (L' ++ D').map S65.f0, t ∈ (L ++ D).map S65.f0) : ∀ x ∈ L' ++ D', 0 ≤ x.f0 ∧ x.f0 < 20 := by
  intro x hx
  obtain ⟨y, hy, e⟩ := List.mem_map.1 (hs x.f0 (List.mem_map_of_mem hx))
  rw [← e]
  exact h y hy
theorem updN_f0 (n : Nat) (L : List S65) : (updN sayApply n L).map S65.f0 = L.map S65.f0 := by
  unfold updN
  rw [List.map_append, List.map_map]
  conv => rhs; rw [← List.take_append_drop n L, List.map_append]
  rfl
theorem updN_get (up : S65 → S65) : ∀ (n : Nat) (L : List S65) (i : Nat), i < L.length → (updN up n L).getD i z65 = if i < n then up (L.getD i z65) else L.getD i z65
  | 0, L, i, h => by simp [updN]
  | n + 1, [], i, h => by simp at h
  | n + 1, x :: xs, 0, h => by simp [updN]
  | n + 1, x :: xs, i + 1, h => by
    have := updN_get up n xs i (by simpa using h)
    simp only [updN, List.take_succ_cons, List.map_cons, List.drop_succ_cons, List.cons_append, List.getD_cons_succ] at this ⊢
    rw [this]
    by_cases hh : i < n
    · rw [if_pos hh, if_pos (by omega)]
    · rw [if_neg hh, if_neg (by omega)]
theorem getD_drop65 (L : List S65) (n i : Nat) : (L.drop n).getD i z65 = L.getD (n + i) z65 := by simp [List.getD_eq_getElem?_getD, List.getElem?_drop]
theorem leadL_f0 (L : List S65) : (leadL L).map S65.f0 = L.map S65.f0 := by cases L <;> rfl
theorem leadL_len (L : List S65) : (leadL L).length = L.length := by cases L <;> rfl
theorem done_f0 (a : Int) (L : List S65) : (L.map (sayDone a)).map S65.f0 = L.map S65.f0 := by rw [List.map_map]; rfl
theorem getD_mem65 {L : List S65} {i : Nat} (h : i < L.length) : L.getD i z65 ∈ L := by
  rw [List.getD_eq_getElem?_getD, List.getElem?_eq_getElem h]
  exact List.getElem_mem _

theorem inv_step {n : Nat} {L D : List S65} {g : Int} (h : Inv n L D g) (W a1 a2 a4 a5 last m r : Int) (ht0 : -9223372036854775808 ≤ a1) (ht1 : a1 ≤ 9223372036854775807) (h4 : 0 ≤ a4) (L' D' : List S65) (g' last' : Int) (ts : List Int)
    (hd : doesP L D g W a1 a2 a4 a5 last m r = (L', D', g', last', ts)) : Inv (n + 1) L' D' g' := by
  unfold doesP at hd
  have hk := h.len
  by_cases c1 : W < 3
  · rw [if_pos c1] at hd
    obtain ⟨rfl, rfl, rfl, -, -⟩ : joinP L D (tsk a1) (opn a2) (ned a4) = L' ∧ D = D' ∧ g = g' ∧ last = last' ∧ [] = ts := by simpa using hd
    unfold joinP
    by_cases hi : (ofP L D (tsk a1)).2 = true
    · rw [if_pos hi]; exact h.more (by omega)
    · rw [if_neg hi]
      have hno : ∀ x ∈ L ++ D, x.f0 ≠ tsk a1 := fun x hx e => hi ((of_in L D (tsk a1)).2 ⟨x, hx, e⟩)
      have htsk : 0 ≤ tsk a1 ∧ tsk a1 < 20 := does_task a1 ht0 ht1
      refine ⟨?_, by simp; omega, h.g0, by have := h.g1; simp; omega, ?_, ?_, ?_⟩
      · intro x hx
        rcases List.mem_append.1 hx with hx | hx
        · exact h.fine x hx
        · rw [List.mem_singleton.1 hx]; exact ⟨opn_in a2, ned_in a4 h4⟩
      · by_cases hl : L.length = 0
        · obtain rfl : L = [] := List.eq_nil_of_length_eq_zero hl
          refine .inl (fun i hi => ?_)
          obtain rfl : i = 0 := by simp at hi; omega
          rfl
        · rcases h.says with hs | ⟨hg, hs⟩
          · refine .inl (fun i hi => ?_)
            by_cases hii : i < L.length
            · rw [List.getD_eq_getElem?_getD, List.getElem?_append_left hii, ← List.getD_eq_getElem?_getD]; exact hs i hii
            · obtain rfl : i = L.length := by simp at hi; omega
              rw [if_neg hl]
              simp [List.getD_eq_getElem?_getD]
          · refine .inr ⟨hg, fun i hi => ?_⟩
            by_cases hii : i < L.length
            · rw [List.getD_eq_getElem?_getD, List.getElem?_append_left hii, ← List.getD_eq_getElem?_getD]; exact hs i hii
            · obtain rfl : i = L.length := by simp at hi; omega
              have := h.g1
              rw [if_neg (by omega)]
              simp [List.getD_eq_getElem?_getD]; omega
      · have hp : (L ++ [(⟨tsk a1, opn a2, ned a4, 0, if L.length = 0 then 1 else 0, 0⟩ : S65)] ++ D).Perm ((⟨tsk a1, opn a2, ned a4, 0, if L.length = 0 then 1 else 0, 0⟩ : S65) :: (L ++ D)) := by
          rw [List.append_assoc]
          exact List.perm_middle
        rw [(hp.map S65.f0).nodup_iff, List.map_cons, List.nodup_cons]
        refine ⟨fun hm => ?_, h.nod⟩
        obtain ⟨y, hy, e⟩ := List.mem_map.1 hm
        exact hno y hy e
      · intro x hx
        rw [List.append_assoc] at hx
        rcases List.mem_append.1 hx with hx | hx
        · exact h.rng x (List.mem_append_left _ hx)
        · rcases List.mem_append.1 hx with hx | hx
          · rw [List.mem_singleton.1 hx]; exact htsk
          · exact h.rng x (List.mem_append_right _ hx)
  · rw [if_neg c1] at hd
    by_cases c2 : W < 5
    · rw [if_pos c2] at hd
      by_cases hz : grpN L g m r = 0
      · rw [if_pos hz] at hd
        obtain ⟨rfl, rfl, rfl, -, -⟩ : L = L' ∧ D = D' ∧ g = g' ∧ last = last' ∧ [] = ts := by simpa using hd
        exact h.more (by omega)
      · rw [if_neg hz] at hd
        obtain ⟨rfl, rfl, rfl, -, -⟩ : (giveL (grpN L g m r) last L).1 = L' ∧ D = D' ∧ (grpN L g m r : Int) = g' ∧ (giveL (grpN L g m r) last L).2 = last' ∧ [] = ts := by simpa using hd
        have hg : g = 0 := by
          unfold grpN at hz
          by_cases hg : g > 0
          · rw [if_pos hg] at hz; exact absurd rfl hz
          · have := h.g0; omega
        have hgn : grpN L g m r ≤ L.length := by
          unfold grpN
          split
          · omega
          · exact fits_le _ _ _ _ _
        refine ⟨giveL_fine _ _ _ h.fine, by rw [giveL_len]; omega, by omega, by rw [giveL_len]; omega, ?_, ?_, rng_f0 h.rng ?_⟩
        · rcases h.says with hs | ⟨hgg, hs⟩
          · refine .inl (fun i hi => ?_)
            rw [giveL_f4]
            rw [giveL_len] at hi
            exact hs i hi
          · omega
        · rw [List.map_append, giveL_f0, ← List.map_append]; exact h.nod
        · rw [List.map_append, giveL_f0, ← List.map_append]; exact fun t ht => ht
    · rw [if_neg c2] at hd
      by_cases c3 : W = 5
      · rw [if_pos c3] at hd
        obtain ⟨rfl, rfl, rfl, -, -⟩ : updN sayApply g.toNat L = L' ∧ D = D' ∧ g = g' ∧ last = last' ∧ (L.take g.toNat).map S65.f0 = ts := by simpa using hd
        have hg0 := h.g0
        have hg1 := h.g1
        refine ⟨?_, by rw [updN_len]; omega, h.g0, by rw [updN_len]; exact h.g1, ?_, ?_, rng_f0 h.rng ?_⟩
        · intro x hx
          unfold updN at hx
          rcases List.mem_append.1 hx with hx | hx
          · obtain ⟨y, hy, rfl⟩ := List.mem_map.1 hx
            exact h.fine y (List.mem_of_mem_take hy)
          · exact h.fine x (List.mem_of_mem_drop hx)
        · rcases h.says with hs | ⟨hgg, hs⟩
          · by_cases hz : g = 0
            · subst hz
              refine .inl (fun i hi => ?_)
              rw [updN_len] at hi
              rw [updN_get _ _ _ _ hi, if_neg (by simp)]
              exact hs i hi
            · refine .inr ⟨by omega, fun i hi => ?_⟩
              rw [updN_len] at hi
              rw [updN_get _ _ _ _ hi]
              by_cases hig : (i : Int) < g
              · rw [if_pos (by omega), if_pos hig]; rfl
              · rw [if_neg (by omega), if_neg hig, hs i hi, if_neg (by omega)]
          · refine .inr ⟨hgg, fun i hi => ?_⟩
            rw [updN_len] at hi
            rw [updN_get _ _ _ _ hi]
            by_cases hig : (i : Int) < g
            · rw [if_pos (by omega), if_pos hig]; rfl
            · rw [if_neg (by omega), hs i hi]
        · rw [List.map_append, updN_f0, ← List.map_append]; exact h.nod
        · rw [List.map_append, updN_f0, ← List.map_append]; exact fun t ht => ht
      · rw [if_neg c3] at hd
        by_cases c4 : W = 6
        · rw [if_pos c4] at hd
          by_cases hz : g = 0
          · rw [if_pos hz] at hd
            obtain ⟨rfl, rfl, rfl, -, -⟩ : L = L' ∧ D = D' ∧ 0 = g' ∧ last = last' ∧ [] = ts := by simpa using hd
            subst hz
            exact h.more (by omega)
          · rw [if_neg hz] at hd
            obtain ⟨rfl, rfl, rfl, -, -⟩ : leadL (L.drop g.toNat) = L' ∧ D ++ (L.take g.toNat).map (sayDone a5) = D' ∧ 0 = g' ∧ last = last' ∧ (L.take g.toNat).map S65.f0 ++ ((L.drop g.toNat).take 1).map S65.f0 = ts := by simpa using hd
            have hg0 := h.g0
            have hg1 := h.g1
            have hp : ((leadL (L.drop g.toNat) ++ (D ++ (L.take g.toNat).map (sayDone a5))).map S65.f0).Perm ((L ++ D).map S65.f0) := by
              rw [List.map_append, leadL_f0, List.map_append, done_f0]
              have e : (L ++ D).map S65.f0 = (L.take g.toNat).map S65.f0 ++ ((L.drop g.toNat).map S65.f0 ++ D.map S65.f0) := by
                rw [← List.append_assoc, ← List.map_append, List.take_append_drop, List.map_append]
              rw [e, ← List.append_assoc]
              exact List.perm_append_comm
            refine ⟨?_, by rw [leadL_len]; simp; omega, by omega, by omega, ?_, hp.nodup_iff.2 h.nod, rng_f0 h.rng (fun t ht => hp.mem_iff.1 ht)⟩
            · intro x hx
              cases hL : L.drop g.toNat with
              | nil => rw [hL] at hx; cases hx
              | cons y ys =>
                have hs : ∀ z ∈ y :: ys, z ∈ L := fun z hz => List.mem_of_mem_drop (hL ▸ hz)
                rw [hL] at hx
                simp only [leadL, List.mem_cons] at hx
                rcases hx with rfl | hx
                · exact h.fine y (hs y List.mem_cons_self)
                · exact h.fine x (hs x (List.mem_cons_of_mem _ hx))
            · refine .inl (fun i hi => ?_)
              rw [leadL_len] at hi
              have hi2 : g.toNat + i < L.length := by rw [List.length_drop] at hi; omega
              have hsi : i ≠ 0 → (L.getD (g.toNat + i) z65).f4 = 0 := by
                intro hi0
                rcases h.says with hs | ⟨hgg, hs⟩
                · rw [hs _ hi2, if_neg (by omega)]
                · rw [hs _ hi2, if_neg (by omega)]
              rw [← getD_drop65] at hsi
              cases hL : L.drop g.toNat with
              | nil => rw [hL] at hi; simp at hi
              | cons y ys =>
                rw [hL] at hsi
                cases i with
                | zero => rfl
                | succ i => simpa [leadL] using hsi (by omega)
        · rw [if_neg c4] at hd
          obtain ⟨rfl, hD, rfl, -, -⟩ : L = L' ∧ (if atIdx (tsk a1) D 0 < 0 then D else D.eraseIdx (atIdx (tsk a1) D 0).toNat) = D' ∧ g = g' ∧ last = last' ∧ [] = ts := by simpa using hd
          have hsub : D'.Sublist D := by
            rw [← hD]
            split
            · exact List.Sublist.refl _
            · exact List.eraseIdx_sublist _ _
          have hss := (List.Sublist.append_left hsub L).map S65.f0
          exact ⟨h.fine, by have := hsub.length_le; omega, h.g0, h.g1, h.says, hss.nodup h.nod, rng_f0 h.rng (fun t ht => hss.subset ht)⟩
/-- Whom an op tells is in the line then. -/
theorem does_told {n : Nat} {L D : List S65} {g : Int} (h : Inv n L D g) (W a1 a2 a4 a5 last m r : Int) (L' D' : List S65) (g' last' : Int) (ts : List Int)
    (hd : doesP L D g W a1 a2 a4 a5 last m r = (L', D', g', last', ts)) : (∀ t ∈ ts, (ofP L' D' t).2 = true) ∧ (W = 5 → (ts.length : Int) = g') ∧ ts.length ≤ n + 1 := by
  unfold doesP at hd
  have hk := h.len
  have hg0 := h.g0
  have hg1 := h.g1
  by_cases c1 : W < 3
  · rw [if_pos c1] at hd
    obtain ⟨rfl, rfl, rfl, -, rfl⟩ : joinP L D (tsk a1) (opn a2) (ned a4) = L' ∧ D = D' ∧ g = g' ∧ last = last' ∧ [] = ts := by simpa using hd
    exact ⟨fun t ht => by simp at ht, fun e => by omega, by simp⟩
  · rw [if_neg c1] at hd
    by_cases c2 : W < 5
    · rw [if_pos c2] at hd
      by_cases hz : grpN L g m r = 0
      · rw [if_pos hz] at hd
        obtain ⟨rfl, rfl, rfl, -, rfl⟩ : L = L' ∧ D = D' ∧ g = g' ∧ last = last' ∧ [] = ts := by simpa using hd
        exact ⟨fun t ht => by simp at ht, fun e => by omega, by simp⟩
      · rw [if_neg hz] at hd
        obtain ⟨rfl, rfl, rfl, -, rfl⟩ : (giveL (grpN L g m r) last L).1 = L' ∧ D = D' ∧ (grpN L g m r : Int) = g' ∧ (giveL (grpN L g m r) last L).2 = last' ∧ [] = ts := by simpa using hd
        exact ⟨fun t ht => by simp at ht, fun e => by omega, by simp⟩
    · rw [if_neg c2] at hd
      by_cases c3 : W = 5
      · rw [if_pos c3] at hd
        obtain ⟨rfl, rfl, rfl, -, rfl⟩ : updN sayApply g.toNat L = L' ∧ D = D' ∧ g = g' ∧ last = last' ∧ (L.take g.toNat).map S65.f0 = ts := by simpa using hd
        refine ⟨fun t ht => (of_in _ _ _).2 ?_, fun _ => by simp; omega, by simp; omega⟩
        have ht2 : t ∈ (updN sayApply g.toNat L ++ D).map S65.f0 := by
          rw [List.map_append, updN_f0]
          refine List.mem_append_left _ ?_
          obtain ⟨y, hy, e⟩ := List.mem_map.1 ht
          exact e ▸ List.mem_map_of_mem (List.mem_of_mem_take hy)
        exact List.mem_map.1 ht2
      · rw [if_neg c3] at hd
        by_cases c4 : W = 6
        · rw [if_pos c4] at hd
          by_cases hz : g = 0
          · rw [if_pos hz] at hd
            obtain ⟨rfl, rfl, rfl, -, rfl⟩ : L = L' ∧ D = D' ∧ 0 = g' ∧ last = last' ∧ [] = ts := by simpa using hd
            exact ⟨fun t ht => by simp at ht, fun e => by omega, by simp⟩
          · rw [if_neg hz] at hd
            obtain ⟨rfl, rfl, rfl, -, rfl⟩ : leadL (L.drop g.toNat) = L' ∧ D ++ (L.take g.toNat).map (sayDone a5) = D' ∧ 0 = g' ∧ last = last' ∧ (L.take g.toNat).map S65.f0 ++ ((L.drop g.toNat).take 1).map S65.f0 = ts := by simpa using hd
            refine ⟨fun t ht => (of_in _ _ _).2 ?_, fun e => by omega, by simp; omega⟩
            have ht2 : t ∈ (leadL (L.drop g.toNat) ++ (D ++ (L.take g.toNat).map (sayDone a5))).map S65.f0 := by
              rw [List.map_append, leadL_f0, List.map_append, done_f0]
              rcases List.mem_append.1 ht with ht | ht
              · exact List.mem_append_right _ (List.mem_append_right _ ht)
              · refine List.mem_append_left _ ?_
                obtain ⟨y, hy, e⟩ := List.mem_map.1 ht
                exact e ▸ List.mem_map_of_mem (List.mem_of_mem_take hy)
            exact List.mem_map.1 ht2
        · rw [if_neg c4] at hd
          obtain ⟨rfl, hD, rfl, -, rfl⟩ : L = L' ∧ (if atIdx (tsk a1) D 0 < 0 then D else D.eraseIdx (atIdx (tsk a1) D 0).toNat) = D' ∧ g = g' ∧ last = last' ∧ [] = ts := by simpa using hd
          exact ⟨fun t ht => by simp at ht, fun e => by omega, by simp⟩
/-- What is said to each. -/
theorem Inv.say {n : Nat} {L D : List S65} {g : Int} (h : Inv n L D g) (i : Nat) (hi : i < L.length) :
    (((L.getD i z65).f4 = if i = 0 then 1 else 0) ∨ ((i : Int) < g ∧ (L.getD i z65).f4 = 2)) ∧ ((L.getD i z65).f4 = 2 → (L.getD 0 z65).f4 = 2) := by
  rcases h.says with hs | ⟨hg, hs⟩
  · refine ⟨.inl (hs i hi), fun e => ?_⟩
    rw [hs i hi] at e
    split at e <;> omega
  · by_cases hig : (i : Int) < g
    · refine ⟨.inr ⟨hig, by rw [hs i hi, if_pos hig]⟩, fun _ => by rw [hs 0 (by omega), if_pos (by omega)]⟩
    · refine ⟨.inl (by rw [hs i hi, if_neg hig, if_neg (by omega)]), fun e => ?_⟩
      rw [hs i hi, if_neg hig] at e
      omega
theorem lead_set (l : List S65) (h : 0 < l.length) : l.set 0 (⟨(rd_T65 l 0).f0, (rd_T65 l 0).f1, (rd_T65 l 0).f2, (rd_T65 l 0).f3, 1, (rd_T65 l 0).f5⟩ : S65) = leadL l ∧ (rd_T65 (leadL l) 0).f0 = (rd_T65 l 0).f0 ∧ [(rd_T65 l 0).f0] = (l.take 1).map S65.f0 := by
  cases l with
  | nil => simp at h
  | cons x xs => exact ⟨rfl, rfl, rfl⟩
theorem end_ev (L D : List S65) (g e : Int) (h0 : L.length ≤ 1000) (h1 : D.length ≤ 1000) (hg0 : 0 ≤ g) (hg1 : g ≤ L.length) :
    queue_End.f L D g e = some (if g = 0 then (L, D, 0, []) else (leadL (L.drop g.toNat), D ++ (L.take g.toNat).map (sayDone e), 0, (L.take g.toNat).map S65.f0 ++ ((L.drop g.toNat).take 1).map S65.f0)) := by
  unfold queue_End.f
  by_cases hz : g = 0
  · subst hz
    rw [if_pos rfl, if_pos rfl]
    unfold queue_own.f api_Member_82.f
    rw [if_pos (by omega), if_pos (by omega)]
    rfl
  · rw [if_neg hz, if_neg hz]
    unfold queue_done.f
    rw [if_pos (by omega), Option.bind_some]
    dsimp only
    by_cases hl : L.drop g.toNat = []
    · rw [hl]
      rw [if_neg (by simp)]
      simp [leadL]
    · have hpos : 0 < (L.drop g.toNat).length := List.length_pos_iff.2 hl
      obtain ⟨e1, e2, e3⟩ := lead_set (L.drop g.toNat) hpos
      rw [if_pos (by omega), if_pos (by omega)]
      simp only [show (0 : Int).toNat = 0 from rfl, e1, e2, e3, Option.bind_some]
      rw [if_pos (by simp; omega)]
theorem does_ev (L D : List S65) (g a0 a1 a2 a3 a4 a5 last m r : Int) (hf : Fine L) (h0 : L.length ≤ 1000) (h1 : D.length ≤ 1000) (hg0 : 0 ≤ g) (hg1 : g ≤ L.length) (hW : 0 ≤ a0) (ht0 : -9223372036854775808 ≤ a1) (ht1 : a1 ≤ 9223372036854775807) (h4 : 0 ≤ a4) :
    Ev (fun k => ratlinelaw21_does.f k L D g a0 a1 a2 a3 a4 a5 last m r) (doesP L D g (a0 % 8) a1 a2 a4 a5 last m r) := by
  have hmod : Int.tmod a0 8 = a0 % 8 := Int.tmod_eq_emod_of_nonneg hW
  obtain ⟨W, hWe⟩ : ∃ W : Int, a0 % 8 = W := ⟨_, rfl⟩
  have hW0 : 0 ≤ W := by omega
  have hW8 : W < 8 := by omega
  have htk : Int.tmod (wrap64 (Int.tmod a1 20 + 20)) 20 = tsk a1 := rfl
  have hop : wrap64 (1 + Int.tmod (wrap64 (Int.tmod a2 8 + 8)) 8) = opn a2 := rfl
  have hnd : IntKind.u64.wrap (1 + Int.tmod a4 50) = ned a4 := rfl
  unfold ratlinelaw21_does.f
  rw [hmod, hWe, htk]
  -- the second choice
  have hj1 : ∀ b : Bool, b = decide (3 ≤ W ∧ W < 5) → 3 ≤ W → Ev (fun k => ratlinelaw21_does.j1 k last m r (tsk a1) [] W b L D g a0 a1 a2 a3 a4 a5) (doesP L D g W a1 a2 a4 a5 last m r) := by
    intro b hb hW3
    unfold doesP
    rw [if_neg (by omega)]
    by_cases c2 : W < 5
    · rw [if_pos c2]
      have hb1 : b = true := by rw [hb]; exact decide_eq_true ⟨hW3, c2⟩
      refine Ev.step (f := fun k => (queue_Group.f k L D g m r).bind fun t157 => (queue_Give.f L D g t157 last).bind fun bt158 => some (bt158.1, bt158.2.1, bt158.2.2.1, bt158.2.2.2, ([] : List Int))) (fun k => ?_) (Ev.bind (group_ev L D g m r hf (by omega)) ?_)
      · rw [ratlinelaw21_does.j1, if_pos hb1]
      · have e : (if g > 0 then (0 : Int) else (fits m r 0 0 L : Int)) = (grpN L g m r : Int) := by unfold grpN; split <;> rfl
        rw [e]
        have hgn : grpN L g m r ≤ L.length := by
          unfold grpN
          split
          · omega
          · exact fits_le _ _ _ _ _
        unfold queue_Give.f
        rw [if_pos (by omega)]
        by_cases hz : grpN L g m r = 0
        · rw [if_pos hz, if_pos (by omega)]
          exact Ev.now _
        · have hg : g = 0 := by
            unfold grpN at hz
            by_cases hg : g > 0
            · rw [if_pos hg] at hz; exact absurd rfl hz
            · omega
          rw [if_neg hz, if_neg (by omega), Int.toNat_natCast]
          exact Ev.now _
    · rw [if_neg c2]
      have hb1 : ¬ b = true := by rw [hb, decide_eq_true_iff]; omega
      by_cases c3 : W = 5
      · rw [if_pos c3]
        refine Ev.step (fun k => ?_) (Ev.now _)
        rw [ratlinelaw21_does.j1, if_neg hb1, if_pos c3]
        unfold queue_Apply.f
        rw [if_pos (by omega)]
        rfl
      · rw [if_neg c3]
        by_cases c4 : W = 6
        · rw [if_pos c4]
          refine Ev.step (fun k => ?_) (Ev.now _)
          rw [ratlinelaw21_does.j1, if_neg hb1, if_neg c3, if_pos c4, end_ev L D g a5 h0 h1 hg0 hg1]
          by_cases hz : g = 0
          · rw [if_pos hz, if_pos hz]; rfl
          · rw [if_neg hz, if_neg hz]; rfl
        · rw [if_neg c4]
          refine Ev.step (fun k => ?_) (Ev.now _)
          rw [ratlinelaw21_does.j1, if_neg hb1, if_neg c3, if_neg c4]
          unfold queue_Take.f
          rw [if_pos (by omega)]
          by_cases hz : atIdx (tsk a1) D 0 < 0
          · rw [if_pos hz, if_pos hz]; rfl
          · rw [if_neg hz, if_neg hz]; rfl
  have hj0 : ∀ b : Bool, b = decide (W < 3) → Ev (fun k => ratlinelaw21_does.j0 k last m r (tsk a1) [] W b L D g a0 a1 a2 a3 a4 a5) (doesP L D g W a1 a2 a4 a5 last m r) := by
    intro b hb
    by_cases c1 : W < 3
    · have hb1 : b = true := by rw [hb]; exact decide_eq_true c1
      obtain ⟨b', e', hj⟩ := join_ev L D g (tsk a1) (opn a2) (ned a4) (by omega) (by omega) (does_task a1 ht0 ht1) (opn_in a2) (ned_in a4 h4)
      refine Ev.step (fun k => ?_) (Ev.now _)
      rw [ratlinelaw21_does.j0, if_pos hb1, hop, hnd, hj]
      unfold doesP
      rw [if_pos c1]
      rfl
    · have hb1 : ¬ b = true := by rw [hb, decide_eq_true_iff]; exact c1
      by_cases c3 : W = 3
      · refine Ev.step (f := fun k => ratlinelaw21_does.j1 k last m r (tsk a1) [] W (W == 3) L D g a0 a1 a2 a3 a4 a5) (fun k => ?_) (hj1 _ ?_ (by omega))
        · rw [ratlinelaw21_does.j0, if_neg hb1, if_pos c3]
        · rw [c3]; rfl
      · refine Ev.step (f := fun k => ratlinelaw21_does.j1 k last m r (tsk a1) [] W (W == 4) L D g a0 a1 a2 a3 a4 a5) (fun k => ?_) (hj1 _ ?_ (by omega))
        · rw [ratlinelaw21_does.j0, if_neg hb1, if_neg c3]
        · rw [Bool.eq_iff_iff, beq_iff_eq, decide_eq_true_iff]; omega
  by_cases w0 : W = 0
  · simp only [if_pos w0]
    subst w0
    exact hj0 _ (by rfl)
  · by_cases w1 : W = 1
    · simp only [if_neg w0, if_pos w1]
      exact hj0 _ (by rw [w1]; rfl)
    · simp only [if_neg w0, if_neg w1]
      refine hj0 _ ?_
      rw [Bool.eq_iff_iff, beq_iff_eq, decide_eq_true_iff]; omega
#print axioms does_ev
#print axioms does_told
#print axioms inv_step
end Go.Proofs.Ythlahhkjoocigaa.XQueue
