/- List of the given program's disk: the names, rising. -/
import Derived.Test.YteibdmpjlpcgbaaTHRead
import Derived.Test.YteibdmpjlpcgbaaTHShelf
namespace Go.Proofs.Yteibdmpjlpcgbaa.XDisk
open Go Go.RowKit Go.Proofs.YteibdmpjlpcgbaaW.PrintWords Go.Proofs.YteibdmpjlpcgbaaW.PrintLast Go.Proofs.YteibdmpjlpcgbaaW.PrintMore
open Go.Proofs.Yteibdmpjlpcgbaa
set_option linter.unusedVariables false
set_option linter.unusedSimpArgs false
/-- Names that rise are what a sort of them gives. -/
theorem sorted_names {l : List (Nm × FA)} (hr : Rising l) {ss : List Nm} (hp : ss.Perm (l.map Prod.fst)) : ss.mergeSort (fun x y => decide (x ≤ y)) = l.map Prod.fst := by
  have h1 : (ss.mergeSort (fun x y => decide (x ≤ y))).Pairwise (fun x y => decide (x ≤ y) = true) := List.pairwise_mergeSort (fun a b c h1 h2 => by
      simp only [decide_eq_true_eq] at *
      exact List.le_trans h1 h2) (fun a b => by
      rcases List.le_total a b with h | h <;> simp [h]) ss
  have h2 : (l.map Prod.fst).Pairwise (fun x y => decide (x ≤ y) = true) := by
    unfold Rising at hr
    rw [List.pairwise_map]
    exact hr.imp (fun h => by simp only [decide_eq_true_eq]; exact List.le_of_lt h)
  exact ((List.mergeSort_perm ss _).trans hp).eq_of_pairwise (fun a b _ _ ha hb => by simp only [decide_eq_true_eq] at ha hb; exact List.le_antisymm ha hb) h1 h2
/-- The names in memory. -/
def NamesAt (w : World) (base : Nat) (v : Value) (ns : List Nm) : Prop := w.ownsRow base 9 1 v ns.length (ns.map (fun n => Value.string (str n)))
theorem names_sorted {W : World} {gm n : Nat} {l : List (Nm × FA)} {V : Nm → Nat} (hr : Rising l) (ho : HStrMap.Owns m69 W gm n (mapL l V)) (hn : l.length ≤ 100000) :
    Calls Try.prog 35 #[.func (.func 60) #[] #[.pointer (some ⟨W.heap.size, 0, none⟩)]] (W.alloc (.cells #[.map (some gm)] 69)) fun e w' => ∃ v, e = .returned v ∧ NamesAt w' W.heap.size v (l.map Prod.fst) ∧ Below W.heap.size W w' := by
  obtain ⟨es, h1, h2, h3, h4⟩ := ho
  have hlen : es.length = l.length := by have := h2.length_eq; simpa [mapL] using this
  refine (callsIn_wide.1 (HShelf.slices_Sorted_keys_35_36 gm n (.map es) HStrMap.RV W h1 (by show es.length ≤ _; unfold maxLen; omega) (by show es.length * 16 ≤ _; omega))).mono ?_
  rintro e w' ⟨v, ss, rfl, hp, ho2, -, hb⟩
  have hk : strKeys (DataW.map es : DataW Value) = es.map (fun p => strOf p.1) := rfl
  have hp2 : ss.Perm (l.map Prod.fst) := by
    refine hp.trans ?_
    rw [hk]
    refine (h2.map _).trans ?_
    rw [List.map_map]
    unfold mapL
    rw [List.map_map]
    have : ((fun p : Lit × DataW Value => strOf p.1) ∘ HStrMap.tok) ∘ (fun p : Nm × FA => (str p.1, Value.pointer (some ⟨V p.1, 0, none⟩))) = Prod.fst := by
      funext p
      simp [HStrMap.tok, HStrMap.key, strOf, str]
    rw [this]
  rw [sorted_names hr hp2] at ho2
  have hl2 : ss.length = (l.map Prod.fst).length := hp2.length_eq
  rw [hl2] at ho2
  refine ⟨v, rfl, own_weaken ho2 (by simp), ?_⟩
  exact below_step (below_alloc (Below.refl _ _) _) hb
set_option maxHeartbeats 8000000 in
set_option maxRecDepth 100000 in
theorem list_at (gd B : Nat) (φ : Nat → Tg) (S : DA) (w : World) (h : DAt w φ B gd S) (hn : S.files.length ≤ 100000) :
    Calls Try.prog 16 #[.pointer (some ⟨gd, 0, none⟩)] w fun e w' => ∃ v, e = .returned v ∧ NamesAt w' w.heap.size v (S.files.map Prod.fst) ∧ Below w.heap.size w w' := by
  obtain ⟨gm, n, V, Af, cf, Ap, cp, hd, hc⟩ := h
  have k0 : w.cell? ⟨gd, 0, none⟩ = some (.bool true) := (blk_cell hd.blk 0).trans rfl
  have k4 : w.cell? ⟨gd, 4, none⟩ = some (.map (some gm)) := (blk_cell hd.blk 4).trans rfl
  have HM := Aside0.mk (names_sorted hd.rise hd.own hn)
  clear hd hc
  go_enter Try.func16, Try.ntmps16
  go_wp2_with (first | (go_at_call 34; refine (is_made gd true _ k0).mono ?_; rintro e w5 ⟨rfl, rfl⟩) | (go_at_call 36; refine (callsIn_wide.1 (HShelf.maps_Keys_36 (some gm) w)).mono ?_; rintro e w5 ⟨rfl, rfl⟩) | (go_at_call 35; refine HM.out.mono ?_; rintro e w6 ⟨v, rfl, hv, hb⟩; have HV := Aside0.mk hv; have HB := Aside0.mk hb; clear hv hb))
  go_ret
  exact ⟨v, rfl, HV.out, HB.out⟩
end Go.Proofs.Yteibdmpjlpcgbaa.XDisk
