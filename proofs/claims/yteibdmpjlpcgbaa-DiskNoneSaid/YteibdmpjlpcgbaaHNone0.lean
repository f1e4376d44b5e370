/- The disk's functions, where there is no disk. -/
import Derived.Test.YteibdmpjlpcgbaaHLook
namespace Go.Proofs.Yteibdmpjlpcgbaa.XDisk
open Go Go.RowKit Go.Proofs.YteibdmpjlpcgbaaW.PrintWords Go.Proofs.YteibdmpjlpcgbaaW.PrintLast Go.Proofs.YteibdmpjlpcgbaaW.PrintMore
open Go.Proofs.Yteibdmpjlpcgbaa
set_option linter.unusedVariables false
set_option linter.unusedSimpArgs false
/-- A pointer to no disk: none, or to one that New did not answer. -/
def NoDisk (w : World) (p : Option Addr) : Prop := p = none ∨ ∃ g, p = some ⟨g, 0, none⟩ ∧ w.cell? ⟨g, 0, none⟩ = some (.bool false)
theorem NoDisk.below {w w' : World} {p : Option Addr} (h : NoDisk w p) (hb : Below w.heap.size w w') : NoDisk w' p := by
  rcases h with h | ⟨g, h1, h2⟩
  · exact .inl h
  · exact .inr ⟨g, h1, (hb.cell (World.block_lt_of_cell? w _ h2)).trans h2⟩
theorem is_no (p : Option Addr) (w : World) (h : NoDisk w p) : Calls Try.prog 34 #[.pointer p] w fun e w' => e = .returned (.bool false) ∧ w = w' := by
  rcases h with rfl | ⟨g, rfl, h2⟩
  · exact is_nil w
  · exact is_made g false w h2
set_option maxHeartbeats 8000000 in
set_option maxRecDepth 100000 in
theorem call_no (p : Option Addr) (v1 v2 v3 : Value) (w : World) (h : NoDisk w p) : Calls Try.prog 49 #[.pointer p, v1, v2, v3] w fun e w' => e = .returned (.int .i64 1) ∧ w = w' := by
  have HP := Aside0.mk h
  clear h
  go_enter Try.func49, Try.ntmps49
  go_wp2_with (first | (go_at_call 34; refine (is_no p _ HP.out).mono ?_; rintro e w5 ⟨rfl, rfl⟩))
  go_ret
  exact ⟨rfl, rfl⟩
set_option maxHeartbeats 8000000 in
set_option maxRecDepth 100000 in
theorem there_no (p : Option Addr) (s : ByteArray) (w : World) : Calls Try.prog 50 #[.pointer p, .string s] w fun e w' => ∃ c0 c1, e = .returned (.func (.func 65) #[] #[.pointer (some ⟨c0, 0, none⟩), .pointer (some ⟨c1, 0, none⟩)]) ∧ w'.cell? ⟨c0, 0, none⟩ = some (.pointer p) ∧ w'.cell? ⟨c1, 0, none⟩ = some (.string s) ∧ Below w.heap.size w w' := by
  go_enter Try.func50, Try.ntmps50
  go_wp2
  go_ret
  exact ⟨_, _, rfl, by simp, by simp, below_alloc (below_alloc (Below.refl _ _) _) _⟩
set_option maxHeartbeats 8000000 in
set_option maxRecDepth 100000 in
theorem create_no (p : Option Addr) (nm : Nm) (w : World) (hp : NoDisk w p) :
    Calls Try.prog 28 #[.pointer p, .string (str nm)] w fun e w' => e = .returned (.int .i64 1) ∧ Below w.heap.size w w' := by
  have HP := Aside0.mk hp
  have HB := Aside0.mk (Below.refl w.heap.size w)
  clear hp
  go_enter Try.func28, Try.ntmps28
  go_upto_region 1 with (first | ((with_reducible refine gate_dst (N := 2) rfl ?_); refine box_event ?hg (N := 2) ?hd (cs := #[.pointer p]) (t := 28) ?hr ?_; (case hd => rfl); (case hg => rfl); (case hr => first | (go_simp; done) | (go_simp; rfl)); intro bd hg w3 hbox hb; have n_K0 := Aside0.mk hbox; have n_HB := Aside0.mk (below_step HB.out hb); clear  HB hbox hb hg; have K0 := n_K0; have HB := n_HB; clear n_K0 n_HB) | ((with_reducible refine gate_dst (N := 3) rfl ?_); refine box_event ?hg (N := 3) ?hd (cs := #[.string (str nm)]) (t := 9) ?hr ?_; (case hd => rfl); (case hg => rfl); (case hr => first | (go_simp; done) | (go_simp; rfl)); intro bn hg w3 hbox hb; have n_K1 := Aside0.mk hbox; have n_K0 := Aside0.mk (blk_below K0.out hb); have n_HB := Aside0.mk (below_step HB.out hb); clear K0 HB hbox hb hg; have K0 := n_K0; have K1 := n_K1; have HB := n_HB; clear n_K0 n_K1 n_HB))
  rename World => wN
  refine start_ (n := 8) (S := fun w' => Below wN.heap.size wN w') (ds := [6]) #[false, false, false, false, false, false, false, false] (by kernel_rfl) rfl rfl (below_drew (Below.refl _ _)) (fun hHeld => ?_)
  refine with_tabW r28_1.tab r28_1.bits (fun HT_ HW_ => ?_)
  generalize wN.drew = wd at hHeld ⊢
  refine take_ (i := 0) (N := some 5) (v := ?_) (a' := ?_) #[true, false, false, false, false, false, false, false] rfl rfl (take_ofW HT_.out HW_.out (by kernel_rfl)) (fun _ _ _ h => h) (Or.inl ⟨by rfl, ?_⟩) hHeld ?_ ?_
  rotate_left
  · rintro w' hbq
    have c_K0 := blk_c' (blk_below K0.out hbq) 0 rfl
    go_simp
    with_reducible rfl
  rotate_left
  · simp only [Act.put, List.setIfInBounds_toArray, List.set_cons_zero, List.set_cons_succ, i64_w, i32_w]
    rfl
  refine take_ (i := 1) (N := some 6) (v := ?_) (a' := ?_) #[true, true, false, false, false, false, false, false] rfl rfl (take_ofW HT_.out HW_.out (by kernel_rfl)) (fun _ _ _ h => h) (Or.inl ⟨by rfl, ?_⟩) hHeld ?_ ?_
  rotate_left
  · rintro w' hbq
    have c_K1 := blk_c' (blk_below K1.out hbq) 0 rfl
    go_simp
    with_reducible rfl
  rotate_left
  · simp only [Act.put, List.setIfInBounds_toArray, List.set_cons_zero, List.set_cons_succ, i64_w, i32_w]
    rfl
  refine pure_ (i := 3) (N := some 8) (v := ?_) (a' := ?_) #[true, true, false, true, false, false, false, false] rfl rfl (any_of HT_.out (by kernel_rfl)) (fun _ _ _ h => h) (Or.inl ⟨by rfl, ?_⟩) ?_ ?_
  rotate_left
  · intro w'
    go_simp
    with_reducible rfl
  rotate_left
  · simp only [Act.put, List.setIfInBounds_toArray, List.set_cons_zero, List.set_cons_succ, i64_w, i32_w]
    rfl
  refine pure_ (i := 4) (N := some 9) (v := ?_) (a' := ?_) #[true, true, false, true, true, false, false, false] rfl rfl (any_of HT_.out (by kernel_rfl)) (fun _ _ _ h => h) (Or.inl ⟨by rfl, ?_⟩) ?_ ?_
  rotate_left
  · intro w'
    go_simp
    with_reducible rfl
  rotate_left
  · simp only [Act.put, List.setIfInBounds_toArray, List.set_cons_zero, List.set_cons_succ, i64_w, i32_w]
    rfl
  refine join2 2 #[true, true, true, true, true, true, false, false] (fun g c _ _ => [(7, .slice (some ⟨g, 0, none⟩) 1 1), (10, .func (.func 66) #[] #[.pointer (some ⟨c, 0, none⟩)])]) (fun g c _ _ wx => Aside0 (Below wN.heap.size wN wx) ∧ Aside0 (wx.heap[g]? = some (.cells #[.string (str nm)] 9 (0, 0))) ∧ Aside0 (wx.cell? ⟨c, 0, none⟩ = some (.func (.func 55) #[] #[.pointer (some ⟨bd, 0, none⟩), .pointer (some ⟨bn, 0, none⟩)]))) ?_ (fun JJ => ?_)
  rotate_left
  · refine two_ (i := 2) (j := 5) (Ni := some 7) (Nj := some 10) #[true, true, true, true, true, false, false, false] #[true, true, false, true, true, true, false, false] rfl rfl rfl rfl (two_of HT_.out (by kernel_rfl)) (by decide) (by decide) (fun K hK => ?_) (fun K hK => ?_)
    · refine lit_step (cs := #[.string (str nm)]) (t := 9) (k := 1) (by rfl) (by first | (go_simp; done) | (go_simp; rfl)) ?_
      intro g hg w5 hbox hb
      have HX0 := Aside0.mk (below_step hHeld hb)
      have KG0 := Aside0.mk hbox
      refine hK.out _ _ HX0.out (fun hHeld => ?_)
      clear hK K hbox hb hg
      refine norm_ (a' := ?_) ?_ ?_
      rotate_left
      · show Act.put _ (some 7) _ = _
        simp only [Act.put, List.setIfInBounds_toArray, List.set_cons_zero, List.set_cons_succ, i64_w, i32_w]
        rfl
      refine one_ (i := 5) (N := some 10) #[true, true, true, true, true, true, false, false] rfl rfl (one_of HT_.out (by kernel_rfl)) (by decide) (fun K hK => ?_)
      refine goes_ Try.func51 (by kernel_rfl) rfl #[.func (.func 55) #[] #[.pointer (some ⟨bd, 0, none⟩), .pointer (some ⟨bn, 0, none⟩)]] (by rfl) rfl rfl (by first | done | rfl | (simp only [List.map_toArray, List.map_cons, List.map_nil]; rfl)) ?_
      refine (unless_at 55 #[.pointer (some ⟨bd, 0, none⟩), .pointer (some ⟨bn, 0, none⟩)] _).mono ?_
      rintro e w6 ⟨c, rfl, hcell, hb⟩
      refine ⟨_, rfl, ?_⟩
      have HX := Aside0.mk (below_step HX0.out hb)
      have KG := Aside0.mk (blk_below KG0.out hb)
      have KC := Aside0.mk hcell
      refine hK.out _ _ HX.out (fun hHeld => ?_)
      clear hK K hcell hb
      refine norm_ ?_ (JJ.out g c 0 0 _ ⟨HX, KG, KC⟩)
      show Act.put _ (some 10) _ = _
      simp only [putAll, Act.put, List.setIfInBounds_toArray, List.set_cons_zero, List.set_cons_succ]
    · refine goes_ Try.func51 (by kernel_rfl) rfl #[.func (.func 55) #[] #[.pointer (some ⟨bd, 0, none⟩), .pointer (some ⟨bn, 0, none⟩)]] (by rfl) rfl rfl (by first | done | rfl | (simp only [List.map_toArray, List.map_cons, List.map_nil]; rfl)) ?_
      refine (unless_at 55 #[.pointer (some ⟨bd, 0, none⟩), .pointer (some ⟨bn, 0, none⟩)] _).mono ?_
      rintro e w6 ⟨c, rfl, hcell, hb⟩
      refine ⟨_, rfl, ?_⟩
      have HX0 := Aside0.mk (below_step hHeld hb)
      have KC0 := Aside0.mk hcell
      refine hK.out _ _ HX0.out (fun hHeld => ?_)
      clear hK K hcell hb
      refine norm_ (a' := ?_) ?_ ?_
      rotate_left
      · show Act.put _ (some 10) _ = _
        simp only [Act.put, List.setIfInBounds_toArray, List.set_cons_zero, List.set_cons_succ, i64_w, i32_w]
        rfl
      refine one_ (i := 2) (N := some 7) #[true, true, true, true, true, true, false, false] rfl rfl (one_of HT_.out (by kernel_rfl)) (by decide) (fun K hK => ?_)
      refine lit_step (cs := #[.string (str nm)]) (t := 9) (k := 1) (by rfl) (by first | (go_simp; done) | (go_simp; rfl)) ?_
      intro g hg w5 hbox hb
      have HX := Aside0.mk (below_step HX0.out hb)
      have KG := Aside0.mk hbox
      have KC := Aside0.mk ((hb.cell (World.block_lt_of_cell? _ _ KC0.out)).trans KC0.out)
      refine hK.out _ _ HX.out (fun hHeld => ?_)
      clear hK K hbox hb hg
      refine norm_ ?_ (JJ.out g c 0 0 _ ⟨HX, KG, KC⟩)
      show Act.put _ (some 7) _ = _
      simp only [putAll, Act.put, List.setIfInBounds_toArray, List.set_cons_zero, List.set_cons_succ]
  rintro g c _ _ wx ⟨HX, KG, KC⟩
  refine norm_ (a' := ?_) ?_ ?_
  rotate_left
  · simp only [putAll, Act.put, List.setIfInBounds_toArray, List.set_cons_zero, List.set_cons_succ]
    rfl
  refine last_ (i := 6) (N := some 11) #[true, true, true, true, true, true, true, false] rfl rfl (one_of HT_.out (by kernel_rfl)) (by decide) (fun K hK => ?_)
  refine goes_ Try.func49 (by kernel_rfl) rfl #[.pointer p, .slice (some ⟨g, 0, none⟩) 1 1, .func (.func 54) #[] #[.pointer (some ⟨bd, 0, none⟩), .pointer (some ⟨bn, 0, none⟩)], .func (.func 66) #[] #[.pointer (some ⟨c, 0, none⟩)]] (by rfl) rfl rfl (by first | done | rfl | (simp only [List.map_toArray, List.map_cons, List.map_nil]; rfl)) ?_
  refine (call_no p _ _ _ _ (HP.out.below (below_step HB.out HX.out))).mono ?_
  rintro e w7 ⟨rfl, rfl⟩
  refine ⟨_, rfl, ?_⟩
  refine hK.out _ _ ?_
  have HQ := Aside0.mk (below_step HB.out HX.out)
  clear hK K
  refine norm_ (a' := ?_) ?_ ?_
  rotate_left
  · show Act.put _ (some 11) _ = _
    simp only [Act.put, List.setIfInBounds_toArray, List.set_cons_zero, List.set_cons_succ, i64_w, i32_w]
    rfl
  refine pure_ (i := 7) (N := some 4) (v := ?_) (a' := ?_) #[true, true, true, true, true, true, true, true] rfl rfl (any_of HT_.out (by kernel_rfl)) (fun _ _ _ h => h) (Or.inl ⟨by rfl, ?_⟩) ?_ ?_
  rotate_left
  · intro w'
    go_simp
    with_reducible rfl
  rotate_left
  · simp only [Act.put, List.setIfInBounds_toArray, List.set_cons_zero, List.set_cons_succ, i64_w, i32_w]
    rfl
  refine done_ (done_of HT_.out (by kernel_rfl)) ?_
  go_wp2
  go_ret
  exact ⟨rfl, HQ.out⟩
set_option maxHeartbeats 8000000 in
set_option maxRecDepth 100000 in
theorem remove_no (p : Option Addr) (nm : Nm) (w : World) (hp : NoDisk w p) :
    Calls Try.prog 27 #[.pointer p, .string (str nm)] w fun e w' => e = .returned (.int .i64 1) ∧ Below w.heap.size w w' := by
  have HP := Aside0.mk hp
  have HB := Aside0.mk (Below.refl w.heap.size w)
  clear hp
  go_enter Try.func27, Try.ntmps27
  go_upto_region 1 with (first | ((with_reducible refine gate_dst (N := 2) rfl ?_); refine box_event ?hg (N := 2) ?hd (cs := #[.pointer p]) (t := 28) ?hr ?_; (case hd => rfl); (case hg => rfl); (case hr => first | (go_simp; done) | (go_simp; rfl)); intro bd hg w3 hbox hb; have n_K0 := Aside0.mk hbox; have n_HB := Aside0.mk (below_step HB.out hb); clear  HB hbox hb hg; have K0 := n_K0; have HB := n_HB; clear n_K0 n_HB) | ((with_reducible refine gate_dst (N := 3) rfl ?_); refine box_event ?hg (N := 3) ?hd (cs := #[.string (str nm)]) (t := 9) ?hr ?_; (case hd => rfl); (case hg => rfl); (case hr => first | (go_simp; done) | (go_simp; rfl)); intro bn hg w3 hbox hb; have n_K1 := Aside0.mk hbox; have n_K0 := Aside0.mk (blk_below K0.out hb); have n_HB := Aside0.mk (below_step HB.out hb); clear K0 HB hbox hb hg; have K0 := n_K0; have K1 := n_K1; have HB := n_HB; clear n_K0 n_K1 n_HB))
  rename World => wN
  refine start_ (n := 10) (S := fun w' => Below wN.heap.size wN w') (ds := [8]) #[false, false, false, false, false, false, false, false, false, false] (by kernel_rfl) rfl rfl (below_drew (Below.refl _ _)) (fun hHeld => ?_)
  refine with_tabW r27_1.tab r27_1.bits (fun HT_ HW_ => ?_)
  generalize wN.drew = wd at hHeld ⊢
  refine take_ (i := 0) (N := some 5) (v := ?_) (a' := ?_) #[true, false, false, false, false, false, false, false, false, false] rfl rfl (take_ofW HT_.out HW_.out (by kernel_rfl)) (fun _ _ _ h => h) (Or.inl ⟨by rfl, ?_⟩) hHeld ?_ ?_
  rotate_left
  · rintro w' hbq
    have c_K0 := blk_c' (blk_below K0.out hbq) 0 rfl
    go_simp
    with_reducible rfl
  rotate_left
  · simp only [Act.put, List.setIfInBounds_toArray, List.set_cons_zero, List.set_cons_succ, i64_w, i32_w]
    rfl
  refine take_ (i := 1) (N := some 6) (v := ?_) (a' := ?_) #[true, true, false, false, false, false, false, false, false, false] rfl rfl (take_ofW HT_.out HW_.out (by kernel_rfl)) (fun _ _ _ h => h) (Or.inl ⟨by rfl, ?_⟩) hHeld ?_ ?_
  rotate_left
  · rintro w' hbq
    have c_K1 := blk_c' (blk_below K1.out hbq) 0 rfl
    go_simp
    with_reducible rfl
  rotate_left
  · simp only [Act.put, List.setIfInBounds_toArray, List.set_cons_zero, List.set_cons_succ, i64_w, i32_w]
    rfl
  refine take_ (i := 3) (N := some 8) (v := ?_) (a' := ?_) #[true, true, false, true, false, false, false, false, false, false] rfl rfl (take_ofW HT_.out HW_.out (by kernel_rfl)) (fun _ _ _ h => h) (Or.inl ⟨by rfl, ?_⟩) hHeld ?_ ?_
  rotate_left
  · rintro w' hbq
    have c_K0 := blk_c' (blk_below K0.out hbq) 0 rfl
    go_simp
    with_reducible rfl
  rotate_left
  · simp only [Act.put, List.setIfInBounds_toArray, List.set_cons_zero, List.set_cons_succ, i64_w, i32_w]
    rfl
  refine take_ (i := 4) (N := some 9) (v := ?_) (a' := ?_) #[true, true, false, true, true, false, false, false, false, false] rfl rfl (take_ofW HT_.out HW_.out (by kernel_rfl)) (fun _ _ _ h => h) (Or.inl ⟨by rfl, ?_⟩) hHeld ?_ ?_
  rotate_left
  · rintro w' hbq
    have c_K1 := blk_c' (blk_below K1.out hbq) 0 rfl
    go_simp
    with_reducible rfl
  rotate_left
  · simp only [Act.put, List.setIfInBounds_toArray, List.set_cons_zero, List.set_cons_succ, i64_w, i32_w]
    rfl
  refine pure_ (i := 6) (N := some 11) (v := ?_) (a' := ?_) #[true, true, false, true, true, false, true, false, false, false] rfl rfl (any_of HT_.out (by kernel_rfl)) (fun _ _ _ h => h) (Or.inl ⟨by rfl, ?_⟩) ?_ ?_
  rotate_left
  · intro w'
    go_simp
    with_reducible rfl
  rotate_left
  · simp only [Act.put, List.setIfInBounds_toArray, List.set_cons_zero, List.set_cons_succ, i64_w, i32_w]
    rfl
  refine join2 2 #[true, true, true, true, true, true, true, true, false, false] (fun g c d e => [(7, .slice (some ⟨g, 0, none⟩) 1 1), (10, .func (.func 65) #[] #[.pointer (some ⟨d, 0, none⟩), .pointer (some ⟨e, 0, none⟩)]), (12, .func (.func 66) #[] #[.pointer (some ⟨c, 0, none⟩)])]) (fun g c d e wx => Aside0 (Below wN.heap.size wN wx) ∧ Aside0 (wx.heap[g]? = some (.cells #[.string (str nm)] 9 (0, 0))) ∧ Aside0 (wx.cell? ⟨d, 0, none⟩ = some (.pointer p)) ∧ Aside0 (wx.cell? ⟨e, 0, none⟩ = some (.string (str nm))) ∧ Aside0 (wx.cell? ⟨c, 0, none⟩ = some (.func (.func 53) #[] #[.pointer (some ⟨bd, 0, none⟩), .pointer (some ⟨bn, 0, none⟩)]))) ?_ (fun JJ => ?_)
  rotate_left
  · have HX := Aside0.mk hHeld
    refine two_ (i := 2) (j := 5) (Ni := some 7) (Nj := some 10) #[true, true, true, true, true, false, true, false, false, false] #[true, true, false, true, true, true, true, false, false, false] rfl rfl rfl rfl (two_of HT_.out (by kernel_rfl)) (by decide) (by decide) (fun K hK => ?_) (fun K hK => ?_)
    · refine lit_step (cs := #[.string (str nm)]) (t := 9) (k := 1) (by rfl) (by first | (go_simp; done) | (go_simp; rfl)) ?_
      intro g hg w5 hbox hb
      have KG := Aside0.mk hbox
      clear hbox hg
      replace HX := Aside0.mk (below_step HX.out hb)
      refine hK.out _ _ HX.out (fun hHeld => ?_)
      clear hK K hb
      refine norm_ (a' := ?_) ?_ ?_
      rotate_left
      · show Act.put _ (some 7) _ = _
        simp only [Act.put, List.setIfInBounds_toArray, List.set_cons_zero, List.set_cons_succ, i64_w, i32_w]
        rfl
      refine one_ (i := 5) (N := some 10) #[true, true, true, true, true, true, true, false, false, false] rfl rfl (one_of HT_.out (by kernel_rfl)) (by decide) (fun K hK => ?_)
      · refine goes_ Try.func50 (by kernel_rfl) rfl #[.pointer p, .string (str nm)] (by rfl) rfl rfl (by first | done | rfl | (simp only [List.map_toArray, List.map_cons, List.map_nil]; rfl)) ?_
        refine (there_no p (str nm) _).mono ?_
        rintro e0 w6 ⟨d, e, rfl, h0, h1, hb⟩
        refine ⟨_, rfl, ?_⟩
        have KD := Aside0.mk h0
        have KE := Aside0.mk h1
        clear h0 h1
        replace KG := Aside0.mk (blk_below KG.out hb)
        replace HX := Aside0.mk (below_step HX.out hb)
        refine hK.out _ _ HX.out (fun hHeld => ?_)
        clear hK K hb
        refine norm_ (a' := ?_) ?_ ?_
        rotate_left
        · show Act.put _ (some 10) _ = _
          simp only [Act.put, List.setIfInBounds_toArray, List.set_cons_zero, List.set_cons_succ, i64_w, i32_w]
          rfl
        refine one_ (i := 7) (N := some 12) #[true, true, true, true, true, true, true, true, false, false] rfl rfl (one_of HT_.out (by kernel_rfl)) (by decide) (fun K hK => ?_)
        · refine goes_ Try.func51 (by kernel_rfl) rfl #[.func (.func 53) #[] #[.pointer (some ⟨bd, 0, none⟩), .pointer (some ⟨bn, 0, none⟩)]] (by rfl) rfl rfl (by first | done | rfl | (simp only [List.map_toArray, List.map_cons, List.map_nil]; rfl)) ?_
          refine (unless_at 53 #[.pointer (some ⟨bd, 0, none⟩), .pointer (some ⟨bn, 0, none⟩)] _).mono ?_
          rintro e0 w6 ⟨c, rfl, h0, hb⟩
          refine ⟨_, rfl, ?_⟩
          have KC := Aside0.mk h0
          clear h0
          replace KG := Aside0.mk (blk_below KG.out hb)
          replace KD := Aside0.mk ((hb.cell (World.block_lt_of_cell? _ _ KD.out)).trans KD.out)
          replace KE := Aside0.mk ((hb.cell (World.block_lt_of_cell? _ _ KE.out)).trans KE.out)
          replace HX := Aside0.mk (below_step HX.out hb)
          refine hK.out _ _ HX.out (fun hHeld => ?_)
          clear hK K hb
          refine norm_ ?_ (JJ.out g c d e _ ⟨HX, KG, KD, KE, KC⟩)
          show Act.put _ (some 12) _ = _
          simp only [putAll, Act.put, List.setIfInBounds_toArray, List.set_cons_zero, List.set_cons_succ]
    · refine goes_ Try.func50 (by kernel_rfl) rfl #[.pointer p, .string (str nm)] (by rfl) rfl rfl (by first | done | rfl | (simp only [List.map_toArray, List.map_cons, List.map_nil]; rfl)) ?_
      refine (there_no p (str nm) _).mono ?_
      rintro e0 w6 ⟨d, e, rfl, h0, h1, hb⟩
      refine ⟨_, rfl, ?_⟩
      have KD := Aside0.mk h0
      have KE := Aside0.mk h1
      clear h0 h1
      replace HX := Aside0.mk (below_step HX.out hb)
      refine hK.out _ _ HX.out (fun hHeld => ?_)
      clear hK K hb
      refine norm_ (a' := ?_) ?_ ?_
      rotate_left
      · show Act.put _ (some 10) _ = _
        simp only [Act.put, List.setIfInBounds_toArray, List.set_cons_zero, List.set_cons_succ, i64_w, i32_w]
        rfl
      refine two_ (i := 2) (j := 7) (Ni := some 7) (Nj := some 12) #[true, true, true, true, true, true, true, false, false, false] #[true, true, false, true, true, true, true, true, false, false] rfl rfl rfl rfl (two_of HT_.out (by kernel_rfl)) (by decide) (by decide) (fun K hK => ?_) (fun K hK => ?_)
      · refine lit_step (cs := #[.string (str nm)]) (t := 9) (k := 1) (by rfl) (by first | (go_simp; done) | (go_simp; rfl)) ?_
        intro g hg w5 hbox hb
        have KG := Aside0.mk hbox
        clear hbox hg
        replace KD := Aside0.mk ((hb.cell (World.block_lt_of_cell? _ _ KD.out)).trans KD.out)
        replace KE := Aside0.mk ((hb.cell (World.block_lt_of_cell? _ _ KE.out)).trans KE.out)
        replace HX := Aside0.mk (below_step HX.out hb)
        refine hK.out _ _ HX.out (fun hHeld => ?_)
        clear hK K hb
        refine norm_ (a' := ?_) ?_ ?_
        rotate_left
        · show Act.put _ (some 7) _ = _
          simp only [Act.put, List.setIfInBounds_toArray, List.set_cons_zero, List.set_cons_succ, i64_w, i32_w]
          rfl
        refine one_ (i := 7) (N := some 12) #[true, true, true, true, true, true, true, true, false, false] rfl rfl (one_of HT_.out (by kernel_rfl)) (by decide) (fun K hK => ?_)
        · refine goes_ Try.func51 (by kernel_rfl) rfl #[.func (.func 53) #[] #[.pointer (some ⟨bd, 0, none⟩), .pointer (some ⟨bn, 0, none⟩)]] (by rfl) rfl rfl (by first | done | rfl | (simp only [List.map_toArray, List.map_cons, List.map_nil]; rfl)) ?_
          refine (unless_at 53 #[.pointer (some ⟨bd, 0, none⟩), .pointer (some ⟨bn, 0, none⟩)] _).mono ?_
          rintro e0 w6 ⟨c, rfl, h0, hb⟩
          refine ⟨_, rfl, ?_⟩
          have KC := Aside0.mk h0
          clear h0
          replace KG := Aside0.mk (blk_below KG.out hb)
          replace KD := Aside0.mk ((hb.cell (World.block_lt_of_cell? _ _ KD.out)).trans KD.out)
          replace KE := Aside0.mk ((hb.cell (World.block_lt_of_cell? _ _ KE.out)).trans KE.out)
          replace HX := Aside0.mk (below_step HX.out hb)
          refine hK.out _ _ HX.out (fun hHeld => ?_)
          clear hK K hb
          refine norm_ ?_ (JJ.out g c d e _ ⟨HX, KG, KD, KE, KC⟩)
          show Act.put _ (some 12) _ = _
          simp only [putAll, Act.put, List.setIfInBounds_toArray, List.set_cons_zero, List.set_cons_succ]
      · refine goes_ Try.func51 (by kernel_rfl) rfl #[.func (.func 53) #[] #[.pointer (some ⟨bd, 0, none⟩), .pointer (some ⟨bn, 0, none⟩)]] (by rfl) rfl rfl (by first | done | rfl | (simp only [List.map_toArray, List.map_cons, List.map_nil]; rfl)) ?_
        refine (unless_at 53 #[.pointer (some ⟨bd, 0, none⟩), .pointer (some ⟨bn, 0, none⟩)] _).mono ?_
        rintro e0 w6 ⟨c, rfl, h0, hb⟩
        refine ⟨_, rfl, ?_⟩
        have KC := Aside0.mk h0
        clear h0
        replace KD := Aside0.mk ((hb.cell (World.block_lt_of_cell? _ _ KD.out)).trans KD.out)
        replace KE := Aside0.mk ((hb.cell (World.block_lt_of_cell? _ _ KE.out)).trans KE.out)
        replace HX := Aside0.mk (below_step HX.out hb)
        refine hK.out _ _ HX.out (fun hHeld => ?_)
        clear hK K hb
        refine norm_ (a' := ?_) ?_ ?_
        rotate_left
        · show Act.put _ (some 12) _ = _
          simp only [Act.put, List.setIfInBounds_toArray, List.set_cons_zero, List.set_cons_succ, i64_w, i32_w]
          rfl
        refine one_ (i := 2) (N := some 7) #[true, true, true, true, true, true, true, true, false, false] rfl rfl (one_of HT_.out (by kernel_rfl)) (by decide) (fun K hK => ?_)
        · refine lit_step (cs := #[.string (str nm)]) (t := 9) (k := 1) (by rfl) (by first | (go_simp; done) | (go_simp; rfl)) ?_
          intro g hg w5 hbox hb
          have KG := Aside0.mk hbox
          clear hbox hg
          replace KD := Aside0.mk ((hb.cell (World.block_lt_of_cell? _ _ KD.out)).trans KD.out)
          replace KE := Aside0.mk ((hb.cell (World.block_lt_of_cell? _ _ KE.out)).trans KE.out)
          replace KC := Aside0.mk ((hb.cell (World.block_lt_of_cell? _ _ KC.out)).trans KC.out)
          replace HX := Aside0.mk (below_step HX.out hb)
          refine hK.out _ _ HX.out (fun hHeld => ?_)
          clear hK K hb
          refine norm_ ?_ (JJ.out g c d e _ ⟨HX, KG, KD, KE, KC⟩)
          show Act.put _ (some 7) _ = _
          simp only [putAll, Act.put, List.setIfInBounds_toArray, List.set_cons_zero, List.set_cons_succ]
  rintro g c d e wx ⟨HX, KG, KD, KE, KC⟩
  refine norm_ (a' := ?_) ?_ ?_
  rotate_left
  · simp only [putAll, Act.put, List.setIfInBounds_toArray, List.set_cons_zero, List.set_cons_succ]
    rfl
  refine last_ (i := 8) (N := some 13) #[true, true, true, true, true, true, true, true, true, false] rfl rfl (one_of HT_.out (by kernel_rfl)) (by decide) (fun K hK => ?_)
  refine goes_ Try.func49 (by kernel_rfl) rfl #[.pointer p, .slice (some ⟨g, 0, none⟩) 1 1, .func (.func 65) #[] #[.pointer (some ⟨d, 0, none⟩), .pointer (some ⟨e, 0, none⟩)], .func (.func 66) #[] #[.pointer (some ⟨c, 0, none⟩)]] (by rfl) rfl rfl (by first | done | rfl | (simp only [List.map_toArray, List.map_cons, List.map_nil]; rfl)) ?_
  refine (call_no p _ _ _ _ (HP.out.below (below_step HB.out HX.out))).mono ?_
  rintro e0 w7 ⟨rfl, rfl⟩
  refine ⟨_, rfl, ?_⟩
  refine hK.out _ _ ?_
  have HQ := Aside0.mk (below_step HB.out HX.out)
  clear hK K
  refine norm_ (a' := ?_) ?_ ?_
  rotate_left
  · show Act.put _ (some 13) _ = _
    simp only [Act.put, List.setIfInBounds_toArray, List.set_cons_zero, List.set_cons_succ, i64_w, i32_w]
    rfl
  refine pure_ (i := 9) (N := some 4) (v := ?_) (a' := ?_) #[true, true, true, true, true, true, true, true, true, true] rfl rfl (any_of HT_.out (by kernel_rfl)) (fun _ _ _ h => h) (Or.inl ⟨by rfl, ?_⟩) ?_ ?_
  rotate_left
  · intro w'
    go_simp
    with_reducible rfl
  rotate_left
  · simp only [Act.put, List.setIfInBounds_toArray, List.set_cons_zero, List.set_cons_succ, i64_w, i32_w]
    rfl
  refine done_ (done_of HT_.out (by kernel_rfl)) ?_
  go_wp2
  go_ret
  exact ⟨rfl, HQ.out⟩
set_option maxHeartbeats 8000000 in
set_option maxRecDepth 100000 in
theorem sync_no (p : Option Addr) (nm : Nm) (w : World) (hp : NoDisk w p) :
    Calls Try.prog 32 #[.pointer p, .string (str nm)] w fun e w' => e = .returned (.int .i64 1) ∧ Below w.heap.size w w' := by
  have HP := Aside0.mk hp
  have HB := Aside0.mk (Below.refl w.heap.size w)
  clear hp
  go_enter Try.func32, Try.ntmps32
  go_upto_region 1 with (first | ((with_reducible refine gate_dst (N := 2) rfl ?_); refine box_event ?hg (N := 2) ?hd (cs := #[.pointer p]) (t := 28) ?hr ?_; (case hd => rfl); (case hg => rfl); (case hr => first | (go_simp; done) | (go_simp; rfl)); intro bd hg w3 hbox hb; have n_K0 := Aside0.mk hbox; have n_HB := Aside0.mk (below_step HB.out hb); clear  HB hbox hb hg; have K0 := n_K0; have HB := n_HB; clear n_K0 n_HB) | ((with_reducible refine gate_dst (N := 3) rfl ?_); refine box_event ?hg (N := 3) ?hd (cs := #[.string (str nm)]) (t := 9) ?hr ?_; (case hd => rfl); (case hg => rfl); (case hr => first | (go_simp; done) | (go_simp; rfl)); intro bn hg w3 hbox hb; have n_K1 := Aside0.mk hbox; have n_K0 := Aside0.mk (blk_below K0.out hb); have n_HB := Aside0.mk (below_step HB.out hb); clear K0 HB hbox hb hg; have K0 := n_K0; have K1 := n_K1; have HB := n_HB; clear n_K0 n_K1 n_HB))
  rename World => wN
  refine start_ (n := 10) (S := fun w' => Below wN.heap.size wN w') (ds := [8]) #[false, false, false, false, false, false, false, false, false, false] (by kernel_rfl) rfl rfl (below_drew (Below.refl _ _)) (fun hHeld => ?_)
  refine with_tabW r32_1.tab r32_1.bits (fun HT_ HW_ => ?_)
  generalize wN.drew = wd at hHeld ⊢
  refine take_ (i := 0) (N := some 5) (v := ?_) (a' := ?_) #[true, false, false, false, false, false, false, false, false, false] rfl rfl (take_ofW HT_.out HW_.out (by kernel_rfl)) (fun _ _ _ h => h) (Or.inl ⟨by rfl, ?_⟩) hHeld ?_ ?_
  rotate_left
  · rintro w' hbq
    have c_K0 := blk_c' (blk_below K0.out hbq) 0 rfl
    go_simp
    with_reducible rfl
  rotate_left
  · simp only [Act.put, List.setIfInBounds_toArray, List.set_cons_zero, List.set_cons_succ, i64_w, i32_w]
    rfl
  refine take_ (i := 1) (N := some 6) (v := ?_) (a' := ?_) #[true, true, false, false, false, false, false, false, false, false] rfl rfl (take_ofW HT_.out HW_.out (by kernel_rfl)) (fun _ _ _ h => h) (Or.inl ⟨by rfl, ?_⟩) hHeld ?_ ?_
  rotate_left
  · rintro w' hbq
    have c_K1 := blk_c' (blk_below K1.out hbq) 0 rfl
    go_simp
    with_reducible rfl
  rotate_left
  · simp only [Act.put, List.setIfInBounds_toArray, List.set_cons_zero, List.set_cons_succ, i64_w, i32_w]
    rfl
  refine take_ (i := 3) (N := some 8) (v := ?_) (a' := ?_) #[true, true, false, true, false, false, false, false, false, false] rfl rfl (take_ofW HT_.out HW_.out (by kernel_rfl)) (fun _ _ _ h => h) (Or.inl ⟨by rfl, ?_⟩) hHeld ?_ ?_
  rotate_left
  · rintro w' hbq
    have c_K0 := blk_c' (blk_below K0.out hbq) 0 rfl
    go_simp
    with_reducible rfl
  rotate_left
  · simp only [Act.put, List.setIfInBounds_toArray, List.set_cons_zero, List.set_cons_succ, i64_w, i32_w]
    rfl
  refine take_ (i := 4) (N := some 9) (v := ?_) (a' := ?_) #[true, true, false, true, true, false, false, false, false, false] rfl rfl (take_ofW HT_.out HW_.out (by kernel_rfl)) (fun _ _ _ h => h) (Or.inl ⟨by rfl, ?_⟩) hHeld ?_ ?_
  rotate_left
  · rintro w' hbq
    have c_K1 := blk_c' (blk_below K1.out hbq) 0 rfl
    go_simp
    with_reducible rfl
  rotate_left
  · simp only [Act.put, List.setIfInBounds_toArray, List.set_cons_zero, List.set_cons_succ, i64_w, i32_w]
    rfl
  refine pure_ (i := 6) (N := some 11) (v := ?_) (a' := ?_) #[true, true, false, true, true, false, true, false, false, false] rfl rfl (any_of HT_.out (by kernel_rfl)) (fun _ _ _ h => h) (Or.inl ⟨by rfl, ?_⟩) ?_ ?_
  rotate_left
  · intro w'
    go_simp
    with_reducible rfl
  rotate_left
  · simp only [Act.put, List.setIfInBounds_toArray, List.set_cons_zero, List.set_cons_succ, i64_w, i32_w]
    rfl
  refine join2 2 #[true, true, true, true, true, true, true, true, false, false] (fun g c d e => [(7, .slice (some ⟨g, 0, none⟩) 1 1), (10, .func (.func 65) #[] #[.pointer (some ⟨d, 0, none⟩), .pointer (some ⟨e, 0, none⟩)]), (12, .func (.func 66) #[] #[.pointer (some ⟨c, 0, none⟩)])]) (fun g c d e wx => Aside0 (Below wN.heap.size wN wx) ∧ Aside0 (wx.heap[g]? = some (.cells #[.string (str nm)] 9 (0, 0))) ∧ Aside0 (wx.cell? ⟨d, 0, none⟩ = some (.pointer p)) ∧ Aside0 (wx.cell? ⟨e, 0, none⟩ = some (.string (str nm))) ∧ Aside0 (wx.cell? ⟨c, 0, none⟩ = some (.func (.func 57) #[] #[.pointer (some ⟨bd, 0, none⟩), .pointer (some ⟨bn, 0, none⟩)]))) ?_ (fun JJ => ?_)
  rotate_left
  · have HX := Aside0.mk hHeld
    refine two_ (i := 2) (j := 5) (Ni := some 7) (Nj := some 10) #[true, true, true, true, true, false, true, false, false, false] #[true, true, false, true, true, true, true, false, false, false] rfl rfl rfl rfl (two_of HT_.out (by kernel_rfl)) (by decide) (by decide) (fun K hK => ?_) (fun K hK => ?_)
    · refine lit_step (cs := #[.string (str nm)]) (t := 9) (k := 1) (by rfl) (by first | (go_simp; done) | (go_simp; rfl)) ?_
      intro g hg w5 hbox hb
      have KG := Aside0.mk hbox
      clear hbox hg
      replace HX := Aside0.mk (below_step HX.out hb)
      refine hK.out _ _ HX.out (fun hHeld => ?_)
      clear hK K hb
      refine norm_ (a' := ?_) ?_ ?_
      rotate_left
      · show Act.put _ (some 7) _ = _
        simp only [Act.put, List.setIfInBounds_toArray, List.set_cons_zero, List.set_cons_succ, i64_w, i32_w]
        rfl
      refine one_ (i := 5) (N := some 10) #[true, true, true, true, true, true, true, false, false, false] rfl rfl (one_of HT_.out (by kernel_rfl)) (by decide) (fun K hK => ?_)
      · refine goes_ Try.func50 (by kernel_rfl) rfl #[.pointer p, .string (str nm)] (by rfl) rfl rfl (by first | done | rfl | (simp only [List.map_toArray, List.map_cons, List.map_nil]; rfl)) ?_
        refine (there_no p (str nm) _).mono ?_
        rintro e0 w6 ⟨d, e, rfl, h0, h1, hb⟩
        refine ⟨_, rfl, ?_⟩
        have KD := Aside0.mk h0
        have KE := Aside0.mk h1
        clear h0 h1
        replace KG := Aside0.mk (blk_below KG.out hb)
        replace HX := Aside0.mk (below_step HX.out hb)
        refine hK.out _ _ HX.out (fun hHeld => ?_)
        clear hK K hb
        refine norm_ (a' := ?_) ?_ ?_
        rotate_left
        · show Act.put _ (some 10) _ = _
          simp only [Act.put, List.setIfInBounds_toArray, List.set_cons_zero, List.set_cons_succ, i64_w, i32_w]
          rfl
        refine one_ (i := 7) (N := some 12) #[true, true, true, true, true, true, true, true, false, false] rfl rfl (one_of HT_.out (by kernel_rfl)) (by decide) (fun K hK => ?_)
        · refine goes_ Try.func51 (by kernel_rfl) rfl #[.func (.func 57) #[] #[.pointer (some ⟨bd, 0, none⟩), .pointer (some ⟨bn, 0, none⟩)]] (by rfl) rfl rfl (by first | done | rfl | (simp only [List.map_toArray, List.map_cons, List.map_nil]; rfl)) ?_
          refine (unless_at 57 #[.pointer (some ⟨bd, 0, none⟩), .pointer (some ⟨bn, 0, none⟩)] _).mono ?_
          rintro e0 w6 ⟨c, rfl, h0, hb⟩
          refine ⟨_, rfl, ?_⟩
          have KC := Aside0.mk h0
          clear h0
          replace KG := Aside0.mk (blk_below KG.out hb)
          replace KD := Aside0.mk ((hb.cell (World.block_lt_of_cell? _ _ KD.out)).trans KD.out)
          replace KE := Aside0.mk ((hb.cell (World.block_lt_of_cell? _ _ KE.out)).trans KE.out)
          replace HX := Aside0.mk (below_step HX.out hb)
          refine hK.out _ _ HX.out (fun hHeld => ?_)
          clear hK K hb
          refine norm_ ?_ (JJ.out g c d e _ ⟨HX, KG, KD, KE, KC⟩)
          show Act.put _ (some 12) _ = _
          simp only [putAll, Act.put, List.setIfInBounds_toArray, List.set_cons_zero, List.set_cons_succ]
    · refine goes_ Try.func50 (by kernel_rfl) rfl #[.pointer p, .string (str nm)] (by rfl) rfl rfl (by first | done | rfl | (simp only [List.map_toArray, List.map_cons, List.map_nil]; rfl)) ?_
      refine (there_no p (str nm) _).mono ?_
      rintro e0 w6 ⟨d, e, rfl, h0, h1, hb⟩
      refine ⟨_, rfl, ?_⟩
      have KD := Aside0.mk h0
      have KE := Aside0.mk h1
      clear h0 h1
      replace HX := Aside0.mk (below_step HX.out hb)
      refine hK.out _ _ HX.out (fun hHeld => ?_)
      clear hK K hb
      refine norm_ (a' := ?_) ?_ ?_
      rotate_left
      · show Act.put _ (some 10) _ = _
        simp only [Act.put, List.setIfInBounds_toArray, List.set_cons_zero, List.set_cons_succ, i64_w, i32_w]
        rfl
      refine two_ (i := 2) (j := 7) (Ni := some 7) (Nj := some 12) #[true, true, true, true, true, true, true, false, false, false] #[true, true, false, true, true, true, true, true, false, false] rfl rfl rfl rfl (two_of HT_.out (by kernel_rfl)) (by decide) (by decide) (fun K hK => ?_) (fun K hK => ?_)
      · refine lit_step (cs := #[.string (str nm)]) (t := 9) (k := 1) (by rfl) (by first | (go_simp; done) | (go_simp; rfl)) ?_
        intro g hg w5 hbox hb
        have KG := Aside0.mk hbox
        clear hbox hg
        replace KD := Aside0.mk ((hb.cell (World.block_lt_of_cell? _ _ KD.out)).trans KD.out)
        replace KE := Aside0.mk ((hb.cell (World.block_lt_of_cell? _ _ KE.out)).trans KE.out)
        replace HX := Aside0.mk (below_step HX.out hb)
        refine hK.out _ _ HX.out (fun hHeld => ?_)
        clear hK K hb
        refine norm_ (a' := ?_) ?_ ?_
        rotate_left
        · show Act.put _ (some 7) _ = _
          simp only [Act.put, List.setIfInBounds_toArray, List.set_cons_zero, List.set_cons_succ, i64_w, i32_w]
          rfl
        refine one_ (i := 7) (N := some 12) #[true, true, true, true, true, true, true, true, false, false] rfl rfl (one_of HT_.out (by kernel_rfl)) (by decide) (fun K hK => ?_)
        · refine goes_ Try.func51 (by kernel_rfl) rfl #[.func (.func 57) #[] #[.pointer (some ⟨bd, 0, none⟩), .pointer (some ⟨bn, 0, none⟩)]] (by rfl) rfl rfl (by first | done | rfl | (simp only [List.map_toArray, List.map_cons, List.map_nil]; rfl)) ?_
          refine (unless_at 57 #[.pointer (some ⟨bd, 0, none⟩), .pointer (some ⟨bn, 0, none⟩)] _).mono ?_
          rintro e0 w6 ⟨c, rfl, h0, hb⟩
          refine ⟨_, rfl, ?_⟩
          have KC := Aside0.mk h0
          clear h0
          replace KG := Aside0.mk (blk_below KG.out hb)
          replace KD := Aside0.mk ((hb.cell (World.block_lt_of_cell? _ _ KD.out)).trans KD.out)
          replace KE := Aside0.mk ((hb.cell (World.block_lt_of_cell? _ _ KE.out)).trans KE.out)
          replace HX := Aside0.mk (below_step HX.out hb)
          refine hK.out _ _ HX.out (fun hHeld => ?_)
          clear hK K hb
          refine norm_ ?_ (JJ.out g c d e _ ⟨HX, KG, KD, KE, KC⟩)
          show Act.put _ (some 12) _ = _
          simp only [putAll, Act.put, List.setIfInBounds_toArray, List.set_cons_zero, List.set_cons_succ]
      · refine goes_ Try.func51 (by kernel_rfl) rfl #[.func (.func 57) #[] #[.pointer (some ⟨bd, 0, none⟩), .pointer (some ⟨bn, 0, none⟩)]] (by rfl) rfl rfl (by first | done | rfl | (simp only [List.map_toArray, List.map_cons, List.map_nil]; rfl)) ?_
        refine (unless_at 57 #[.pointer (some ⟨bd, 0, none⟩), .pointer (some ⟨bn, 0, none⟩)] _).mono ?_
        rintro e0 w6 ⟨c, rfl, h0, hb⟩
        refine ⟨_, rfl, ?_⟩
        have KC := Aside0.mk h0
        clear h0
        replace KD := Aside0.mk ((hb.cell (World.block_lt_of_cell? _ _ KD.out)).trans KD.out)
        replace KE := Aside0.mk ((hb.cell (World.block_lt_of_cell? _ _ KE.out)).trans KE.out)
        replace HX := Aside0.mk (below_step HX.out hb)
        refine hK.out _ _ HX.out (fun hHeld => ?_)
        clear hK K hb
        refine norm_ (a' := ?_) ?_ ?_
        rotate_left
        · show Act.put _ (some 12) _ = _
          simp only [Act.put, List.setIfInBounds_toArray, List.set_cons_zero, List.set_cons_succ, i64_w, i32_w]
          rfl
        refine one_ (i := 2) (N := some 7) #[true, true, true, true, true, true, true, true, false, false] rfl rfl (one_of HT_.out (by kernel_rfl)) (by decide) (fun K hK => ?_)
        · refine lit_step (cs := #[.string (str nm)]) (t := 9) (k := 1) (by rfl) (by first | (go_simp; done) | (go_simp; rfl)) ?_
          intro g hg w5 hbox hb
          have KG := Aside0.mk hbox
          clear hbox hg
          replace KD := Aside0.mk ((hb.cell (World.block_lt_of_cell? _ _ KD.out)).trans KD.out)
          replace KE := Aside0.mk ((hb.cell (World.block_lt_of_cell? _ _ KE.out)).trans KE.out)
          replace KC := Aside0.mk ((hb.cell (World.block_lt_of_cell? _ _ KC.out)).trans KC.out)
          replace HX := Aside0.mk (below_step HX.out hb)
          refine hK.out _ _ HX.out (fun hHeld => ?_)
          clear hK K hb
          refine norm_ ?_ (JJ.out g c d e _ ⟨HX, KG, KD, KE, KC⟩)
          show Act.put _ (some 7) _ = _
          simp only [putAll, Act.put, List.setIfInBounds_toArray, List.set_cons_zero, List.set_cons_succ]
  rintro g c d e wx ⟨HX, KG, KD, KE, KC⟩
  refine norm_ (a' := ?_) ?_ ?_
  rotate_left
  · simp only [putAll, Act.put, List.setIfInBounds_toArray, List.set_cons_zero, List.set_cons_succ]
    rfl
  refine last_ (i := 8) (N := some 13) #[true, true, true, true, true, true, true, true, true, false] rfl rfl (one_of HT_.out (by kernel_rfl)) (by decide) (fun K hK => ?_)
  refine goes_ Try.func49 (by kernel_rfl) rfl #[.pointer p, .slice (some ⟨g, 0, none⟩) 1 1, .func (.func 65) #[] #[.pointer (some ⟨d, 0, none⟩), .pointer (some ⟨e, 0, none⟩)], .func (.func 66) #[] #[.pointer (some ⟨c, 0, none⟩)]] (by rfl) rfl rfl (by first | done | rfl | (simp only [List.map_toArray, List.map_cons, List.map_nil]; rfl)) ?_
  refine (call_no p _ _ _ _ (HP.out.below (below_step HB.out HX.out))).mono ?_
  rintro e0 w7 ⟨rfl, rfl⟩
  refine ⟨_, rfl, ?_⟩
  refine hK.out _ _ ?_
  have HQ := Aside0.mk (below_step HB.out HX.out)
  clear hK K
  refine norm_ (a' := ?_) ?_ ?_
  rotate_left
  · show Act.put _ (some 13) _ = _
    simp only [Act.put, List.setIfInBounds_toArray, List.set_cons_zero, List.set_cons_succ, i64_w, i32_w]
    rfl
  refine pure_ (i := 9) (N := some 4) (v := ?_) (a' := ?_) #[true, true, true, true, true, true, true, true, true, true] rfl rfl (any_of HT_.out (by kernel_rfl)) (fun _ _ _ h => h) (Or.inl ⟨by rfl, ?_⟩) ?_ ?_
  rotate_left
  · intro w'
    go_simp
    with_reducible rfl
  rotate_left
  · simp only [Act.put, List.setIfInBounds_toArray, List.set_cons_zero, List.set_cons_succ, i64_w, i32_w]
    rfl
  refine done_ (done_of HT_.out (by kernel_rfl)) ?_
  go_wp2
  go_ret
  exact ⟨rfl, HQ.out⟩
set_option maxHeartbeats 8000000 in
set_option maxRecDepth 100000 in
theorem rename_no (p : Option Addr) (old : Nm) (nm : Nm) (w : World) (hp : NoDisk w p) :
    Calls Try.prog 26 #[.pointer p, .string (str old), .string (str nm)] w fun e w' => e = .returned (.int .i64 1) ∧ Below w.heap.size w w' := by
  have HP := Aside0.mk hp
  have HB := Aside0.mk (Below.refl w.heap.size w)
  clear hp
  go_enter Try.func26, Try.ntmps26
  go_upto_region 1 with (first | ((with_reducible refine gate_dst (N := 3) rfl ?_); refine box_event ?hg (N := 3) ?hd (cs := #[.pointer p]) (t := 28) ?hr ?_; (case hd => rfl); (case hg => rfl); (case hr => first | (go_simp; done) | (go_simp; rfl)); intro bd hg w3 hbox hb; have n_K0 := Aside0.mk hbox; have n_HB := Aside0.mk (below_step HB.out hb); clear  HB hbox hb hg; have K0 := n_K0; have HB := n_HB; clear n_K0 n_HB) | ((with_reducible refine gate_dst (N := 4) rfl ?_); refine box_event ?hg (N := 4) ?hd (cs := #[.string (str old)]) (t := 9) ?hr ?_; (case hd => rfl); (case hg => rfl); (case hr => first | (go_simp; done) | (go_simp; rfl)); intro bo hg w3 hbox hb; have n_K1 := Aside0.mk hbox; have n_K0 := Aside0.mk (blk_below K0.out hb); have n_HB := Aside0.mk (below_step HB.out hb); clear K0 HB hbox hb hg; have K0 := n_K0; have K1 := n_K1; have HB := n_HB; clear n_K0 n_K1 n_HB) | ((with_reducible refine gate_dst (N := 5) rfl ?_); refine box_event ?hg (N := 5) ?hd (cs := #[.string (str nm)]) (t := 9) ?hr ?_; (case hd => rfl); (case hg => rfl); (case hr => first | (go_simp; done) | (go_simp; rfl)); intro bn hg w3 hbox hb; have n_K2 := Aside0.mk hbox; have n_K0 := Aside0.mk (blk_below K0.out hb); have n_K1 := Aside0.mk (blk_below K1.out hb); have n_HB := Aside0.mk (below_step HB.out hb); clear K0 K1 HB hbox hb hg; have K0 := n_K0; have K1 := n_K1; have K2 := n_K2; have HB := n_HB; clear n_K0 n_K1 n_K2 n_HB))
  rename World => wN
  refine start_ (n := 11) (S := fun w' => Below wN.heap.size wN w') (ds := [9]) #[false, false, false, false, false, false, false, false, false, false, false] (by kernel_rfl) rfl rfl (below_drew (Below.refl _ _)) (fun hHeld => ?_)
  refine with_tabW r26_1.tab r26_1.bits (fun HT_ HW_ => ?_)
  generalize wN.drew = wd at hHeld ⊢
  refine take_ (i := 0) (N := some 7) (v := ?_) (a' := ?_) #[true, false, false, false, false, false, false, false, false, false, false] rfl rfl (take_ofW HT_.out HW_.out (by kernel_rfl)) (fun _ _ _ h => h) (Or.inl ⟨by rfl, ?_⟩) hHeld ?_ ?_
  rotate_left
  · rintro w' hbq
    have c_K0 := blk_c' (blk_below K0.out hbq) 0 rfl
    go_simp
    with_reducible rfl
  rotate_left
  · simp only [Act.put, List.setIfInBounds_toArray, List.set_cons_zero, List.set_cons_succ, i64_w, i32_w]
    rfl
  refine take_ (i := 1) (N := some 8) (v := ?_) (a' := ?_) #[true, true, false, false, false, false, false, false, false, false, false] rfl rfl (take_ofW HT_.out HW_.out (by kernel_rfl)) (fun _ _ _ h => h) (Or.inl ⟨by rfl, ?_⟩) hHeld ?_ ?_
  rotate_left
  · rintro w' hbq
    have c_K1 := blk_c' (blk_below K1.out hbq) 0 rfl
    go_simp
    with_reducible rfl
  rotate_left
  · simp only [Act.put, List.setIfInBounds_toArray, List.set_cons_zero, List.set_cons_succ, i64_w, i32_w]
    rfl
  refine take_ (i := 2) (N := some 9) (v := ?_) (a' := ?_) #[true, true, true, false, false, false, false, false, false, false, false] rfl rfl (take_ofW HT_.out HW_.out (by kernel_rfl)) (fun _ _ _ h => h) (Or.inl ⟨by rfl, ?_⟩) hHeld ?_ ?_
  rotate_left
  · rintro w' hbq
    have c_K2 := blk_c' (blk_below K2.out hbq) 0 rfl
    go_simp
    with_reducible rfl
  rotate_left
  · simp only [Act.put, List.setIfInBounds_toArray, List.set_cons_zero, List.set_cons_succ, i64_w, i32_w]
    rfl
  refine take_ (i := 4) (N := some 11) (v := ?_) (a' := ?_) #[true, true, true, false, true, false, false, false, false, false, false] rfl rfl (take_ofW HT_.out HW_.out (by kernel_rfl)) (fun _ _ _ h => h) (Or.inl ⟨by rfl, ?_⟩) hHeld ?_ ?_
  rotate_left
  · rintro w' hbq
    have c_K0 := blk_c' (blk_below K0.out hbq) 0 rfl
    go_simp
    with_reducible rfl
  rotate_left
  · simp only [Act.put, List.setIfInBounds_toArray, List.set_cons_zero, List.set_cons_succ, i64_w, i32_w]
    rfl
  refine take_ (i := 5) (N := some 12) (v := ?_) (a' := ?_) #[true, true, true, false, true, true, false, false, false, false, false] rfl rfl (take_ofW HT_.out HW_.out (by kernel_rfl)) (fun _ _ _ h => h) (Or.inl ⟨by rfl, ?_⟩) hHeld ?_ ?_
  rotate_left
  · rintro w' hbq
    have c_K1 := blk_c' (blk_below K1.out hbq) 0 rfl
    go_simp
    with_reducible rfl
  rotate_left
  · simp only [Act.put, List.setIfInBounds_toArray, List.set_cons_zero, List.set_cons_succ, i64_w, i32_w]
    rfl
  refine pure_ (i := 7) (N := some 14) (v := ?_) (a' := ?_) #[true, true, true, false, true, true, false, true, false, false, false] rfl rfl (any_of HT_.out (by kernel_rfl)) (fun _ _ _ h => h) (Or.inl ⟨by rfl, ?_⟩) ?_ ?_
  rotate_left
  · intro w'
    go_simp
    with_reducible rfl
  rotate_left
  · simp only [Act.put, List.setIfInBounds_toArray, List.set_cons_zero, List.set_cons_succ, i64_w, i32_w]
    rfl
  refine join2 2 #[true, true, true, true, true, true, true, true, true, false, false] (fun g c d e => [(10, .slice (some ⟨g, 0, none⟩) 2 2), (13, .func (.func 65) #[] #[.pointer (some ⟨d, 0, none⟩), .pointer (some ⟨e, 0, none⟩)]), (15, .func (.func 66) #[] #[.pointer (some ⟨c, 0, none⟩)])]) (fun g c d e wx => Aside0 (Below wN.heap.size wN wx) ∧ Aside0 (wx.heap[g]? = some (.cells #[.string (str old), .string (str nm)] 9 (0, 0))) ∧ Aside0 (wx.cell? ⟨d, 0, none⟩ = some (.pointer p)) ∧ Aside0 (wx.cell? ⟨e, 0, none⟩ = some (.string (str old))) ∧ Aside0 (wx.cell? ⟨c, 0, none⟩ = some (.func (.func 52) #[] #[.pointer (some ⟨bd, 0, none⟩), .pointer (some ⟨bo, 0, none⟩), .pointer (some ⟨bn, 0, none⟩)]))) ?_ (fun JJ => ?_)
  rotate_left
  · have HX := Aside0.mk hHeld
    refine two_ (i := 3) (j := 6) (Ni := some 10) (Nj := some 13) #[true, true, true, true, true, true, false, true, false, false, false] #[true, true, true, false, true, true, true, true, false, false, false] rfl rfl rfl rfl (two_of HT_.out (by kernel_rfl)) (by decide) (by decide) (fun K hK => ?_) (fun K hK => ?_)
    · refine lit_step (cs := #[.string (str old), .string (str nm)]) (t := 9) (k := 2) (by rfl) (by first | (go_simp; done) | (go_simp; rfl)) ?_
      intro g hg w5 hbox hb
      have KG := Aside0.mk hbox
      clear hbox hg
      replace HX := Aside0.mk (below_step HX.out hb)
      refine hK.out _ _ HX.out (fun hHeld => ?_)
      clear hK K hb
      refine norm_ (a' := ?_) ?_ ?_
      rotate_left
      · show Act.put _ (some 10) _ = _
        simp only [Act.put, List.setIfInBounds_toArray, List.set_cons_zero, List.set_cons_succ, i64_w, i32_w]
        rfl
      refine one_ (i := 6) (N := some 13) #[true, true, true, true, true, true, true, true, false, false, false] rfl rfl (one_of HT_.out (by kernel_rfl)) (by decide) (fun K hK => ?_)
      · refine goes_ Try.func50 (by kernel_rfl) rfl #[.pointer p, .string (str old)] (by rfl) rfl rfl (by first | done | rfl | (simp only [List.map_toArray, List.map_cons, List.map_nil]; rfl)) ?_
        refine (there_no p (str old) _).mono ?_
        rintro e0 w6 ⟨d, e, rfl, h0, h1, hb⟩
        refine ⟨_, rfl, ?_⟩
        have KD := Aside0.mk h0
        have KE := Aside0.mk h1
        clear h0 h1
        replace KG := Aside0.mk (blk_below KG.out hb)
        replace HX := Aside0.mk (below_step HX.out hb)
        refine hK.out _ _ HX.out (fun hHeld => ?_)
        clear hK K hb
        refine norm_ (a' := ?_) ?_ ?_
        rotate_left
        · show Act.put _ (some 13) _ = _
          simp only [Act.put, List.setIfInBounds_toArray, List.set_cons_zero, List.set_cons_succ, i64_w, i32_w]
          rfl
        refine one_ (i := 8) (N := some 15) #[true, true, true, true, true, true, true, true, true, false, false] rfl rfl (one_of HT_.out (by kernel_rfl)) (by decide) (fun K hK => ?_)
        · refine goes_ Try.func51 (by kernel_rfl) rfl #[.func (.func 52) #[] #[.pointer (some ⟨bd, 0, none⟩), .pointer (some ⟨bo, 0, none⟩), .pointer (some ⟨bn, 0, none⟩)]] (by rfl) rfl rfl (by first | done | rfl | (simp only [List.map_toArray, List.map_cons, List.map_nil]; rfl)) ?_
          refine (unless_at 52 #[.pointer (some ⟨bd, 0, none⟩), .pointer (some ⟨bo, 0, none⟩), .pointer (some ⟨bn, 0, none⟩)] _).mono ?_
          rintro e0 w6 ⟨c, rfl, h0, hb⟩
          refine ⟨_, rfl, ?_⟩
          have KC := Aside0.mk h0
          clear h0
          replace KG := Aside0.mk (blk_below KG.out hb)
          replace KD := Aside0.mk ((hb.cell (World.block_lt_of_cell? _ _ KD.out)).trans KD.out)
          replace KE := Aside0.mk ((hb.cell (World.block_lt_of_cell? _ _ KE.out)).trans KE.out)
          replace HX := Aside0.mk (below_step HX.out hb)
          refine hK.out _ _ HX.out (fun hHeld => ?_)
          clear hK K hb
          refine norm_ ?_ (JJ.out g c d e _ ⟨HX, KG, KD, KE, KC⟩)
          show Act.put _ (some 15) _ = _
          simp only [putAll, Act.put, List.setIfInBounds_toArray, List.set_cons_zero, List.set_cons_succ]
    · refine goes_ Try.func50 (by kernel_rfl) rfl #[.pointer p, .string (str old)] (by rfl) rfl rfl (by first | done | rfl | (simp only [List.map_toArray, List.map_cons, List.map_nil]; rfl)) ?_
      refine (there_no p (str old) _).mono ?_
      rintro e0 w6 ⟨d, e, rfl, h0, h1, hb⟩
      refine ⟨_, rfl, ?_⟩
      have KD := Aside0.mk h0
      have KE := Aside0.mk h1
      clear h0 h1
      replace HX := Aside0.mk (below_step HX.out hb)
      refine hK.out _ _ HX.out (fun hHeld => ?_)
      clear hK K hb
      refine norm_ (a' := ?_) ?_ ?_
      rotate_left
      · show Act.put _ (some 13) _ = _
        simp only [Act.put, List.setIfInBounds_toArray, List.set_cons_zero, List.set_cons_succ, i64_w, i32_w]
        rfl
      refine two_ (i := 3) (j := 8) (Ni := some 10) (Nj := some 15) #[true, true, true, true, true, true, true, true, false, false, false] #[true, true, true, false, true, true, true, true, true, false, false] rfl rfl rfl rfl (two_of HT_.out (by kernel_rfl)) (by decide) (by decide) (fun K hK => ?_) (fun K hK => ?_)
      · refine lit_step (cs := #[.string (str old), .string (str nm)]) (t := 9) (k := 2) (by rfl) (by first | (go_simp; done) | (go_simp; rfl)) ?_
        intro g hg w5 hbox hb
        have KG := Aside0.mk hbox
        clear hbox hg
        replace KD := Aside0.mk ((hb.cell (World.block_lt_of_cell? _ _ KD.out)).trans KD.out)
        replace KE := Aside0.mk ((hb.cell (World.block_lt_of_cell? _ _ KE.out)).trans KE.out)
        replace HX := Aside0.mk (below_step HX.out hb)
        refine hK.out _ _ HX.out (fun hHeld => ?_)
        clear hK K hb
        refine norm_ (a' := ?_) ?_ ?_
        rotate_left
        · show Act.put _ (some 10) _ = _
          simp only [Act.put, List.setIfInBounds_toArray, List.set_cons_zero, List.set_cons_succ, i64_w, i32_w]
          rfl
        refine one_ (i := 8) (N := some 15) #[true, true, true, true, true, true, true, true, true, false, false] rfl rfl (one_of HT_.out (by kernel_rfl)) (by decide) (fun K hK => ?_)
        · refine goes_ Try.func51 (by kernel_rfl) rfl #[.func (.func 52) #[] #[.pointer (some ⟨bd, 0, none⟩), .pointer (some ⟨bo, 0, none⟩), .pointer (some ⟨bn, 0, none⟩)]] (by rfl) rfl rfl (by first | done | rfl | (simp only [List.map_toArray, List.map_cons, List.map_nil]; rfl)) ?_
          refine (unless_at 52 #[.pointer (some ⟨bd, 0, none⟩), .pointer (some ⟨bo, 0, none⟩), .pointer (some ⟨bn, 0, none⟩)] _).mono ?_
          rintro e0 w6 ⟨c, rfl, h0, hb⟩
          refine ⟨_, rfl, ?_⟩
          have KC := Aside0.mk h0
          clear h0
          replace KG := Aside0.mk (blk_below KG.out hb)
          replace KD := Aside0.mk ((hb.cell (World.block_lt_of_cell? _ _ KD.out)).trans KD.out)
          replace KE := Aside0.mk ((hb.cell (World.block_lt_of_cell? _ _ KE.out)).trans KE.out)
          replace HX := Aside0.mk (below_step HX.out hb)
          refine hK.out _ _ HX.out (fun hHeld => ?_)
          clear hK K hb
          refine norm_ ?_ (JJ.out g c d e _ ⟨HX, KG, KD, KE, KC⟩)
          show Act.put _ (some 15) _ = _
          simp only [putAll, Act.put, List.setIfInBounds_toArray, List.set_cons_zero, List.set_cons_succ]
      · refine goes_ Try.func51 (by kernel_rfl) rfl #[.func (.func 52) #[] #[.pointer (some ⟨bd, 0, none⟩), .pointer (some ⟨bo, 0, none⟩), .pointer (some ⟨bn, 0, none⟩)]] (by rfl) rfl rfl (by first | done | rfl | (simp only [List.map_toArray, List.map_cons, List.map_nil]; rfl)) ?_
        refine (unless_at 52 #[.pointer (some ⟨bd, 0, none⟩), .pointer (some ⟨bo, 0, none⟩), .pointer (some ⟨bn, 0, none⟩)] _).mono ?_
        rintro e0 w6 ⟨c, rfl, h0, hb⟩
        refine ⟨_, rfl, ?_⟩
        have KC := Aside0.mk h0
        clear h0
        replace KD := Aside0.mk ((hb.cell (World.block_lt_of_cell? _ _ KD.out)).trans KD.out)
        replace KE := Aside0.mk ((hb.cell (World.block_lt_of_cell? _ _ KE.out)).trans KE.out)
        replace HX := Aside0.mk (below_step HX.out hb)
        refine hK.out _ _ HX.out (fun hHeld => ?_)
        clear hK K hb
        refine norm_ (a' := ?_) ?_ ?_
        rotate_left
        · show Act.put _ (some 15) _ = _
          simp only [Act.put, List.setIfInBounds_toArray, List.set_cons_zero, List.set_cons_succ, i64_w, i32_w]
          rfl
        refine one_ (i := 3) (N := some 10) #[true, true, true, true, true, true, true, true, true, false, false] rfl rfl (one_of HT_.out (by kernel_rfl)) (by decide) (fun K hK => ?_)
        · refine lit_step (cs := #[.string (str old), .string (str nm)]) (t := 9) (k := 2) (by rfl) (by first | (go_simp; done) | (go_simp; rfl)) ?_
          intro g hg w5 hbox hb
          have KG := Aside0.mk hbox
          clear hbox hg
          replace KD := Aside0.mk ((hb.cell (World.block_lt_of_cell? _ _ KD.out)).trans KD.out)
          replace KE := Aside0.mk ((hb.cell (World.block_lt_of_cell? _ _ KE.out)).trans KE.out)
          replace KC := Aside0.mk ((hb.cell (World.block_lt_of_cell? _ _ KC.out)).trans KC.out)
          replace HX := Aside0.mk (below_step HX.out hb)
          refine hK.out _ _ HX.out (fun hHeld => ?_)
          clear hK K hb
          refine norm_ ?_ (JJ.out g c d e _ ⟨HX, KG, KD, KE, KC⟩)
          show Act.put _ (some 10) _ = _
          simp only [putAll, Act.put, List.setIfInBounds_toArray, List.set_cons_zero, List.set_cons_succ]
  rintro g c d e wx ⟨HX, KG, KD, KE, KC⟩
  refine norm_ (a' := ?_) ?_ ?_
  rotate_left
  · simp only [putAll, Act.put, List.setIfInBounds_toArray, List.set_cons_zero, List.set_cons_succ]
    rfl
  refine last_ (i := 9) (N := some 16) #[true, true, true, true, true, true, true, true, true, true, false] rfl rfl (one_of HT_.out (by kernel_rfl)) (by decide) (fun K hK => ?_)
  refine goes_ Try.func49 (by kernel_rfl) rfl #[.pointer p, .slice (some ⟨g, 0, none⟩) 2 2, .func (.func 65) #[] #[.pointer (some ⟨d, 0, none⟩), .pointer (some ⟨e, 0, none⟩)], .func (.func 66) #[] #[.pointer (some ⟨c, 0, none⟩)]] (by rfl) rfl rfl (by first | done | rfl | (simp only [List.map_toArray, List.map_cons, List.map_nil]; rfl)) ?_
  refine (call_no p _ _ _ _ (HP.out.below (below_step HB.out HX.out))).mono ?_
  rintro e0 w7 ⟨rfl, rfl⟩
  refine ⟨_, rfl, ?_⟩
  refine hK.out _ _ ?_
  have HQ := Aside0.mk (below_step HB.out HX.out)
  clear hK K
  refine norm_ (a' := ?_) ?_ ?_
  rotate_left
  · show Act.put _ (some 16) _ = _
    simp only [Act.put, List.setIfInBounds_toArray, List.set_cons_zero, List.set_cons_succ, i64_w, i32_w]
    rfl
  refine pure_ (i := 10) (N := some 6) (v := ?_) (a' := ?_) #[true, true, true, true, true, true, true, true, true, true, true] rfl rfl (any_of HT_.out (by kernel_rfl)) (fun _ _ _ h => h) (Or.inl ⟨by rfl, ?_⟩) ?_ ?_
  rotate_left
  · intro w'
    go_simp
    with_reducible rfl
  rotate_left
  · simp only [Act.put, List.setIfInBounds_toArray, List.set_cons_zero, List.set_cons_succ, i64_w, i32_w]
    rfl
  refine done_ (done_of HT_.out (by kernel_rfl)) ?_
  go_wp2
  go_ret
  exact ⟨rfl, HQ.out⟩
set_option maxHeartbeats 8000000 in
set_option maxRecDepth 100000 in
theorem append_no (p : Option Addr) (nm : Nm) (b : List Int) (Ab : Option Addr) (cb : Nat) (w : World) (hp : NoDisk w p) :
    Calls Try.prog 31 #[.pointer p, .string (str nm), .slice Ab b.length cb] w fun e w' => e = .returned (.int .i64 1) ∧ Below w.heap.size w w' := by
  have HP := Aside0.mk hp
  have HB := Aside0.mk (Below.refl w.heap.size w)
  clear hp
  go_enter Try.func31, Try.ntmps31
  go_upto_region 1 with (first | ((with_reducible refine gate_dst (N := 3) rfl ?_); refine box_event ?hg (N := 3) ?hd (cs := #[.pointer p]) (t := 28) ?hr ?_; (case hd => rfl); (case hg => rfl); (case hr => first | (go_simp; done) | (go_simp; rfl)); intro bd hg w3 hbox hb; have n_K0 := Aside0.mk hbox; have n_HB := Aside0.mk (below_step HB.out hb); clear  HB hbox hb hg; have K0 := n_K0; have HB := n_HB; clear n_K0 n_HB) | ((with_reducible refine gate_dst (N := 4) rfl ?_); refine box_event ?hg (N := 4) ?hd (cs := #[.string (str nm)]) (t := 9) ?hr ?_; (case hd => rfl); (case hg => rfl); (case hr => first | (go_simp; done) | (go_simp; rfl)); intro bn hg w3 hbox hb; have n_K1 := Aside0.mk hbox; have n_K0 := Aside0.mk (blk_below K0.out hb); have n_HB := Aside0.mk (below_step HB.out hb); clear K0 HB hbox hb hg; have K0 := n_K0; have K1 := n_K1; have HB := n_HB; clear n_K0 n_K1 n_HB) | ((with_reducible refine gate_dst (N := 5) rfl ?_); refine box_event ?hg (N := 5) ?hd (cs := #[.slice Ab b.length cb]) (t := 30) ?hr ?_; (case hd => rfl); (case hg => rfl); (case hr => first | (go_simp; done) | (go_simp; rfl)); intro bb hg w3 hbox hb; have n_K2 := Aside0.mk hbox; have n_K0 := Aside0.mk (blk_below K0.out hb); have n_K1 := Aside0.mk (blk_below K1.out hb); have n_HB := Aside0.mk (below_step HB.out hb); clear K0 K1 HB hbox hb hg; have K0 := n_K0; have K1 := n_K1; have K2 := n_K2; have HB := n_HB; clear n_K0 n_K1 n_K2 n_HB))
  rename World => wN
  refine start_ (n := 9) (S := fun w' => Below wN.heap.size wN w') (ds := [7]) #[false, false, false, false, false, false, false, false, false] (by kernel_rfl) rfl rfl (below_drew (Below.refl _ _)) (fun hHeld => ?_)
  refine with_tabW r31_1.tab r31_1.bits (fun HT_ HW_ => ?_)
  generalize wN.drew = wd at hHeld ⊢
  refine take_ (i := 0) (N := some 7) (v := ?_) (a' := ?_) #[true, false, false, false, false, false, false, false, false] rfl rfl (take_ofW HT_.out HW_.out (by kernel_rfl)) (fun _ _ _ h => h) (Or.inl ⟨by rfl, ?_⟩) hHeld ?_ ?_
  rotate_left
  · rintro w' hbq
    have c_K0 := blk_c' (blk_below K0.out hbq) 0 rfl
    go_simp
    with_reducible rfl
  rotate_left
  · simp only [Act.put, List.setIfInBounds_toArray, List.set_cons_zero, List.set_cons_succ, i64_w, i32_w]
    rfl
  refine take_ (i := 1) (N := some 8) (v := ?_) (a' := ?_) #[true, true, false, false, false, false, false, false, false] rfl rfl (take_ofW HT_.out HW_.out (by kernel_rfl)) (fun _ _ _ h => h) (Or.inl ⟨by rfl, ?_⟩) hHeld ?_ ?_
  rotate_left
  · rintro w' hbq
    have c_K1 := blk_c' (blk_below K1.out hbq) 0 rfl
    go_simp
    with_reducible rfl
  rotate_left
  · simp only [Act.put, List.setIfInBounds_toArray, List.set_cons_zero, List.set_cons_succ, i64_w, i32_w]
    rfl
  refine take_ (i := 3) (N := some 10) (v := ?_) (a' := ?_) #[true, true, false, true, false, false, false, false, false] rfl rfl (take_ofW HT_.out HW_.out (by kernel_rfl)) (fun _ _ _ h => h) (Or.inl ⟨by rfl, ?_⟩) hHeld ?_ ?_
  rotate_left
  · rintro w' hbq
    have c_K0 := blk_c' (blk_below K0.out hbq) 0 rfl
    go_simp
    with_reducible rfl
  rotate_left
  · simp only [Act.put, List.setIfInBounds_toArray, List.set_cons_zero, List.set_cons_succ, i64_w, i32_w]
    rfl
  refine take_ (i := 4) (N := some 11) (v := ?_) (a' := ?_) #[true, true, false, true, true, false, false, false, false] rfl rfl (take_ofW HT_.out HW_.out (by kernel_rfl)) (fun _ _ _ h => h) (Or.inl ⟨by rfl, ?_⟩) hHeld ?_ ?_
  rotate_left
  · rintro w' hbq
    have c_K1 := blk_c' (blk_below K1.out hbq) 0 rfl
    go_simp
    with_reducible rfl
  rotate_left
  · simp only [Act.put, List.setIfInBounds_toArray, List.set_cons_zero, List.set_cons_succ, i64_w, i32_w]
    rfl
  refine pure_ (i := 6) (N := some 13) (v := ?_) (a' := ?_) #[true, true, false, true, true, false, true, false, false] rfl rfl (any_of HT_.out (by kernel_rfl)) (fun _ _ _ h => h) (Or.inl ⟨by rfl, ?_⟩) ?_ ?_
  rotate_left
  · intro w'
    go_simp
    with_reducible rfl
  rotate_left
  · simp only [Act.put, List.setIfInBounds_toArray, List.set_cons_zero, List.set_cons_succ, i64_w, i32_w]
    rfl
  refine join2 2 #[true, true, true, true, true, true, true, false, false] (fun g _ d e => [(9, .slice (some ⟨g, 0, none⟩) 1 1), (12, .func (.func 65) #[] #[.pointer (some ⟨d, 0, none⟩), .pointer (some ⟨e, 0, none⟩)])]) (fun g _ d e wx => Aside0 (Below wN.heap.size wN wx) ∧ Aside0 (wx.heap[g]? = some (.cells #[.string (str nm)] 9 (0, 0))) ∧ Aside0 (wx.cell? ⟨d, 0, none⟩ = some (.pointer p)) ∧ Aside0 (wx.cell? ⟨e, 0, none⟩ = some (.string (str nm)))) ?_ (fun JJ => ?_)
  rotate_left
  · have HX := Aside0.mk hHeld
    refine two_ (i := 2) (j := 5) (Ni := some 9) (Nj := some 12) #[true, true, true, true, true, false, true, false, false] #[true, true, false, true, true, true, true, false, false] rfl rfl rfl rfl (two_of HT_.out (by kernel_rfl)) (by decide) (by decide) (fun K hK => ?_) (fun K hK => ?_)
    · refine lit_step (cs := #[.string (str nm)]) (t := 9) (k := 1) (by rfl) (by first | (go_simp; done) | (go_simp; rfl)) ?_
      intro g hg w5 hbox hb
      have KG := Aside0.mk hbox
      clear hbox hg
      replace HX := Aside0.mk (below_step HX.out hb)
      refine hK.out _ _ HX.out (fun hHeld => ?_)
      clear hK K hb
      refine norm_ (a' := ?_) ?_ ?_
      rotate_left
      · show Act.put _ (some 9) _ = _
        simp only [Act.put, List.setIfInBounds_toArray, List.set_cons_zero, List.set_cons_succ, i64_w, i32_w]
        rfl
      refine one_ (i := 5) (N := some 12) #[true, true, true, true, true, true, true, false, false] rfl rfl (one_of HT_.out (by kernel_rfl)) (by decide) (fun K hK => ?_)
      · refine goes_ Try.func50 (by kernel_rfl) rfl #[.pointer p, .string (str nm)] (by rfl) rfl rfl (by first | done | rfl | (simp only [List.map_toArray, List.map_cons, List.map_nil]; rfl)) ?_
        refine (there_no p (str nm) _).mono ?_
        rintro e0 w6 ⟨d, e, rfl, h0, h1, hb⟩
        refine ⟨_, rfl, ?_⟩
        have KD := Aside0.mk h0
        have KE := Aside0.mk h1
        clear h0 h1
        replace KG := Aside0.mk (blk_below KG.out hb)
        replace HX := Aside0.mk (below_step HX.out hb)
        refine hK.out _ _ HX.out (fun hHeld => ?_)
        clear hK K hb
        refine norm_ ?_ (JJ.out g 0 d e _ ⟨HX, KG, KD, KE⟩)
        show Act.put _ (some 12) _ = _
        simp only [putAll, Act.put, List.setIfInBounds_toArray, List.set_cons_zero, List.set_cons_succ]
    · refine goes_ Try.func50 (by kernel_rfl) rfl #[.pointer p, .string (str nm)] (by rfl) rfl rfl (by first | done | rfl | (simp only [List.map_toArray, List.map_cons, List.map_nil]; rfl)) ?_
      refine (there_no p (str nm) _).mono ?_
      rintro e0 w6 ⟨d, e, rfl, h0, h1, hb⟩
      refine ⟨_, rfl, ?_⟩
      have KD := Aside0.mk h0
      have KE := Aside0.mk h1
      clear h0 h1
      replace HX := Aside0.mk (below_step HX.out hb)
      refine hK.out _ _ HX.out (fun hHeld => ?_)
      clear hK K hb
      refine norm_ (a' := ?_) ?_ ?_
      rotate_left
      · show Act.put _ (some 12) _ = _
        simp only [Act.put, List.setIfInBounds_toArray, List.set_cons_zero, List.set_cons_succ, i64_w, i32_w]
        rfl
      refine one_ (i := 2) (N := some 9) #[true, true, true, true, true, true, true, false, false] rfl rfl (one_of HT_.out (by kernel_rfl)) (by decide) (fun K hK => ?_)
      · refine lit_step (cs := #[.string (str nm)]) (t := 9) (k := 1) (by rfl) (by first | (go_simp; done) | (go_simp; rfl)) ?_
        intro g hg w5 hbox hb
        have KG := Aside0.mk hbox
        clear hbox hg
        replace KD := Aside0.mk ((hb.cell (World.block_lt_of_cell? _ _ KD.out)).trans KD.out)
        replace KE := Aside0.mk ((hb.cell (World.block_lt_of_cell? _ _ KE.out)).trans KE.out)
        replace HX := Aside0.mk (below_step HX.out hb)
        refine hK.out _ _ HX.out (fun hHeld => ?_)
        clear hK K hb
        refine norm_ ?_ (JJ.out g 0 d e _ ⟨HX, KG, KD, KE⟩)
        show Act.put _ (some 9) _ = _
        simp only [putAll, Act.put, List.setIfInBounds_toArray, List.set_cons_zero, List.set_cons_succ]
  rintro g _ d e wx ⟨HX, KG, KD, KE⟩
  refine norm_ (a' := ?_) ?_ ?_
  rotate_left
  · simp only [putAll, Act.put, List.setIfInBounds_toArray, List.set_cons_zero, List.set_cons_succ]
    rfl
  refine last_ (i := 7) (N := some 14) #[true, true, true, true, true, true, true, true, false] rfl rfl (one_of HT_.out (by kernel_rfl)) (by decide) (fun K hK => ?_)
  refine goes_ Try.func49 (by kernel_rfl) rfl #[.pointer p, .slice (some ⟨g, 0, none⟩) 1 1, .func (.func 65) #[] #[.pointer (some ⟨d, 0, none⟩), .pointer (some ⟨e, 0, none⟩)], .func (.func 56) #[] #[.pointer (some ⟨bd, 0, none⟩), .pointer (some ⟨bn, 0, none⟩), .pointer (some ⟨bb, 0, none⟩)]] (by rfl) rfl rfl (by first | done | rfl | (simp only [List.map_toArray, List.map_cons, List.map_nil]; rfl)) ?_
  refine (call_no p _ _ _ _ (HP.out.below (below_step HB.out HX.out))).mono ?_
  rintro e0 w7 ⟨rfl, rfl⟩
  refine ⟨_, rfl, ?_⟩
  refine hK.out _ _ ?_
  have HQ := Aside0.mk (below_step HB.out HX.out)
  clear hK K
  refine norm_ (a' := ?_) ?_ ?_
  rotate_left
  · show Act.put _ (some 14) _ = _
    simp only [Act.put, List.setIfInBounds_toArray, List.set_cons_zero, List.set_cons_succ, i64_w, i32_w]
    rfl
  refine pure_ (i := 8) (N := some 6) (v := ?_) (a' := ?_) #[true, true, true, true, true, true, true, true, true] rfl rfl (any_of HT_.out (by kernel_rfl)) (fun _ _ _ h => h) (Or.inl ⟨by rfl, ?_⟩) ?_ ?_
  rotate_left
  · intro w'
    go_simp
    with_reducible rfl
  rotate_left
  · simp only [Act.put, List.setIfInBounds_toArray, List.set_cons_zero, List.set_cons_succ, i64_w, i32_w]
    rfl
  refine done_ (done_of HT_.out (by kernel_rfl)) ?_
  go_wp2
  go_ret
  exact ⟨rfl, HQ.out⟩
set_option maxHeartbeats 8000000 in
set_option maxRecDepth 100000 in
theorem list_no (p : Option Addr) (w : World) (hp : NoDisk w p) :
    Calls Try.prog 16 #[.pointer p] w fun e w' => e = .returned (.slice none 0 0) ∧ w = w' := by
  have HP := Aside0.mk hp
  clear hp
  go_enter Try.func16, Try.ntmps16
  go_wp2_with (first | (go_at_call 34; refine (is_no p _ HP.out).mono ?_; rintro e w5 ⟨rfl, rfl⟩))
  go_ret
  exact ⟨rfl, rfl⟩
set_option maxHeartbeats 8000000 in
set_option maxRecDepth 100000 in
theorem calls_no (p : Option Addr) (w : World) (hp : NoDisk w p) :
    Calls Try.prog 15 #[.pointer p] w fun e w' => e = .returned (.int .i64 0) ∧ w = w' := by
  have HP := Aside0.mk hp
  clear hp
  go_enter Try.func15, Try.ntmps15
  go_wp2_with (first | (go_at_call 34; refine (is_no p _ HP.out).mono ?_; rintro e w5 ⟨rfl, rfl⟩))
  go_ret
  exact ⟨rfl, rfl⟩
set_option maxHeartbeats 8000000 in
set_option maxRecDepth 100000 in
theorem used_no (p : Option Addr) (w : World) (hp : NoDisk w p) :
    Calls Try.prog 19 #[.pointer p] w fun e w' => e = .returned (.int .i64 0) ∧ w = w' := by
  have HP := Aside0.mk hp
  clear hp
  go_enter Try.func19, Try.ntmps19
  go_wp2_with (first | (go_at_call 34; refine (is_no p _ HP.out).mono ?_; rintro e w5 ⟨rfl, rfl⟩))
  go_ret
  exact ⟨rfl, rfl⟩
set_option maxHeartbeats 8000000 in
set_option maxRecDepth 100000 in
theorem copy_no (p : Option Addr) (w : World) (hp : NoDisk w p) :
    Calls Try.prog 29 #[.pointer p] w fun e w' => e = .returned (.pointer none) ∧ w = w' := by
  have HP := Aside0.mk hp
  clear hp
  go_enter Try.func29, Try.ntmps29
  go_wp2_with (first | (go_at_call 34; refine (is_no p _ HP.out).mono ?_; rintro e w5 ⟨rfl, rfl⟩))
  go_ret
  exact ⟨rfl, rfl⟩
set_option maxHeartbeats 8000000 in
set_option maxRecDepth 100000 in
theorem find_no (p : Option Addr) (nm : Nm) (w : World) (hp : NoDisk w p) :
    Calls Try.prog 45 #[.pointer p, .string (str nm)] w fun e w' => ∃ g, e = .returned (.tuple #[.pointer (some ⟨g, 0, none⟩), .int .i64 1]) ∧ FileIn w' g ⟨[], 0⟩ ∧ Below w.heap.size w w' := by
  have HP := Aside0.mk hp
  clear hp
  go_enter Try.func45, Try.ntmps45
  go_wp2_with (first | (go_at_call 34; refine (is_no p _ HP.out).mono ?_; rintro e w5 ⟨rfl, rfl⟩))
  go_ret2
  exact ⟨_, rfl, FileIn.nil (blk_new _ _), below_alloc (Below.refl _ _) _⟩
set_option maxHeartbeats 8000000 in
set_option maxRecDepth 100000 in
theorem size_no (p : Option Addr) (nm : Nm) (w : World) (hp : NoDisk w p) :
    Calls Try.prog 25 #[.pointer p, .string (str nm)] w fun e w' => e = .returned (.tuple #[.int .i64 0, .int .i64 1]) ∧ Below w.heap.size w w' := by
  have HP := Aside0.mk hp
  clear hp
  go_enter Try.func25, Try.ntmps25
  go_wp2_with (first | (go_at_call 45; refine (find_no p nm _ HP.out).mono ?_; rintro e w5 ⟨g, rfl, ⟨A, c, h1, h2, h3⟩, hb⟩; have HB := Aside0.mk hb; have c0 := (blk_cell h1 0).trans (show _ = some (.slice A ([] : List Int).length c) from rfl); have c1 := (blk_cell h1 1).trans (show _ = some (.int .i64 0) from rfl); have HC := Aside0.mk h2; have H3 := Aside0.mk h3; clear h1 h2 h3 hb))
  go_ret2
  exact ⟨rfl, HB.out⟩
set_option maxHeartbeats 8000000 in
set_option maxRecDepth 100000 in
theorem read_no (p : Option Addr) (nm : Nm) (w : World) (hp : NoDisk w p) :
    Calls Try.prog 23 #[.pointer p, .string (str nm)] w fun e w' => ∃ A c, e = .returned (.tuple #[.slice A 0 c, .int .i64 1]) ∧ Below w.heap.size w w' := by
  have HP := Aside0.mk hp
  clear hp
  go_enter Try.func23, Try.ntmps23
  go_wp2_with (first | (go_at_call 45; refine (find_no p nm _ HP.out).mono ?_; rintro e w5 ⟨g, rfl, ⟨A, c, h1, h2, h3⟩, hb⟩; have HB := Aside0.mk hb; have c0 := (blk_cell h1 0).trans (show _ = some (.slice A ([] : List Int).length c) from rfl); have c1 := (blk_cell h1 1).trans (show _ = some (.int .i64 0) from rfl); have HC := Aside0.mk h2; have H3 := Aside0.mk h3; clear h1 h2 h3 hb) | (go_at_call 46; refine (clone46_at A c [] _ HC.out H3.out (by decide)).mono ?_; rintro e w6 ⟨A1, c1, rfl, hr1, hb1⟩; have HB1 := Aside0.mk (below_step HB.out hb1); clear hr1 hb1))
  go_ret2
  exact ⟨A1, _, rfl, HB1.out⟩
set_option maxHeartbeats 8000000 in
set_option maxRecDepth 100000 in
theorem loose_no (p : Option Addr) (nm : Nm) (w : World) (hp : NoDisk w p) :
    Calls Try.prog 30 #[.pointer p, .string (str nm)] w fun e w' => e = .returned (.tuple #[.int .i64 0, .int .i64 1]) ∧ Below w.heap.size w w' := by
  have HP := Aside0.mk hp
  clear hp
  go_enter Try.func30, Try.ntmps30
  go_upto_region 2 with (first | (go_at_call 45; refine (find_no p nm _ HP.out).mono ?_; rintro e w5 ⟨g, rfl, ⟨A, c, h1, h2, h3⟩, hb⟩; have HB := Aside0.mk hb; have c0 := (blk_cell h1 0).trans (show _ = some (.slice A ([] : List Int).length c) from rfl); have c1 := (blk_cell h1 1).trans (show _ = some (.int .i64 0) from rfl); have HC := Aside0.mk h2; have H3 := Aside0.mk h3; clear h1 h2 h3 hb))
  go_quiet (fail)
  go_wp2
  go_ret2
  exact ⟨rfl, belowN HB.out _⟩
set_option maxHeartbeats 8000000 in
set_option maxRecDepth 100000 in
theorem crash_no (p : Option Addr) (v : Value) (w : World) (hp : NoDisk w p) :
    Calls Try.prog 17 #[.pointer p, v] w fun e w' => e = .returned (.tuple #[]) ∧ w = w' := by
  have HP := Aside0.mk hp
  clear hp
  go_enter Try.func17, Try.ntmps17
  go_upto_region 1 with (first | (go_at_call 16; refine (list_no p _ HP.out).mono ?_; rintro e w5 ⟨rfl, rfl⟩))
  go_loopw [11] (fun v11 wr => v11 = .int .i64 0 ∧ w = wr) (fun _ _ => 0)
  case atStart => exact ⟨rfl, rfl⟩
  case round =>
    obtain ⟨rfl, rfl⟩ := hrel
    go_wp2
    (first | go_end0 | ((try simp only [Exit.inBlock, Exit.then]); refine bodyPost_ret (results_none rfl _ _ _) rfl ?_))
    exact ⟨rfl, rfl⟩
end Go.Proofs.Yteibdmpjlpcgbaa.XDisk
