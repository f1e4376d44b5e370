/- The document's disk: the law's Same. -/
import Derived.Test.YteibdmpjlpcgbaaTHDoc7
namespace Go.Proofs.Yteibdmpjlpcgbaa.XDisk
open Go Go.RowKit Go.Proofs.YteibdmpjlpcgbaaW.PrintWords Go.Proofs.YteibdmpjlpcgbaaW.PrintLast Go.Proofs.YteibdmpjlpcgbaaW.PrintMore
open Go.Proofs.Yteibdmpjlpcgbaa
set_option linter.unusedVariables false
set_option linter.unusedSimpArgs false
theorem names_in {w : World} {base : Nat} {v : Value} {ns : List Nm} (h : NamesAt w base v ns) : ∃ A c, v = .slice A ns.length c ∧ ns.length ≤ 9223372036854775807 ∧ NamesIn w A ns := by
  obtain ⟨A, c, h1, h2, h3⟩ := names_cell h
  exact ⟨A, c, h1, h2, fun i hi => let ⟨ad, e, _, hc⟩ := h3 i hi; ⟨ad, e, hc⟩⟩
theorem NamesIn.below {w w' : World} {A : Option Addr} {ns : List Nm} (h : NamesIn w A ns) (hb : Below w.heap.size w w') : NamesIn w' A ns := fun i hi =>
  let ⟨ad, e, hc⟩ := h i hi
  ⟨ad, e, (hb.cell (World.block_lt_of_cell? w _ hc)).trans hc⟩
def r22_1.T : Bool × List (List Nat × List Nat) := (true, [([], []), ([0], [0]), ([], []), ([2, 1], [2]), ([1, 3, 0, 1], [1]), ([3, 4, 0, 1, 2, 3, 4], [3])])
def r22_1.B : List Nat := [0, 1, 0, 7, 15, 31]
theorem r22_1.tab : rtab .any (opsOf Try.f22 1) = r22_1.T := by kernel_rfl
theorem r22_1.bits : waitsOk r22_1.T.2 r22_1.B = true := by kernel_rfl
def r22_2.T : Bool × List (List Nat × List Nat) := (true, [([], []), ([0], [0]), ([], []), ([2], [2]), ([1, 3], [1, 3]), ([4], [4]), ([5], [5]), ([6, 5, 5], [5, 6]), ([5], [5]), ([8, 7, 5], [5, 8]), ([7, 9, 5], [5, 7, 9]), ([5, 10], [5, 10]), ([11, 9], [11]), ([12], [12]), ([13, 12, 12], [12, 13]), ([12], [12]), ([15, 12], [12, 15]), ([14, 16, 12], [12, 14, 16]), ([12, 17], [12, 17])])
def r22_2.B : List Nat := [0, 1, 0, 4, 15, 31, 63, 127, 63, 511, 1023, 2047, 4095, 8191, 16383, 8191, 40959, 131071, 262143]
theorem r22_2.tab : rtab .any (opsOf Try.f22 2) = r22_2.T := by kernel_rfl
theorem r22_2.bits : waitsOk r22_2.T.2 r22_2.B = true := by kernel_rfl
set_option maxHeartbeats 16000000 in
set_option maxRecDepth 100000 in
theorem same_doc (gd B : Nat) (φ : Nat → Tg) (P : Nat → Prop) (Af : Option Addr) (cf : Nat) (Ap : Option Addr) (cp : Nat) (A : Option Addr) (c : Nat) (S : DA) (w : World) (h : DAt w φ B gd S) (hq : DocIn w P Af cf Ap cp A c S) (hO : Ok S) (hV : Named S.files) (hln : S.files.length ≤ 10000) :
    Calls Try.prog 22 #[.pointer (some ⟨gd, 0, none⟩), docV Af cf Ap cp A c S] w fun e w' => e = .returned (.bool true) ∧ Below w.heap.size w w' := by
  have HD := Aside0.mk h
  have HQ := Aside0.mk hq
  have HO := Aside0.mk hO
  have HV := Aside0.mk hV
  have HRI : Aside0 (Rising S.files) := ⟨by obtain ⟨_, _, _, _, _, _, _, hd, _⟩ := h; exact hd.rise⟩
  have HLN := Aside0.mk hln
  have HB := Aside0.mk (Below.refl w.heap.size w)
  have hll : (S.files.length : Int) ≤ 10000 := by omega
  clear h hq hO hV hln
  go_enter Try.func22, Try.ntmps22
  go_upto_region 1 with (first | ((with_reducible refine gate_dst (N := 3) rfl ?_); refine box_event ?hg (N := 3) ?hd (cs := #[.int .i64 S.room, .slice Af S.fails.length cf, .slice Ap S.parts.length cp, .slice A S.files.length c, .int .i64 S.calls]) (t := 49) ?hr ?_; (case hd => rfl); (case hg => rfl); (case hr => first | (go_simp; done) | (go_simp; rfl)); intro g3 hg w3 hbox hb; have GE_g3 : Aside0 (w.heap.size ≤ g3) := ⟨by rw [hg]; exact below_size HB.out⟩; have n_HD := Aside0.mk (HD.out.below hb); have n_HQ := Aside0.mk (HQ.out.below hb); have n_HB := Aside0.mk (below_step HB.out hb); clear HD HQ HB; have HD := n_HD; have HQ := n_HQ; have HB := n_HB; clear n_HD n_HQ n_HB; have B3 := Aside0.mk hbox; clear hg hbox hb))
  rename World => w5
  refine start_ (n := 6) (S := fun w' => Below w5.heap.size w5 w') (ds := []) #[false, false, false, false, false, false] (by kernel_rfl) rfl rfl (below_drew (Below.refl _ _)) (fun hHeld => ?_)
  refine with_tabW r22_1.tab r22_1.bits (fun HT_ HW_ => ?_)
  generalize w5.drew = wd at hHeld ⊢
  refine pure_ (i := 0) (N := some 17) (v := ?_) (a' := ?_) #[true, false, false, false, false, false] rfl rfl (any_of HT_.out (by kernel_rfl)) (fun _ _ _ h => h) (Or.inl ⟨by rfl, ?_⟩) ?_ ?_
  rotate_left
  · intro w'
    go_simp
    with_reducible rfl
  rotate_left
  · simp only [Act.put, List.setIfInBounds_toArray, List.set_cons_zero, List.set_cons_succ, i64_w, i32_w]
    rfl
  refine take_ (i := 2) (N := some 19) (v := ?_) (a' := ?_) #[true, false, true, false, false, false] rfl rfl (take_ofW HT_.out HW_.out (by kernel_rfl)) (fun _ _ _ h => h) (Or.inl ⟨by rfl, ?_⟩) hHeld ?_ ?_
  rotate_left
  · rintro w' hbq
    have c_0 := (blk_cell (blk_below B3.out hbq) 0).trans (show _ = some (.int .i64 S.room) from rfl)
    have c_1 := (blk_cell (blk_below B3.out hbq) 1).trans (show _ = some (.slice Af S.fails.length cf) from rfl)
    have c_2 := (blk_cell (blk_below B3.out hbq) 2).trans (show _ = some (.slice Ap S.parts.length cp) from rfl)
    have c_3 := (blk_cell (blk_below B3.out hbq) 3).trans (show _ = some (.slice A S.files.length c) from rfl)
    have c_4 := (blk_cell (blk_below B3.out hbq) 4).trans (show _ = some (.int .i64 S.calls) from rfl)
    go_simp
    with_reducible rfl
  rotate_left
  · simp only [Act.put, List.setIfInBounds_toArray, List.set_cons_zero, List.set_cons_succ, i64_w, i32_w]
    rfl
  refine one_ (i := 1) (N := some 18) #[true, true, true, false, false, false] rfl rfl (one_of HT_.out (by kernel_rfl)) (by decide) (fun K hK => ?_)
  refine goes_ Try.func16 (by kernel_rfl) rfl #[.pointer (some ⟨gd, 0, none⟩)] (by rfl) rfl rfl (by first | done | rfl | (simp only [List.map_toArray, List.map_cons, List.map_nil]; rfl)) ?_
  refine (list_at gd B φ S wd (HD.out.below hHeld) HO.out.fl).mono ?_
  rintro e0 w6 ⟨v, rfl, hv, hb⟩
  obtain ⟨AN, cN, rfl, hnl, hni⟩ := names_in hv
  rw [List.length_map] at hnl ⊢
  refine ⟨_, rfl, ?_⟩
  have hx := below_step hHeld hb
  have HNI := Aside0.mk hni
  refine hK.out _ _ hx (fun hHeld => ?_)
  have HH6 := Aside0.mk hx
  clear hK K hx hb hv hni hnl
  refine norm_ (a' := ?_) ?_ ?_
  rotate_left
  · show Act.put _ (some 18) _ = _
    simp only [Act.put, List.setIfInBounds_toArray, List.set_cons_zero, List.set_cons_succ, i64_w, i32_w]
    rfl
  refine one_ (i := 3) (N := some 20) #[true, true, true, true, false, false] rfl rfl (one_of HT_.out (by kernel_rfl)) (by decide) (fun K hK => ?_)
  refine goes_ Try.func43 (by kernel_rfl) rfl #[docV Af cf Ap cp A c S] (by rfl) rfl rfl (by first | done | rfl | (simp only [List.map_toArray, List.map_cons, List.map_nil]; rfl)) ?_
  refine (list_doc Af cf Ap cp A c S w6 (HQ.out.below HH6.out) (by have := HLN.out; omega)).mono ?_
  rintro e0 w7 ⟨v, rfl, hR, hb⟩
  obtain ⟨AM, cM, rfl⟩ := R_form hR
  have hC := (Kd.R_reads' hR).2.2
  rw [List.length_map] at hC ⊢
  refine ⟨_, rfl, ?_⟩
  have hx := below_step HH6.out hb
  have n_HNI := Aside0.mk (HNI.out.below hb)
  clear HNI
  have HNI := n_HNI
  clear n_HNI
  have HNM := Aside0.mk hC
  refine hK.out _ _ hx (fun hHeld => ?_)
  have HH7 := Aside0.mk hx
  clear hK K hx hb hC hR HH6 hHeld
  refine norm_ (a' := ?_) ?_ ?_
  rotate_left
  · show Act.put _ (some 20) _ = _
    simp only [Act.put, List.setIfInBounds_toArray, List.set_cons_zero, List.set_cons_succ, i64_w, i32_w]
    rfl
  have hHeld := HH7.out
  refine pure_ (i := 4) (N := some 5) (v := ?_) (a' := ?_) #[true, true, true, true, true, false] rfl rfl (any_of HT_.out (by kernel_rfl)) (fun _ _ _ h => h) (Or.inl ⟨by rfl, ?_⟩) ?_ ?_
  rotate_left
  · intro w'
    go_simp
    with_reducible rfl
  rotate_left
  · simp only [Act.put, List.setIfInBounds_toArray, List.set_cons_zero, List.set_cons_succ, i64_w, i32_w]
    rfl
  refine pure_ (i := 5) (N := some 6) (v := ?_) (a' := ?_) #[true, true, true, true, true, true] rfl rfl (any_of HT_.out (by kernel_rfl)) (fun _ _ _ h => h) (Or.inl ⟨by rfl, ?_⟩) ?_ ?_
  rotate_left
  · intro w'
    go_simp
    with_reducible rfl
  rotate_left
  · simp only [Act.put, List.setIfInBounds_toArray, List.set_cons_zero, List.set_cons_succ, i64_w, i32_w]
    rfl
  refine done_ (done_of HT_.out (by kernel_rfl)) ?_
  clear hHeld
  have hb := HH7.out
  have n_B3 := Aside0.mk (blk_below B3.out hb); have n_HD := Aside0.mk (HD.out.below hb); have n_HQ := Aside0.mk (HQ.out.below hb); have n_HB := Aside0.mk (below_step HB.out hb); clear B3 HD HQ HB; have B3 := n_B3; have HD := n_HD; have HQ := n_HQ; have HB := n_HB; clear n_B3 n_HD n_HQ n_HB
  clear hb HH7
  go_upto_region 2 with (fail)
  (try clear HT_ HW_)
  refine start_ (n := 19) (S := fun w' => Below w7.heap.size w7 w') (ds := []) #[false, false, false, false, false, false, false, false, false, false, false, false, false, false, false, false, false, false, false] (by kernel_rfl) rfl rfl (below_drew (Below.refl _ _)) (fun hHeld => ?_)
  refine with_tabW r22_2.tab r22_2.bits (fun HT_ HW_ => ?_)
  generalize w7.drew = wd at hHeld ⊢
  refine pure_ (i := 0) (N := some 21) (v := ?_) (a' := ?_) #[true, false, false, false, false, false, false, false, false, false, false, false, false, false, false, false, false, false, false] rfl rfl (any_of HT_.out (by kernel_rfl)) (fun _ _ _ h => h) (Or.inl ⟨by rfl, ?_⟩) ?_ ?_
  rotate_left
  · intro w'
    go_simp
    with_reducible rfl
  rotate_left
  · simp only [Act.put, List.setIfInBounds_toArray, List.set_cons_zero, List.set_cons_succ, i64_w, i32_w]
    rfl
  refine pure_ (i := 1) (N := some 22) (v := ?_) (a' := ?_) #[true, true, false, false, false, false, false, false, false, false, false, false, false, false, false, false, false, false, false] rfl rfl (any_of HT_.out (by kernel_rfl)) (fun _ _ _ h => h) (Or.inl ⟨by rfl, ?_⟩) ?_ ?_
  rotate_left
  · intro w'
    go_simp
    with_reducible rfl
  rotate_left
  · simp only [Act.put, List.setIfInBounds_toArray, List.set_cons_zero, List.set_cons_succ, i64_w, i32_w]
    rfl
  refine pure_ (i := 2) (N := some 23) (v := ?_) (a' := ?_) #[true, true, true, false, false, false, false, false, false, false, false, false, false, false, false, false, false, false, false] rfl rfl (any_of HT_.out (by kernel_rfl)) (fun _ _ _ h => h) (Or.inl ⟨by rfl, ?_⟩) ?_ ?_
  rotate_left
  · intro w'
    go_simp
    with_reducible rfl
  rotate_left
  · simp only [Act.put, List.setIfInBounds_toArray, List.set_cons_zero, List.set_cons_succ, i64_w, i32_w]
    rfl
  refine pure_ (i := 3) (N := some 24) (v := ?_) (a' := ?_) #[true, true, true, true, false, false, false, false, false, false, false, false, false, false, false, false, false, false, false] rfl rfl (any_of HT_.out (by kernel_rfl)) (fun _ _ _ h => h) (Or.inl ⟨by rfl, ?_⟩) ?_ ?_
  rotate_left
  · intro w'
    go_simp
    with_reducible rfl
  rotate_left
  · simp only [Act.put, List.setIfInBounds_toArray, List.set_cons_zero, List.set_cons_succ, i64_w, i32_w]
    rfl
  refine pure_ (i := 4) (N := some 25) (v := ?_) (a' := ?_) #[true, true, true, true, true, false, false, false, false, false, false, false, false, false, false, false, false, false, false] rfl rfl (any_of HT_.out (by kernel_rfl)) (fun _ _ _ h => h) (Or.inl ⟨by rfl, ?_⟩) ?_ ?_
  rotate_left
  · intro w'
    go_simp
    with_reducible rfl
  rotate_left
  · simp only [Act.put, List.setIfInBounds_toArray, List.set_cons_zero, List.set_cons_succ, i64_w, i32_w]
    rfl
  refine pure_ (i := 5) (N := some 26) (v := ?_) (a' := ?_) #[true, true, true, true, true, true, false, false, false, false, false, false, false, false, false, false, false, false, false] rfl rfl (any_of HT_.out (by kernel_rfl)) (fun _ _ _ h => h) (Or.inl ⟨by rfl, ?_⟩) ?_ ?_
  rotate_left
  · intro w'
    go_simp
    with_reducible rfl
  rotate_left
  · simp only [Act.put, List.setIfInBounds_toArray, List.set_cons_zero, List.set_cons_succ, i64_w, i32_w]
    rfl
  refine pure_ (i := 6) (N := some 27) (v := ?_) (a' := ?_) #[true, true, true, true, true, true, true, false, false, false, false, false, false, false, false, false, false, false, false] rfl rfl (any_of HT_.out (by kernel_rfl)) (fun _ _ _ h => h) (Or.inl ⟨by rfl, ?_⟩) ?_ ?_
  rotate_left
  · intro w'
    go_simp
    with_reducible rfl
  rotate_left
  · simp only [Act.put, List.setIfInBounds_toArray, List.set_cons_zero, List.set_cons_succ, i64_w, i32_w]
    rfl
  refine take_ (i := 8) (N := some 29) (v := ?_) (a' := ?_) #[true, true, true, true, true, true, true, false, true, false, false, false, false, false, false, false, false, false, false] rfl rfl (take_ofW HT_.out HW_.out (by kernel_rfl)) (fun _ _ _ h => h) (Or.inl ⟨by rfl, ?_⟩) hHeld ?_ ?_
  rotate_left
  · rintro w' hbq
    have c_0 := (blk_cell (blk_below B3.out hbq) 0).trans (show _ = some (.int .i64 S.room) from rfl)
    have c_1 := (blk_cell (blk_below B3.out hbq) 1).trans (show _ = some (.slice Af S.fails.length cf) from rfl)
    have c_2 := (blk_cell (blk_below B3.out hbq) 2).trans (show _ = some (.slice Ap S.parts.length cp) from rfl)
    have c_3 := (blk_cell (blk_below B3.out hbq) 3).trans (show _ = some (.slice A S.files.length c) from rfl)
    have c_4 := (blk_cell (blk_below B3.out hbq) 4).trans (show _ = some (.int .i64 S.calls) from rfl)
    go_simp
    with_reducible rfl
  rotate_left
  · simp only [Act.put, List.setIfInBounds_toArray, List.set_cons_zero, List.set_cons_succ, i64_w, i32_w]
    rfl
  refine one_ (i := 7) (N := some 28) #[true, true, true, true, true, true, true, true, true, false, false, false, false, false, false, false, false, false, false] rfl rfl (one_of HT_.out (by kernel_rfl)) (by decide) (fun K hK => ?_)
  refine goes_ Try.func19 (by kernel_rfl) rfl #[.pointer (some ⟨gd, 0, none⟩)] (by rfl) rfl rfl (by first | done | rfl | (simp only [List.map_toArray, List.map_cons, List.map_nil]; rfl)) ?_
  refine (used_at gd B φ S wd (HD.out.below hHeld) HO.out.fits.few).mono ?_
  rintro e0 w8 ⟨rfl, hb⟩
  refine ⟨_, rfl, ?_⟩
  have hx := below_step hHeld hb
  refine hK.out _ _ hx (fun hHeld => ?_)
  have HH8 := Aside0.mk hx
  clear hK K hx hb
  refine norm_ (a' := ?_) ?_ ?_
  rotate_left
  · show Act.put _ (some 28) _ = _
    simp only [Act.put, List.setIfInBounds_toArray, List.set_cons_zero, List.set_cons_succ, i64_w, i32_w]
    rfl
  refine one_ (i := 9) (N := some 30) #[true, true, true, true, true, true, true, true, true, true, false, false, false, false, false, false, false, false, false] rfl rfl (one_of HT_.out (by kernel_rfl)) (by decide) (fun K hK => ?_)
  refine goes_ Try.func44 (by kernel_rfl) rfl #[docV Af cf Ap cp A c S] (by rfl) rfl rfl (by first | done | rfl | (simp only [List.map_toArray, List.map_cons, List.map_nil]; rfl)) ?_
  refine (used_doc Af cf Ap cp A c S w8 (HQ.out.below HH8.out) (by have := HLN.out; omega) HO.out.fits.few).mono ?_
  rintro e0 w9 ⟨rfl, hb⟩
  refine ⟨_, rfl, ?_⟩
  have hx := below_step HH8.out hb
  refine hK.out _ _ hx (fun hHeld => ?_)
  have HH9 := Aside0.mk hx
  clear hK K hx hb HH8 hHeld
  have hHeld := HH9.out
  refine norm_ (a' := ?_) ?_ ?_
  rotate_left
  · show Act.put _ (some 30) _ = _
    simp only [Act.put, List.setIfInBounds_toArray, List.set_cons_zero, List.set_cons_succ, i64_w, i32_w]
    rfl
  refine pure_ (i := 10) (N := some 31) (v := ?_) (a' := ?_) #[true, true, true, true, true, true, true, true, true, true, true, false, false, false, false, false, false, false, false] rfl rfl (any_of HT_.out (by kernel_rfl)) (fun _ _ _ h => h) (Or.inl ⟨by rfl, ?_⟩) ?_ ?_
  rotate_left
  · intro w'
    go_simp
    with_reducible rfl
  rotate_left
  · simp only [Act.put, List.setIfInBounds_toArray, List.set_cons_zero, List.set_cons_succ, i64_w, i32_w]
    rfl
  refine pure_ (i := 11) (N := some 32) (v := ?_) (a' := ?_) #[true, true, true, true, true, true, true, true, true, true, true, true, false, false, false, false, false, false, false] rfl rfl (any_of HT_.out (by kernel_rfl)) (fun _ _ _ h => h) (Or.inl ⟨by rfl, ?_⟩) ?_ ?_
  rotate_left
  · intro w'
    go_simp
    with_reducible rfl
  rotate_left
  · simp only [Act.put, List.setIfInBounds_toArray, List.set_cons_zero, List.set_cons_succ, i64_w, i32_w]
    rfl
  refine pure_ (i := 12) (N := some 33) (v := ?_) (a' := ?_) #[true, true, true, true, true, true, true, true, true, true, true, true, true, false, false, false, false, false, false] rfl rfl (any_of HT_.out (by kernel_rfl)) (fun _ _ _ h => h) (Or.inl ⟨by rfl, ?_⟩) ?_ ?_
  rotate_left
  · intro w'
    go_simp
    with_reducible rfl
  rotate_left
  · simp only [Act.put, List.setIfInBounds_toArray, List.set_cons_zero, List.set_cons_succ, i64_w, i32_w]
    rfl
  refine pure_ (i := 13) (N := some 34) (v := ?_) (a' := ?_) #[true, true, true, true, true, true, true, true, true, true, true, true, true, true, false, false, false, false, false] rfl rfl (any_of HT_.out (by kernel_rfl)) (fun _ _ _ h => h) (Or.inl ⟨by rfl, ?_⟩) ?_ ?_
  rotate_left
  · intro w'
    go_simp
    with_reducible rfl
  rotate_left
  · simp only [Act.put, List.setIfInBounds_toArray, List.set_cons_zero, List.set_cons_succ, i64_w, i32_w]
    rfl
  refine pure_ (i := 15) (N := some 36) (v := ?_) (a' := ?_) #[true, true, true, true, true, true, true, true, true, true, true, true, true, true, false, true, false, false, false] rfl rfl (any_of HT_.out (by kernel_rfl)) (fun _ _ _ h => h) (Or.inl ⟨by rfl, ?_⟩) ?_ ?_
  rotate_left
  · intro w'
    go_simp
    with_reducible rfl
  rotate_left
  · simp only [Act.put, List.setIfInBounds_toArray, List.set_cons_zero, List.set_cons_succ, i64_w, i32_w]
    rfl
  refine take_ (i := 16) (N := some 37) (v := ?_) (a' := ?_) #[true, true, true, true, true, true, true, true, true, true, true, true, true, true, false, true, true, false, false] rfl rfl (take_ofW HT_.out HW_.out (by kernel_rfl)) (fun _ _ _ h => h) (Or.inl ⟨by rfl, ?_⟩) hHeld ?_ ?_
  rotate_left
  · rintro w' hbq
    have c_0 := (blk_cell (blk_below B3.out hbq) 0).trans (show _ = some (.int .i64 S.room) from rfl)
    have c_1 := (blk_cell (blk_below B3.out hbq) 1).trans (show _ = some (.slice Af S.fails.length cf) from rfl)
    have c_2 := (blk_cell (blk_below B3.out hbq) 2).trans (show _ = some (.slice Ap S.parts.length cp) from rfl)
    have c_3 := (blk_cell (blk_below B3.out hbq) 3).trans (show _ = some (.slice A S.files.length c) from rfl)
    have c_4 := (blk_cell (blk_below B3.out hbq) 4).trans (show _ = some (.int .i64 S.calls) from rfl)
    go_simp
    with_reducible rfl
  rotate_left
  · simp only [Act.put, List.setIfInBounds_toArray, List.set_cons_zero, List.set_cons_succ, i64_w, i32_w]
    rfl
  refine one_ (i := 14) (N := some 35) #[true, true, true, true, true, true, true, true, true, true, true, true, true, true, true, true, true, false, false] rfl rfl (one_of HT_.out (by kernel_rfl)) (by decide) (fun K hK => ?_)
  refine goes_ Try.func15 (by kernel_rfl) rfl #[.pointer (some ⟨gd, 0, none⟩)] (by rfl) rfl rfl (by first | done | rfl | (simp only [List.map_toArray, List.map_cons, List.map_nil]; rfl)) ?_
  refine (calls_at gd B φ S w9 (HD.out.below HH9.out)).mono ?_
  rintro e0 w10 ⟨rfl, rfl⟩
  refine ⟨_, rfl, ?_⟩
  refine hK.out _ _ HH9.out (fun hHeld => ?_)
  clear hK K
  refine norm_ (a' := ?_) ?_ ?_
  rotate_left
  · show Act.put _ (some 35) _ = _
    simp only [Act.put, List.setIfInBounds_toArray, List.set_cons_zero, List.set_cons_succ, i64_w, i32_w]
    rfl
  refine pure_ (i := 17) (N := some 38) (v := ?_) (a' := ?_) #[true, true, true, true, true, true, true, true, true, true, true, true, true, true, true, true, true, true, false] rfl rfl (any_of HT_.out (by kernel_rfl)) (fun _ _ _ h => h) (Or.inl ⟨by rfl, ?_⟩) ?_ ?_
  rotate_left
  · intro w'
    go_simp
    with_reducible rfl
  rotate_left
  · simp only [Act.put, List.setIfInBounds_toArray, List.set_cons_zero, List.set_cons_succ, i64_w, i32_w]
    rfl
  refine pure_ (i := 18) (N := some 39) (v := ?_) (a' := ?_) #[true, true, true, true, true, true, true, true, true, true, true, true, true, true, true, true, true, true, true] rfl rfl (any_of HT_.out (by kernel_rfl)) (fun _ _ _ h => h) (Or.inl ⟨by rfl, ?_⟩) ?_ ?_
  rotate_left
  · intro w'
    go_simp
    with_reducible rfl
  rotate_left
  · simp only [Act.put, List.setIfInBounds_toArray, List.set_cons_zero, List.set_cons_succ, i64_w, i32_w]
    rfl
  refine done_ (done_of HT_.out (by kernel_rfl)) ?_
  clear hHeld
  have hb := HH9.out
  have n_B3 := Aside0.mk (blk_below B3.out hb); have n_HD := Aside0.mk (HD.out.below hb); have n_HQ := Aside0.mk (HQ.out.below hb); have n_HNI := Aside0.mk (HNI.out.below hb); have n_HNM := Aside0.mk (Kd.C_below HNM.out hb); have n_HB := Aside0.mk (below_step HB.out hb); clear B3 HD HQ HNI HNM HB; have B3 := n_B3; have HD := n_HD; have HQ := n_HQ; have HNI := n_HNI; have HNM := n_HNM; have HB := n_HB; clear n_B3 n_HD n_HQ n_HNI n_HNM n_HB
  clear hb HH9
  go_upto_region 5 with (fail)
  go_loopw [42] (fun v42 wr => ∃ i : Nat, i ≤ S.files.length ∧ v42 = .int .i64 i ∧ Aside0 (Below w9.heap.size w9 wr)) (fun v42 _ => S.files.length - (intOf v42).toNat)
  case atStart => exact ⟨0, Nat.zero_le _, rfl, ⟨Below.refl _ _⟩⟩
  case round =>
    obtain ⟨i, hi, rfl, HBQ⟩ := hrel
    rename World => wr
    by_cases hlt : i < S.files.length
    · have HB9 := HBQ
      have hb := HBQ.out
      have n_B3 := Aside0.mk (blk_below B3.out hb); have n_HD := Aside0.mk (HD.out.below hb); have n_HQ := Aside0.mk (HQ.out.below hb); have n_HNI := Aside0.mk (HNI.out.below hb); have n_HNM := Aside0.mk (Kd.C_below HNM.out hb); have n_HB := Aside0.mk (below_step HB.out hb); clear B3 HD HQ HNI HNM HB; have B3 := n_B3; have HD := n_HD; have HQ := n_HQ; have HNI := n_HNI; have HNM := n_HNM; have HB := n_HB; clear n_B3 n_HD n_HQ n_HNI n_HNM n_HB
      clear hb HBQ
      obtain ⟨p, hp⟩ : ∃ p, S.files[i]? = some p := ⟨_, List.getElem?_eq_getElem hlt⟩
      have hnm : (S.files.map Prod.fst).getD i [] = p.1 := by rw [List.getD_eq_getElem?_getD, List.getElem?_map, hp]; rfl
      obtain ⟨an, e0, hnc⟩ := HNI.out i (by rw [List.length_map]; exact hlt)
      subst e0
      rw [hnm] at hnc
      have hpm : p ∈ S.files := List.mem_of_getElem? hp
      have hfp := findP_of HRI.out hpm (HV.out p hpm)
      have hle := HO.out.small.len p hpm
      have hsn := HO.out.sane p hpm
      have hnl0 := HO.out.nl p hpm
      have hrd : ∀ W, Below wr.heap.size wr W → Calls Try.prog 23 #[.pointer (some ⟨gd, 0, none⟩), .string (str p.1)] W fun e w' => ∃ A c, e = .returned (.tuple #[.slice A p.2.b.length c, .int .i64 0]) ∧ Kd.R (Kd.int .u8) 5 w' W.heap.size (fun _ => True) (.slice A p.2.b.length c) p.2.b ∧ Below W.heap.size W w' := fun W hb => by have h1 := read_at gd B φ S p.1 W (HD.out.below hb) hnl0 (by rw [hfp]; exact hle); rw [hfp] at h1; exact h1
      have hrq : ∀ W, Below wr.heap.size wr W → Calls Try.prog 24 #[docV Af cf Ap cp A c S, .string (str p.1)] W (ReadPost W P (p.2, 0)) := fun W hb => by have h1 := read_doc P Af cf Ap cp A c S p.1 W (HQ.out.below hb) HLN.out; rw [hfp] at h1; exact h1
      have hsz : ∀ W, Below wr.heap.size wr W → Calls Try.prog 25 #[.pointer (some ⟨gd, 0, none⟩), .string (str p.1)] W fun e w' => e = .returned (.tuple #[.int .i64 p.2.b.length, .int .i64 0]) ∧ Below W.heap.size W w' := fun W hb => by have h1 := size_at gd B φ S p.1 W (HD.out.below hb) hnl0; rw [hfp] at h1; exact h1
      have hlo : ∀ W, Below wr.heap.size wr W → Calls Try.prog 30 #[.pointer (some ⟨gd, 0, none⟩), .string (str p.1)] W fun e w' => e = .returned (.tuple #[.int .i64 (p.2.b.length - p.2.safe), .int .i64 0]) ∧ Below W.heap.size W w' := fun W hb => by have h1 := loose_at gd B φ S p.1 W (HD.out.below hb) hnl0 (by rw [hfp]; exact hle) (by rw [hfp]; exact hsn.1) (by rw [hfp]; exact hsn.2); rw [hfp] at h1; exact h1
      have HRD := Aside0.mk hrd
      have HRQ := Aside0.mk hrq
      have HSZ := Aside0.mk hsz
      have HLO := Aside0.mk hlo
      clear hrd hrq hsz hlo hnm hfp hpm hnl0
      have hnm2 : (S.files.map (fun p => str p.1)).getD i ByteArray.empty = str p.1 := by rw [List.getD_eq_getElem?_getD, List.getElem?_map, hp]; rfl
      obtain ⟨am, cs, ham, _, hKv, hcell⟩ := Kd.C_get HNM.out ByteArray.empty (i : Int) (by omega) (by omega)
      rw [Int.toNat_natCast, hnm2] at hKv
      rw [Int.toNat_natCast] at hcell
      obtain rfl := hKv
      have hmc := hcell 0 _ rfl
      have hys : (Kd.string).sz = 1 := rfl
      rw [hys, Nat.mul_one, Nat.add_zero] at hmc
      clear hcell hys hnm2
      subst ham
      have HMC := Aside0.mk hmc
      obtain ⟨pn, f⟩ := p
      (try dsimp only at hle)
      (try dsimp only at hnc)
      (try dsimp only at HMC)
      (try dsimp only at HRD)
      (try dsimp only at HRQ)
      (try dsimp only at HSZ)
      (try dsimp only at HLO)
      obtain ⟨hs0, hs1⟩ := hsn
      simp only at hs0 hs1
      have HB0 := Aside0.mk (Below.refl wr.heap.size wr)
      have HP := Aside0.mk hp
      clear hp hmc
      have bB3_0 := (blk_cell B3.out 0).trans (show _ = some (.int .i64 S.room) from rfl)
      have bB3_1 := (blk_cell B3.out 1).trans (show _ = some (.slice Af S.fails.length cf) from rfl)
      have bB3_2 := (blk_cell B3.out 2).trans (show _ = some (.slice Ap S.parts.length cp) from rfl)
      have bB3_3 := (blk_cell B3.out 3).trans (show _ = some (.slice A S.files.length c) from rfl)
      have bB3_4 := (blk_cell B3.out 4).trans (show _ = some (.int .i64 S.calls) from rfl)
      go_upto_region 9 with (first | (go_at_call 23; refine (HRD.out _ HB0.out).mono ?_; rintro e w5 ⟨AB, cB, rfl, hR, hb⟩; have n_B3 := Aside0.mk (blk_below B3.out hb); have n_HB0 := Aside0.mk (below_step HB0.out hb); clear B3 HB0; have B3 := n_B3; have HB0 := n_HB0; clear n_B3 n_HB0; clear bB3_0 bB3_1 bB3_2 bB3_3 bB3_4; have bB3_0 := (blk_cell B3.out 0).trans (show _ = some (.int .i64 S.room) from rfl); have bB3_1 := (blk_cell B3.out 1).trans (show _ = some (.slice Af S.fails.length cf) from rfl); have bB3_2 := (blk_cell B3.out 2).trans (show _ = some (.slice Ap S.parts.length cp) from rfl); have bB3_3 := (blk_cell B3.out 3).trans (show _ = some (.slice A S.files.length c) from rfl); have bB3_4 := (blk_cell B3.out 4).trans (show _ = some (.int .i64 S.calls) from rfl); have HR1 := Aside0.mk (Kd.R_reads' hR).2.2; clear hb hR) | (go_at_call 24; refine (HRQ.out _ HB0.out).mono ?_; rintro e w5 ⟨nm9, A9, c9, rfl, hF, hc9, hb⟩; (try dsimp only at hF hc9); have n_B3 := Aside0.mk (blk_below B3.out hb); have n_HB0 := Aside0.mk (below_step HB0.out hb); have n_HR1 := Aside0.mk (Kd.C_below HR1.out hb); clear B3 HB0 HR1; have B3 := n_B3; have HB0 := n_HB0; have HR1 := n_HR1; clear n_B3 n_HB0 n_HR1; have HR2 := Aside0.mk (Kd.F_now hF); clear hb hF hc9) | ((with_reducible refine gate_dst (N := 11) rfl ?_); refine box_event ?hg (N := 11) ?hd (cs := #[.string ByteArray.empty, .slice none 0 0, .int .i64 0]) (t := 57) ?hr ?_; (case hd => rfl); (case hg => rfl); (case hr => first | (go_simp; done) | (go_simp; rfl)); intro g7 hg w3 hbox hb; have HG7 := Aside0.mk (Nat.le_of_eq hg.symm); have B7 := Aside0.mk hbox; have HX := Aside0.mk hb; have bB7_0 := (blk_cell hbox 0).trans (show _ = some (.string ByteArray.empty) from rfl); have bB7_1 := (blk_cell hbox 1).trans (show _ = some (.slice none 0 0) from rfl); have bB7_2 := (blk_cell hbox 2).trans (show _ = some (.int .i64 0) from rfl); have bB7_f := fun j => blk_frozen hbox j; clear hg hbox hb))
      clear bB7_0 bB7_1 bB7_2 bB7_f
      clear bB3_0 bB3_1 bB3_2 bB3_3 bB3_4
      rename World => w3
      have s0 := blk_put (cs' := #[.string nm9, .slice none 0 0, .int .i64 0]) B7.out 0 (.string nm9) rfl
      have s1 := blk_put (cs' := #[.string nm9, .slice A9 f.b.length c9, .int .i64 0]) s0 1 (.slice A9 f.b.length c9) rfl
      have s2 := blk_put (cs' := #[.string nm9, .slice A9 f.b.length c9, .int .i64 f.safe]) s1 2 (.int .i64 f.safe) rfl
      have hb := (((HX.out.setCell (p := ⟨g7, 0, none⟩) HG7.out (.string nm9)).setCell (p := ⟨g7, 1, none⟩) HG7.out (.slice A9 f.b.length c9)).setCell (p := ⟨g7, 2, none⟩) HG7.out (.int .i64 f.safe))
      generalize (World.setCell (World.setCell (World.setCell w3 ⟨g7, 0, none⟩ (.string nm9)) ⟨g7, 1, none⟩ (.slice A9 f.b.length c9)) ⟨g7, 2, none⟩ (.int .i64 f.safe)) = wa at s2 hb ⊢
      have n_HB0 := Aside0.mk (below_step HB0.out hb); have n_HR1 := Aside0.mk (Kd.C_below HR1.out hb); have n_HR2 := Aside0.mk (Kd.C_below HR2.out hb); clear HB0 HR1 HR2; have HB0 := n_HB0; have HR1 := n_HR1; have HR2 := n_HR2; clear n_HB0 n_HR1 n_HR2
      clear B7 HX HG7 B3
      have B7 := Aside0.mk s2
      clear s0 s1 s2 hb
      go_upto_region 11 with (first | (go_at_call 25; refine (HSZ.out _ HB0.out).mono ?_; rintro e w5 ⟨rfl, hb⟩; have n_HB0 := Aside0.mk (below_step HB0.out hb); have n_HR1 := Aside0.mk (Kd.C_below HR1.out hb); have n_HR2 := Aside0.mk (Kd.C_below HR2.out hb); have n_B7 := Aside0.mk (blk_below B7.out hb); clear HB0 HR1 HR2 B7; have HB0 := n_HB0; have HR1 := n_HR1; have HR2 := n_HR2; have B7 := n_B7; clear n_HB0 n_HR1 n_HR2 n_B7; clear hb) | (go_at_call 30; refine (HLO.out _ HB0.out).mono ?_; rintro e w5 ⟨rfl, hb⟩; have n_HB0 := Aside0.mk (below_step HB0.out hb); have n_HR1 := Aside0.mk (Kd.C_below HR1.out hb); have n_HR2 := Aside0.mk (Kd.C_below HR2.out hb); have n_B7 := Aside0.mk (blk_below B7.out hb); clear HB0 HR1 HR2 B7; have HB0 := n_HB0; have HR1 := n_HR1; have HR2 := n_HR2; have B7 := n_B7; clear n_HB0 n_HR1 n_HR2 n_B7; clear hb))
      rename World => wf
      have hmc := (HB0.out.cell (World.block_lt_of_cell? wr _ HMC.out)).trans HMC.out
      have bB7_0 := (blk_cell B7.out 0).trans (show _ = some (.string nm9) from rfl)
      have bB7_1 := (blk_cell B7.out 1).trans (show _ = some (.slice A9 f.b.length c9) from rfl)
      have bB7_2 := (blk_cell B7.out 2).trans (show _ = some (.int .i64 f.safe) from rfl)
      have hcv1 : (convert 30 9 (.slice AB f.b.length cB)).run Try.prog wf = .ok (.string (strOfNums f.b)) wf := Kd.C_string Try.underlying30 Try.underlying5 Try.underlying9 HR1.out
      have hcv2 : (convert 30 9 (.slice A9 f.b.length c9)).run Try.prog wf = .ok (.string (strOfNums f.b)) wf := Kd.C_string Try.underlying30 Try.underlying5 Try.underlying9 HR2.out
      go_wp2
      clear hmc hcv1 hcv2 bB7_0 bB7_1 bB7_2
      go_roundw
      case rel => exact ⟨i + 1, by omega, by go_num, ⟨below_step HB9.out HB0.out⟩⟩
      case measure => simp [intOf]; omega
    · obtain rfl : i = S.files.length := by omega
      have hb := HBQ.out
      have n_B3 := Aside0.mk (blk_below B3.out hb); have n_HD := Aside0.mk (HD.out.below hb); have n_HQ := Aside0.mk (HQ.out.below hb); have n_HNI := Aside0.mk (HNI.out.below hb); have n_HNM := Aside0.mk (Kd.C_below HNM.out hb); have n_HB := Aside0.mk (below_step HB.out hb); clear B3 HD HQ HNI HNM HB; have B3 := n_B3; have HD := n_HD; have HQ := n_HQ; have HNI := n_HNI; have HNM := n_HNM; have HB := n_HB; clear n_B3 n_HD n_HQ n_HNI n_HNM n_HB
      clear hb HBQ
      go_wp2
      go_ret
      exact ⟨rfl, HB.out⟩

end Go.Proofs.Yteibdmpjlpcgbaa.XDisk
