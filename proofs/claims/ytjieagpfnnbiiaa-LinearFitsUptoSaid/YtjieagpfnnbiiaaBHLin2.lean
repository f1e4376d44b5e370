/- linear: told, then. -/
import Derived.Test.YtjieagpfnnbiiaaBHLin1
namespace Go.Proofs.Ytjieagpfnnbiiaa.XLin
open Go Go.RowKit Go.Proofs.YtjieagpfnnbiiaaW.PrintWords Go.Proofs.YtjieagpfnnbiiaaW.PrintLast Go.Proofs.YtjieagpfnnbiiaaW.PrintMore
open Go.Proofs.Ytjieagpfnnbiiaa
set_option linter.unusedVariables false
set_option linter.unusedSimpArgs false
/-- told: does a map tell what a call was told? -/
def toldG (x : S36) : Option ByteArray → Bool
  | none => decide ((x.f5.length : Int) = 0)
  | some v => eqPairs x.f5 [⟨x.f0.f2, v⟩]
def toldP (m : List S25) (x : S36) : Bool := if x.f0.f0 = 3 then eqPairs x.f5 (scanP m x.f0.f2 x.f0.f3 x.f0.f4) else toldG x (getP m x.f0.f2)
def opsN (x : S36) : Nat := if x.f0.f0 = 1 then x.f0.f1.length else 0
def thenP (m : List S25) (x : S36) : List S25 × Bool := if x.f0.f0 = 1 then (applyP m x.f0.f1, true) else (m, toldP m x)
def r52_2.T : Bool × List (List Nat × List Nat) := (true, [([], []), ([0], [0]), ([], []), ([], []), ([3], [3]), ([4], [4]), ([], []), ([6], [6]), ([7], [7]), ([], []), ([9], [9]), ([10], [10]), ([2, 5, 8, 11], [2, 5, 8, 11]), ([1, 12, 12], [1, 12]), ([13, 13, 0, 1, 2, 3, 4, 5, 6, 7, 8, 9, 10, 11, 12, 13], [13])])
def r52_2.B : List Nat := [0, 1, 0, 0, 8, 24, 0, 64, 192, 0, 512, 1536, 4092, 8191, 16383]
theorem r52_2.tab : rtab .any (opsOf Try.f52 2) = r52_2.T := by kernel_rfl
theorem r52_2.bits : waitsOk r52_2.T.2 r52_2.B = true := by kernel_rfl
set_option maxHeartbeats 8000000 in
set_option maxRecDepth 100000 in
theorem told52 (A : Option Addr) (c : Nat) (m : List S25) (A1 : Option Addr) (c1 : Nat) (A9 : Option Addr) (c9 : Nat) (x : S36) (w : World) (hm : Kd.C k25 w A m.length m) (hc : m.length ≤ c) (hx : DoneIn w A1 c1 A9 c9 x) (hs : m.length ≤ 4398046511104) :
    Calls Try.prog 52 #[.slice A m.length c, doneV A1 c1 A9 c9 x] w fun e w' => e = .returned (.bool (toldP m x)) ∧ Below w.heap.size w w' := by
  have HM := Aside0.mk hm
  have HC := Aside0.mk hc
  have HX := Aside0.mk hx
  have HB := Aside0.mk (Below.refl w.heap.size w)
  clear hm hc hx
  obtain ⟨r, hr⟩ : ∃ r, toldP m x = r := ⟨_, rfl⟩
  rw [hr]
  have HR := Aside0.mk hr
  clear hr
  go_enter Try.func52, Try.ntmps52
  go_upto_region 1 with (first | ((with_reducible refine gate_dst (N := 3) rfl ?_); refine box_event ?hg (N := 3) ?hd (cs := #[.int .u8 x.f0.f0, .slice A1 x.f0.f1.length c1, .string x.f0.f2, .string x.f0.f3, .int .i64 x.f0.f4, .int .i64 x.f1, .int .i64 x.f2, .int .i64 x.f3, .int .u64 x.f4, .slice A9 x.f5.length c9]) (t := 36) ?hr ?_; (case hd => rfl); (case hg => rfl); (case hr => first | (go_simp; done) | (go_simp; rfl)); intro g3 hg w3 hbox hb; have GE_g3 : Aside0 (w.heap.size ≤ g3) := ⟨by rw [hg]; exact below_size HB.out⟩; have n_HB := Aside0.mk (below_step HB.out hb); clear HB; have HB := n_HB; clear n_HB; have B3 := Aside0.mk hbox; clear hg hbox hb))
  have bB3_0 := (blk_cell B3.out 0).trans (show _ = some (.int .u8 x.f0.f0) from rfl)
  have bB3_1 := (blk_cell B3.out 1).trans (show _ = some (.slice A1 x.f0.f1.length c1) from rfl)
  have bB3_2 := (blk_cell B3.out 2).trans (show _ = some (.string x.f0.f2) from rfl)
  have bB3_3 := (blk_cell B3.out 3).trans (show _ = some (.string x.f0.f3) from rfl)
  have bB3_4 := (blk_cell B3.out 4).trans (show _ = some (.int .i64 x.f0.f4) from rfl)
  have bB3_5 := (blk_cell B3.out 5).trans (show _ = some (.int .i64 x.f1) from rfl)
  have bB3_6 := (blk_cell B3.out 6).trans (show _ = some (.int .i64 x.f2) from rfl)
  have bB3_7 := (blk_cell B3.out 7).trans (show _ = some (.int .i64 x.f3) from rfl)
  have bB3_8 := (blk_cell B3.out 8).trans (show _ = some (.int .u64 x.f4) from rfl)
  have bB3_9 := (blk_cell B3.out 9).trans (show _ = some (.slice A9 x.f5.length c9) from rfl)
  have bB3_f := fun j => blk_frozen B3.out j
  by_cases h3 : x.f0.f0 = 3
  · have y3 : (x.f0.f0 == 3) = true := by rw [h3]; rfl
    have HT : Aside0 (eqPairs x.f5 (scanP m x.f0.f2 x.f0.f3 x.f0.f4) = r) := ⟨by rw [← HR.out]; unfold toldP; rw [if_pos h3]⟩
    clear h3 HR
    go_upto_region 2 with (fail)
    clear y3
    clear bB3_0 bB3_1 bB3_2 bB3_3 bB3_4 bB3_5 bB3_6 bB3_7 bB3_8 bB3_9 bB3_f
    rename World => w5
    refine start_ (n := 15) (S := fun w' => Below w5.heap.size w5 w') (ds := []) #[false, false, false, false, false, false, false, false, false, false, false, false, false, false, false] (by kernel_rfl) rfl rfl (below_drew (Below.refl _ _)) (fun hHeld => ?_)
    refine with_tabW r52_2.tab r52_2.bits (fun HT_ HW_ => ?_)
    generalize w5.drew = wd at hHeld ⊢
    refine pure_ (i := 0) (N := some 11) (v := ?_) (a' := ?_) #[true, false, false, false, false, false, false, false, false, false, false, false, false, false, false] rfl rfl (any_of HT_.out (by kernel_rfl)) (fun _ _ _ h => h) (Or.inl ⟨by rfl, ?_⟩) ?_ ?_
    rotate_left
    · intro w'
      go_simp
      with_reducible rfl
    rotate_left
    · simp only [Act.put, List.setIfInBounds_toArray, List.set_cons_zero, List.set_cons_succ, i64_w, i32_w]
      rfl
    refine take_ (i := 1) (N := some 12) (v := ?_) (a' := ?_) #[true, true, false, false, false, false, false, false, false, false, false, false, false, false, false] rfl rfl (take_ofW HT_.out HW_.out (by kernel_rfl)) (fun _ _ _ h => h) (Or.inl ⟨by rfl, ?_⟩) hHeld ?_ ?_
    rotate_left
    · rintro w' hbq
      have c_0 := (blk_cell (blk_below B3.out hbq) 0).trans (show _ = some (.int .u8 x.f0.f0) from rfl)
      have c_1 := (blk_cell (blk_below B3.out hbq) 1).trans (show _ = some (.slice A1 x.f0.f1.length c1) from rfl)
      have c_2 := (blk_cell (blk_below B3.out hbq) 2).trans (show _ = some (.string x.f0.f2) from rfl)
      have c_3 := (blk_cell (blk_below B3.out hbq) 3).trans (show _ = some (.string x.f0.f3) from rfl)
      have c_4 := (blk_cell (blk_below B3.out hbq) 4).trans (show _ = some (.int .i64 x.f0.f4) from rfl)
      have c_5 := (blk_cell (blk_below B3.out hbq) 5).trans (show _ = some (.int .i64 x.f1) from rfl)
      have c_6 := (blk_cell (blk_below B3.out hbq) 6).trans (show _ = some (.int .i64 x.f2) from rfl)
      have c_7 := (blk_cell (blk_below B3.out hbq) 7).trans (show _ = some (.int .i64 x.f3) from rfl)
      have c_8 := (blk_cell (blk_below B3.out hbq) 8).trans (show _ = some (.int .u64 x.f4) from rfl)
      have c_9 := (blk_cell (blk_below B3.out hbq) 9).trans (show _ = some (.slice A9 x.f5.length c9) from rfl)
      go_simp
      with_reducible rfl
    rotate_left
    · simp only [Act.put, List.setIfInBounds_toArray, List.set_cons_zero, List.set_cons_succ, i64_w, i32_w]
      rfl
    refine pure_ (i := 2) (N := some 13) (v := ?_) (a' := ?_) #[true, true, true, false, false, false, false, false, false, false, false, false, false, false, false] rfl rfl (any_of HT_.out (by kernel_rfl)) (fun _ _ _ h => h) (Or.inl ⟨by rfl, ?_⟩) ?_ ?_
    rotate_left
    · intro w'
      go_simp
      with_reducible rfl
    rotate_left
    · simp only [Act.put, List.setIfInBounds_toArray, List.set_cons_zero, List.set_cons_succ, i64_w, i32_w]
      rfl
    refine pure_ (i := 3) (N := some 14) (v := ?_) (a' := ?_) #[true, true, true, true, false, false, false, false, false, false, false, false, false, false, false] rfl rfl (any_of HT_.out (by kernel_rfl)) (fun _ _ _ h => h) (Or.inl ⟨by rfl, ?_⟩) ?_ ?_
    rotate_left
    · intro w'
      go_simp
      with_reducible rfl
    rotate_left
    · simp only [Act.put, List.setIfInBounds_toArray, List.set_cons_zero, List.set_cons_succ, i64_w, i32_w]
      rfl
    refine pure_ (i := 4) (N := some 15) (v := ?_) (a' := ?_) #[true, true, true, true, true, false, false, false, false, false, false, false, false, false, false] rfl rfl (any_of HT_.out (by kernel_rfl)) (fun _ _ _ h => h) (Or.inl ⟨by rfl, ?_⟩) ?_ ?_
    rotate_left
    · intro w'
      go_simp
      with_reducible rfl
    rotate_left
    · simp only [Act.put, List.setIfInBounds_toArray, List.set_cons_zero, List.set_cons_succ, i64_w, i32_w]
      rfl
    refine take_ (i := 5) (N := some 16) (v := ?_) (a' := ?_) #[true, true, true, true, true, true, false, false, false, false, false, false, false, false, false] rfl rfl (take_ofW HT_.out HW_.out (by kernel_rfl)) (fun _ _ _ h => h) (Or.inl ⟨by rfl, ?_⟩) hHeld ?_ ?_
    rotate_left
    · rintro w' hbq
      have c_0 := (blk_cell (blk_below B3.out hbq) 0).trans (show _ = some (.int .u8 x.f0.f0) from rfl)
      have c_1 := (blk_cell (blk_below B3.out hbq) 1).trans (show _ = some (.slice A1 x.f0.f1.length c1) from rfl)
      have c_2 := (blk_cell (blk_below B3.out hbq) 2).trans (show _ = some (.string x.f0.f2) from rfl)
      have c_3 := (blk_cell (blk_below B3.out hbq) 3).trans (show _ = some (.string x.f0.f3) from rfl)
      have c_4 := (blk_cell (blk_below B3.out hbq) 4).trans (show _ = some (.int .i64 x.f0.f4) from rfl)
      have c_5 := (blk_cell (blk_below B3.out hbq) 5).trans (show _ = some (.int .i64 x.f1) from rfl)
      have c_6 := (blk_cell (blk_below B3.out hbq) 6).trans (show _ = some (.int .i64 x.f2) from rfl)
      have c_7 := (blk_cell (blk_below B3.out hbq) 7).trans (show _ = some (.int .i64 x.f3) from rfl)
      have c_8 := (blk_cell (blk_below B3.out hbq) 8).trans (show _ = some (.int .u64 x.f4) from rfl)
      have c_9 := (blk_cell (blk_below B3.out hbq) 9).trans (show _ = some (.slice A9 x.f5.length c9) from rfl)
      go_simp
      with_reducible rfl
    rotate_left
    · simp only [Act.put, List.setIfInBounds_toArray, List.set_cons_zero, List.set_cons_succ, i64_w, i32_w]
      rfl
    refine pure_ (i := 6) (N := some 17) (v := ?_) (a' := ?_) #[true, true, true, true, true, true, true, false, false, false, false, false, false, false, false] rfl rfl (any_of HT_.out (by kernel_rfl)) (fun _ _ _ h => h) (Or.inl ⟨by rfl, ?_⟩) ?_ ?_
    rotate_left
    · intro w'
      go_simp
      with_reducible rfl
    rotate_left
    · simp only [Act.put, List.setIfInBounds_toArray, List.set_cons_zero, List.set_cons_succ, i64_w, i32_w]
      rfl
    refine pure_ (i := 7) (N := some 18) (v := ?_) (a' := ?_) #[true, true, true, true, true, true, true, true, false, false, false, false, false, false, false] rfl rfl (any_of HT_.out (by kernel_rfl)) (fun _ _ _ h => h) (Or.inl ⟨by rfl, ?_⟩) ?_ ?_
    rotate_left
    · intro w'
      go_simp
      with_reducible rfl
    rotate_left
    · simp only [Act.put, List.setIfInBounds_toArray, List.set_cons_zero, List.set_cons_succ, i64_w, i32_w]
      rfl
    refine take_ (i := 8) (N := some 19) (v := ?_) (a' := ?_) #[true, true, true, true, true, true, true, true, true, false, false, false, false, false, false] rfl rfl (take_ofW HT_.out HW_.out (by kernel_rfl)) (fun _ _ _ h => h) (Or.inl ⟨by rfl, ?_⟩) hHeld ?_ ?_
    rotate_left
    · rintro w' hbq
      have c_0 := (blk_cell (blk_below B3.out hbq) 0).trans (show _ = some (.int .u8 x.f0.f0) from rfl)
      have c_1 := (blk_cell (blk_below B3.out hbq) 1).trans (show _ = some (.slice A1 x.f0.f1.length c1) from rfl)
      have c_2 := (blk_cell (blk_below B3.out hbq) 2).trans (show _ = some (.string x.f0.f2) from rfl)
      have c_3 := (blk_cell (blk_below B3.out hbq) 3).trans (show _ = some (.string x.f0.f3) from rfl)
      have c_4 := (blk_cell (blk_below B3.out hbq) 4).trans (show _ = some (.int .i64 x.f0.f4) from rfl)
      have c_5 := (blk_cell (blk_below B3.out hbq) 5).trans (show _ = some (.int .i64 x.f1) from rfl)
      have c_6 := (blk_cell (blk_below B3.out hbq) 6).trans (show _ = some (.int .i64 x.f2) from rfl)
      have c_7 := (blk_cell (blk_below B3.out hbq) 7).trans (show _ = some (.int .i64 x.f3) from rfl)
      have c_8 := (blk_cell (blk_below B3.out hbq) 8).trans (show _ = some (.int .u64 x.f4) from rfl)
      have c_9 := (blk_cell (blk_below B3.out hbq) 9).trans (show _ = some (.slice A9 x.f5.length c9) from rfl)
      go_simp
      with_reducible rfl
    rotate_left
    · simp only [Act.put, List.setIfInBounds_toArray, List.set_cons_zero, List.set_cons_succ, i64_w, i32_w]
      rfl
    refine pure_ (i := 9) (N := some 20) (v := ?_) (a' := ?_) #[true, true, true, true, true, true, true, true, true, true, false, false, false, false, false] rfl rfl (any_of HT_.out (by kernel_rfl)) (fun _ _ _ h => h) (Or.inl ⟨by rfl, ?_⟩) ?_ ?_
    rotate_left
    · intro w'
      go_simp
      with_reducible rfl
    rotate_left
    · simp only [Act.put, List.setIfInBounds_toArray, List.set_cons_zero, List.set_cons_succ, i64_w, i32_w]
      rfl
    refine pure_ (i := 10) (N := some 21) (v := ?_) (a' := ?_) #[true, true, true, true, true, true, true, true, true, true, true, false, false, false, false] rfl rfl (any_of HT_.out (by kernel_rfl)) (fun _ _ _ h => h) (Or.inl ⟨by rfl, ?_⟩) ?_ ?_
    rotate_left
    · intro w'
      go_simp
      with_reducible rfl
    rotate_left
    · simp only [Act.put, List.setIfInBounds_toArray, List.set_cons_zero, List.set_cons_succ, i64_w, i32_w]
      rfl
    refine take_ (i := 11) (N := some 22) (v := ?_) (a' := ?_) #[true, true, true, true, true, true, true, true, true, true, true, true, false, false, false] rfl rfl (take_ofW HT_.out HW_.out (by kernel_rfl)) (fun _ _ _ h => h) (Or.inl ⟨by rfl, ?_⟩) hHeld ?_ ?_
    rotate_left
    · rintro w' hbq
      have c_0 := (blk_cell (blk_below B3.out hbq) 0).trans (show _ = some (.int .u8 x.f0.f0) from rfl)
      have c_1 := (blk_cell (blk_below B3.out hbq) 1).trans (show _ = some (.slice A1 x.f0.f1.length c1) from rfl)
      have c_2 := (blk_cell (blk_below B3.out hbq) 2).trans (show _ = some (.string x.f0.f2) from rfl)
      have c_3 := (blk_cell (blk_below B3.out hbq) 3).trans (show _ = some (.string x.f0.f3) from rfl)
      have c_4 := (blk_cell (blk_below B3.out hbq) 4).trans (show _ = some (.int .i64 x.f0.f4) from rfl)
      have c_5 := (blk_cell (blk_below B3.out hbq) 5).trans (show _ = some (.int .i64 x.f1) from rfl)
      have c_6 := (blk_cell (blk_below B3.out hbq) 6).trans (show _ = some (.int .i64 x.f2) from rfl)
      have c_7 := (blk_cell (blk_below B3.out hbq) 7).trans (show _ = some (.int .i64 x.f3) from rfl)
      have c_8 := (blk_cell (blk_below B3.out hbq) 8).trans (show _ = some (.int .u64 x.f4) from rfl)
      have c_9 := (blk_cell (blk_below B3.out hbq) 9).trans (show _ = some (.slice A9 x.f5.length c9) from rfl)
      go_simp
      with_reducible rfl
    rotate_left
    · simp only [Act.put, List.setIfInBounds_toArray, List.set_cons_zero, List.set_cons_succ, i64_w, i32_w]
      rfl
    refine one_ (i := 12) (N := some 23) #[true, true, true, true, true, true, true, true, true, true, true, true, true, false, false] rfl rfl (one_of HT_.out (by kernel_rfl)) (by decide) (fun K hK => ?_)
    refine goes_ Try.func22 (by kernel_rfl) rfl #[.slice A m.length c, .string x.f0.f2, .string x.f0.f3, .int .i64 x.f0.f4] (by rfl) rfl rfl (by first | done | rfl | (simp only [List.map_toArray, List.map_cons, List.map_nil]; rfl)) ?_
    refine (scan22 A c m x.f0.f2 x.f0.f3 x.f0.f4 wd (Kd.C_below HM.out (below_step HB.out hHeld)) HC.out hs).mono ?_
    rintro e0 w6 ⟨A7, c7, rfl, hR, hb⟩
    refine ⟨_, rfl, ?_⟩
    have hx := below_step hHeld hb
    have HS := Aside0.mk (Kd.R_reads' hR)
    refine hK.out _ _ hx (fun hHeld => ?_)
    have HH6 := Aside0.mk hx
    clear hK K hx hb hR
    refine norm_ (a' := ?_) ?_ ?_
    rotate_left
    · show Act.put _ (some 23) _ = _
      simp only [Act.put, List.setIfInBounds_toArray, List.set_cons_zero, List.set_cons_succ, i64_w, i32_w]
      rfl
    refine one_ (i := 13) (N := some 24) #[true, true, true, true, true, true, true, true, true, true, true, true, true, true, false] rfl rfl (one_of HT_.out (by kernel_rfl)) (by decide) (fun K hK => ?_)
    refine goes_ Try.func67 (by kernel_rfl) rfl #[.slice A9 x.f5.length c9, .slice A7 (scanP m x.f0.f2 x.f0.f3 x.f0.f4).length c7] (by rfl) rfl rfl (by first | done | rfl | (simp only [List.map_toArray, List.map_cons, List.map_nil]; rfl)) ?_
    refine (equal67 A9 c9 x.f5 A7 c7 _ w6 (HX.out.below (below_step HB.out HH6.out)).p HX.out.pc HS.out.2.2 HS.out.2.1).mono ?_
    rw [HT.out]
    rintro e0 w7 ⟨rfl, hb⟩
    refine ⟨_, rfl, ?_⟩
    have hx := below_step HH6.out hb
    refine hK.out _ _ hx (fun hHeld => ?_)
    have HH7 := Aside0.mk hx
    clear hK K hx hb HH6 hHeld
    have hHeld := HH7.out
    refine norm_ (a' := ?_) ?_ ?_
    rotate_left
    · show Act.put _ (some 24) _ = _
      simp only [Act.put, List.setIfInBounds_toArray, List.set_cons_zero, List.set_cons_succ, i64_w, i32_w]
      rfl
    refine pure_ (i := 14) (N := some 4) (v := ?_) (a' := ?_) #[true, true, true, true, true, true, true, true, true, true, true, true, true, true, true] rfl rfl (any_of HT_.out (by kernel_rfl)) (fun _ _ _ h => h) (Or.inl ⟨by rfl, ?_⟩) ?_ ?_
    rotate_left
    · intro w'
      go_simp
      with_reducible rfl
    rotate_left
    · simp only [Act.put, List.setIfInBounds_toArray, List.set_cons_zero, List.set_cons_succ, i64_w, i32_w]
      rfl
    refine done_ (done_of HT_.out (by kernel_rfl)) ?_
    clear hHeld
    go_wp2
    go_ret
    exact ⟨rfl, below_step HB.out HH7.out⟩
  · have y3 : (x.f0.f0 == 3) = false := beq_false_of_ne h3
    obtain ⟨gv, hgv⟩ : ∃ gv, getP m x.f0.f2 = gv := ⟨_, rfl⟩
    have HG := Aside0.mk hgv
    have HT : Aside0 (toldG x gv = r) := ⟨by rw [← HR.out, ← hgv]; unfold toldP; rw [if_neg h3]⟩
    clear h3 HR hgv
    cases gv with
    | none =>
      have HT2 : Aside0 (decide ((x.f5.length : Int) = 0) = r) := ⟨HT.out⟩
      clear HT
      by_cases h0 : (x.f5.length : Int) = 0
      · have h1 : decide ((x.f5.length : Int) = 0) = true := decide_eq_true h0
        have h2 : ((x.f5.length : Int) == 0) = true := by rw [h0]; rfl
        have HT3 : Aside0 (r = true) := ⟨by rw [← HT2.out, h1]⟩
        clear HT2 h1 h0
        go_wp2_with (first | (go_at_call 21; refine (get21 A c m x.f0.f2 _ (Kd.C_below HM.out HB.out) hs).mono ?_; rw [HG.out]; rintro e w5 ⟨rfl, hb⟩; have n_B3 := Aside0.mk (blk_below B3.out hb); have n_HB := Aside0.mk (below_step HB.out hb); clear B3 HB; have B3 := n_B3; have HB := n_HB; clear n_B3 n_HB; clear hb; clear bB3_0 bB3_1 bB3_2 bB3_3 bB3_4 bB3_5 bB3_6 bB3_7 bB3_8 bB3_9 bB3_f; have bB3_0 := (blk_cell B3.out 0).trans (show _ = some (.int .u8 x.f0.f0) from rfl); have bB3_1 := (blk_cell B3.out 1).trans (show _ = some (.slice A1 x.f0.f1.length c1) from rfl); have bB3_2 := (blk_cell B3.out 2).trans (show _ = some (.string x.f0.f2) from rfl); have bB3_3 := (blk_cell B3.out 3).trans (show _ = some (.string x.f0.f3) from rfl); have bB3_4 := (blk_cell B3.out 4).trans (show _ = some (.int .i64 x.f0.f4) from rfl); have bB3_5 := (blk_cell B3.out 5).trans (show _ = some (.int .i64 x.f1) from rfl); have bB3_6 := (blk_cell B3.out 6).trans (show _ = some (.int .i64 x.f2) from rfl); have bB3_7 := (blk_cell B3.out 7).trans (show _ = some (.int .i64 x.f3) from rfl); have bB3_8 := (blk_cell B3.out 8).trans (show _ = some (.int .u64 x.f4) from rfl); have bB3_9 := (blk_cell B3.out 9).trans (show _ = some (.slice A9 x.f5.length c9) from rfl); have bB3_f := fun j => blk_frozen B3.out j))
        go_ret
        exact ⟨by rw [HT3.out]; rfl, HB.out⟩
      · have h1 : decide ((x.f5.length : Int) = 0) = false := decide_eq_false h0
        have h2 : ((x.f5.length : Int) == 0) = false := beq_false_of_ne h0
        have HT3 : Aside0 (r = false) := ⟨by rw [← HT2.out, h1]⟩
        clear HT2 h1 h0
        go_wp2_with (first | (go_at_call 21; refine (get21 A c m x.f0.f2 _ (Kd.C_below HM.out HB.out) hs).mono ?_; rw [HG.out]; rintro e w5 ⟨rfl, hb⟩; have n_B3 := Aside0.mk (blk_below B3.out hb); have n_HB := Aside0.mk (below_step HB.out hb); clear B3 HB; have B3 := n_B3; have HB := n_HB; clear n_B3 n_HB; clear hb; clear bB3_0 bB3_1 bB3_2 bB3_3 bB3_4 bB3_5 bB3_6 bB3_7 bB3_8 bB3_9 bB3_f; have bB3_0 := (blk_cell B3.out 0).trans (show _ = some (.int .u8 x.f0.f0) from rfl); have bB3_1 := (blk_cell B3.out 1).trans (show _ = some (.slice A1 x.f0.f1.length c1) from rfl); have bB3_2 := (blk_cell B3.out 2).trans (show _ = some (.string x.f0.f2) from rfl); have bB3_3 := (blk_cell B3.out 3).trans (show _ = some (.string x.f0.f3) from rfl); have bB3_4 := (blk_cell B3.out 4).trans (show _ = some (.int .i64 x.f0.f4) from rfl); have bB3_5 := (blk_cell B3.out 5).trans (show _ = some (.int .i64 x.f1) from rfl); have bB3_6 := (blk_cell B3.out 6).trans (show _ = some (.int .i64 x.f2) from rfl); have bB3_7 := (blk_cell B3.out 7).trans (show _ = some (.int .i64 x.f3) from rfl); have bB3_8 := (blk_cell B3.out 8).trans (show _ = some (.int .u64 x.f4) from rfl); have bB3_9 := (blk_cell B3.out 9).trans (show _ = some (.slice A9 x.f5.length c9) from rfl); have bB3_f := fun j => blk_frozen B3.out j))
        go_ret
        exact ⟨by rw [HT3.out]; rfl, HB.out⟩
    | some v =>
      have HT2 : Aside0 (eqPairs x.f5 [⟨x.f0.f2, v⟩] = r) := ⟨HT.out⟩
      clear HT
      go_wp2_with (first | (go_at_call 21; refine (get21 A c m x.f0.f2 _ (Kd.C_below HM.out HB.out) hs).mono ?_; rw [HG.out]; rintro e w5 ⟨rfl, hb⟩; have n_B3 := Aside0.mk (blk_below B3.out hb); have n_HB := Aside0.mk (below_step HB.out hb); clear B3 HB; have B3 := n_B3; have HB := n_HB; clear n_B3 n_HB; clear hb; clear bB3_0 bB3_1 bB3_2 bB3_3 bB3_4 bB3_5 bB3_6 bB3_7 bB3_8 bB3_9 bB3_f; have bB3_0 := (blk_cell B3.out 0).trans (show _ = some (.int .u8 x.f0.f0) from rfl); have bB3_1 := (blk_cell B3.out 1).trans (show _ = some (.slice A1 x.f0.f1.length c1) from rfl); have bB3_2 := (blk_cell B3.out 2).trans (show _ = some (.string x.f0.f2) from rfl); have bB3_3 := (blk_cell B3.out 3).trans (show _ = some (.string x.f0.f3) from rfl); have bB3_4 := (blk_cell B3.out 4).trans (show _ = some (.int .i64 x.f0.f4) from rfl); have bB3_5 := (blk_cell B3.out 5).trans (show _ = some (.int .i64 x.f1) from rfl); have bB3_6 := (blk_cell B3.out 6).trans (show _ = some (.int .i64 x.f2) from rfl); have bB3_7 := (blk_cell B3.out 7).trans (show _ = some (.int .i64 x.f3) from rfl); have bB3_8 := (blk_cell B3.out 8).trans (show _ = some (.int .u64 x.f4) from rfl); have bB3_9 := (blk_cell B3.out 9).trans (show _ = some (.slice A9 x.f5.length c9) from rfl); have bB3_f := fun j => blk_frozen B3.out j) | ((with_reducible refine gate_dst (N := 46) rfl ?_); refine lit_event ?hg (cs := #[.string x.f0.f2, .string v]) (t := 25) (k := 1) ?hr ?_; (case hg => rfl); (case hr => first | (go_simp; done) | (go_simp; rfl)); intro vb hg w3 hbox hb; have n_B3 := Aside0.mk (blk_below B3.out hb); have n_HB := Aside0.mk (below_step HB.out hb); clear B3 HB; have B3 := n_B3; have HB := n_HB; clear n_B3 n_HB; have BV := Aside0.mk (one_C (p := ⟨x.f0.f2, v⟩) hbox); clear hg hbox hb) | (go_at_call 67; refine (equal67 A9 c9 x.f5 (some ⟨vb, 0, none⟩) 1 [⟨x.f0.f2, v⟩] _ (HX.out.below HB.out).p HX.out.pc BV.out (Nat.le_refl 1)).mono ?_; rw [HT2.out]; rintro e w5 ⟨rfl, hb⟩; have n_B3 := Aside0.mk (blk_below B3.out hb); have n_HB := Aside0.mk (below_step HB.out hb); clear B3 HB; have B3 := n_B3; have HB := n_HB; clear n_B3 n_HB; clear hb))
      go_ret
      exact ⟨rfl, HB.out⟩
set_option maxHeartbeats 8000000 in
set_option maxRecDepth 100000 in
theorem then28 (P : Nat → Prop) (A : Option Addr) (c : Nat) (m : List S25) (A1 : Option Addr) (c1 : Nat) (A9 : Option Addr) (c9 : Nat) (x : S36) (w : World) (hm : Kd.F k25 w P A m.length m) (hc : m.length ≤ c) (hx : DoneIn w A1 c1 A9 c9 x) (hs : m.length + opsN x ≤ 4398046511000) :
    Calls Try.prog 28 #[.slice A m.length c, doneV A1 c1 A9 c9 x] w fun e w' => ∃ A' c', e = .returned (.tuple #[.slice A' (thenP m x).1.length c', .bool (thenP m x).2]) ∧ Kd.F k25 w' (fun k => P k ∨ w.heap.size ≤ k) A' (thenP m x).1.length (thenP m x).1 ∧ (thenP m x).1.length ≤ c' ∧ Below w.heap.size w w' := by
  have HM := Aside0.mk (Kd.F_bound hm)
  have HC := Aside0.mk hc
  have HX := Aside0.mk hx
  have HB := Aside0.mk (Below.refl w.heap.size w)
  clear hm hc hx
  unfold thenP
  by_cases h1 : x.f0.f0 = 1
  · have Y1 : Aside0 ((x.f0.f0 == 1) = true) := ⟨by rw [h1]; rfl⟩
    rw [if_pos h1]
    unfold opsN at hs
    rw [if_pos h1] at hs
    clear h1
    obtain ⟨ap, hap⟩ : ∃ ap, applyP m x.f0.f1 = ap := ⟨_, rfl⟩
    rw [hap]
    have HAP := Aside0.mk hap
    clear hap
    go_enter Try.func28, Try.ntmps28
    go_wp2_with (first | ((with_reducible refine gate_dst (N := 3) rfl ?_); refine box_event ?hg (N := 3) ?hd (cs := #[.int .u8 x.f0.f0, .slice A1 x.f0.f1.length c1, .string x.f0.f2, .string x.f0.f3, .int .i64 x.f0.f4, .int .i64 x.f1, .int .i64 x.f2, .int .i64 x.f3, .int .u64 x.f4, .slice A9 x.f5.length c9]) (t := 36) ?hr ?_; (case hd => rfl); (case hg => rfl); (case hr => first | (go_simp; done) | (go_simp; rfl)); intro g3 hg w3 hbox hb; have GE_g3 : Aside0 (w.heap.size ≤ g3) := ⟨by rw [hg]; exact below_size HB.out⟩; have n_HB := Aside0.mk (below_step HB.out hb); clear HB; have HB := n_HB; clear n_HB; have B3 := Aside0.mk hbox; clear hg hbox hb; have bB3_0 := (blk_cell B3.out 0).trans (show _ = some (.int .u8 x.f0.f0) from rfl); have bB3_1 := (blk_cell B3.out 1).trans (show _ = some (.slice A1 x.f0.f1.length c1) from rfl); have bB3_2 := (blk_cell B3.out 2).trans (show _ = some (.string x.f0.f2) from rfl); have bB3_3 := (blk_cell B3.out 3).trans (show _ = some (.string x.f0.f3) from rfl); have bB3_4 := (blk_cell B3.out 4).trans (show _ = some (.int .i64 x.f0.f4) from rfl); have bB3_5 := (blk_cell B3.out 5).trans (show _ = some (.int .i64 x.f1) from rfl); have bB3_6 := (blk_cell B3.out 6).trans (show _ = some (.int .i64 x.f2) from rfl); have bB3_7 := (blk_cell B3.out 7).trans (show _ = some (.int .i64 x.f3) from rfl); have bB3_8 := (blk_cell B3.out 8).trans (show _ = some (.int .u64 x.f4) from rfl); have bB3_9 := (blk_cell B3.out 9).trans (show _ = some (.slice A9 x.f5.length c9) from rfl); have bB3_f := fun j => blk_frozen B3.out j) | (go_at_call 34; refine (writes34 A1 c1 A9 c9 x _ (HX.out.below HB.out)).mono ?_; rw [Y1.out]; rintro e w5 ⟨rfl, hb⟩; have n_B3 := Aside0.mk (blk_below B3.out hb); have n_HB := Aside0.mk (below_step HB.out hb); clear B3 HB; have B3 := n_B3; have HB := n_HB; clear n_B3 n_HB; clear hb; clear bB3_0 bB3_1 bB3_2 bB3_3 bB3_4 bB3_5 bB3_6 bB3_7 bB3_8 bB3_9 bB3_f; have bB3_0 := (blk_cell B3.out 0).trans (show _ = some (.int .u8 x.f0.f0) from rfl); have bB3_1 := (blk_cell B3.out 1).trans (show _ = some (.slice A1 x.f0.f1.length c1) from rfl); have bB3_2 := (blk_cell B3.out 2).trans (show _ = some (.string x.f0.f2) from rfl); have bB3_3 := (blk_cell B3.out 3).trans (show _ = some (.string x.f0.f3) from rfl); have bB3_4 := (blk_cell B3.out 4).trans (show _ = some (.int .i64 x.f0.f4) from rfl); have bB3_5 := (blk_cell B3.out 5).trans (show _ = some (.int .i64 x.f1) from rfl); have bB3_6 := (blk_cell B3.out 6).trans (show _ = some (.int .i64 x.f2) from rfl); have bB3_7 := (blk_cell B3.out 7).trans (show _ = some (.int .i64 x.f3) from rfl); have bB3_8 := (blk_cell B3.out 8).trans (show _ = some (.int .u64 x.f4) from rfl); have bB3_9 := (blk_cell B3.out 9).trans (show _ = some (.slice A9 x.f5.length c9) from rfl); have bB3_f := fun j => blk_frozen B3.out j) | (go_at_call 20; refine (apply20 A c m A1 c1 x.f0.f1 _ (Kd.F_now (Kd.F_below HM.out HB.out)) HC.out (HX.out.below HB.out).o HX.out.oc hs).mono ?_; rw [HAP.out]; rintro e w6 ⟨A7, c7, rfl, hR, hb⟩; have HS := Aside0.mk (Kd.R_reads' hR); have HF := Aside0.mk (Kd.F_mono (Kd.R_F (Kd.R_bound hR)) (fun k hk => Or.inr (a := P k) (Nat.le_trans (below_size HB.out) hk.2.1))); have n_B3 := Aside0.mk (blk_below B3.out hb); have n_HB := Aside0.mk (below_step HB.out hb); clear B3 HB; have B3 := n_B3; have HB := n_HB; clear n_B3 n_HB; clear hb hR))
    go_ret2
    exact ⟨A7, c7, rfl, HF.out, HS.out.2.1, HB.out⟩
  · have Y1 : Aside0 ((x.f0.f0 == 1) = false) := ⟨beq_false_of_ne h1⟩
    rw [if_neg h1]
    clear h1
    obtain ⟨tb, htb⟩ : ∃ tb, toldP m x = tb := ⟨_, rfl⟩
    rw [htb]
    have HT := Aside0.mk htb
    clear htb
    go_enter Try.func28, Try.ntmps28
    go_wp2_with (first | ((with_reducible refine gate_dst (N := 3) rfl ?_); refine box_event ?hg (N := 3) ?hd (cs := #[.int .u8 x.f0.f0, .slice A1 x.f0.f1.length c1, .string x.f0.f2, .string x.f0.f3, .int .i64 x.f0.f4, .int .i64 x.f1, .int .i64 x.f2, .int .i64 x.f3, .int .u64 x.f4, .slice A9 x.f5.length c9]) (t := 36) ?hr ?_; (case hd => rfl); (case hg => rfl); (case hr => first | (go_simp; done) | (go_simp; rfl)); intro g3 hg w3 hbox hb; have GE_g3 : Aside0 (w.heap.size ≤ g3) := ⟨by rw [hg]; exact below_size HB.out⟩; have n_HB := Aside0.mk (below_step HB.out hb); clear HB; have HB := n_HB; clear n_HB; have B3 := Aside0.mk hbox; clear hg hbox hb; have bB3_0 := (blk_cell B3.out 0).trans (show _ = some (.int .u8 x.f0.f0) from rfl); have bB3_1 := (blk_cell B3.out 1).trans (show _ = some (.slice A1 x.f0.f1.length c1) from rfl); have bB3_2 := (blk_cell B3.out 2).trans (show _ = some (.string x.f0.f2) from rfl); have bB3_3 := (blk_cell B3.out 3).trans (show _ = some (.string x.f0.f3) from rfl); have bB3_4 := (blk_cell B3.out 4).trans (show _ = some (.int .i64 x.f0.f4) from rfl); have bB3_5 := (blk_cell B3.out 5).trans (show _ = some (.int .i64 x.f1) from rfl); have bB3_6 := (blk_cell B3.out 6).trans (show _ = some (.int .i64 x.f2) from rfl); have bB3_7 := (blk_cell B3.out 7).trans (show _ = some (.int .i64 x.f3) from rfl); have bB3_8 := (blk_cell B3.out 8).trans (show _ = some (.int .u64 x.f4) from rfl); have bB3_9 := (blk_cell B3.out 9).trans (show _ = some (.slice A9 x.f5.length c9) from rfl); have bB3_f := fun j => blk_frozen B3.out j) | (go_at_call 34; refine (writes34 A1 c1 A9 c9 x _ (HX.out.below HB.out)).mono ?_; rw [Y1.out]; rintro e w5 ⟨rfl, hb⟩; have n_B3 := Aside0.mk (blk_below B3.out hb); have n_HB := Aside0.mk (below_step HB.out hb); clear B3 HB; have B3 := n_B3; have HB := n_HB; clear n_B3 n_HB; clear hb; clear bB3_0 bB3_1 bB3_2 bB3_3 bB3_4 bB3_5 bB3_6 bB3_7 bB3_8 bB3_9 bB3_f; have bB3_0 := (blk_cell B3.out 0).trans (show _ = some (.int .u8 x.f0.f0) from rfl); have bB3_1 := (blk_cell B3.out 1).trans (show _ = some (.slice A1 x.f0.f1.length c1) from rfl); have bB3_2 := (blk_cell B3.out 2).trans (show _ = some (.string x.f0.f2) from rfl); have bB3_3 := (blk_cell B3.out 3).trans (show _ = some (.string x.f0.f3) from rfl); have bB3_4 := (blk_cell B3.out 4).trans (show _ = some (.int .i64 x.f0.f4) from rfl); have bB3_5 := (blk_cell B3.out 5).trans (show _ = some (.int .i64 x.f1) from rfl); have bB3_6 := (blk_cell B3.out 6).trans (show _ = some (.int .i64 x.f2) from rfl); have bB3_7 := (blk_cell B3.out 7).trans (show _ = some (.int .i64 x.f3) from rfl); have bB3_8 := (blk_cell B3.out 8).trans (show _ = some (.int .u64 x.f4) from rfl); have bB3_9 := (blk_cell B3.out 9).trans (show _ = some (.slice A9 x.f5.length c9) from rfl); have bB3_f := fun j => blk_frozen B3.out j) | (go_at_call 52; refine (told52 A c m A1 c1 A9 c9 x _ (Kd.F_now (Kd.F_below HM.out HB.out)) HC.out (HX.out.below HB.out) (by omega)).mono ?_; rw [HT.out]; rintro e w6 ⟨rfl, hb⟩; have n_B3 := Aside0.mk (blk_below B3.out hb); have n_HB := Aside0.mk (below_step HB.out hb); clear B3 HB; have B3 := n_B3; have HB := n_HB; clear n_B3 n_HB; clear hb))
    go_ret2
    exact ⟨A, c, rfl, Kd.F_mono (Kd.F_below HM.out HB.out) (fun k hk => .inl hk.1), HC.out, HB.out⟩

end Go.Proofs.Ytjieagpfnnbiiaa.XLin
