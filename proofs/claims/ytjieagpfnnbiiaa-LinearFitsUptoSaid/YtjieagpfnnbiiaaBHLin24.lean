/- Order's closure. -/
import Derived.Test.YtjieagpfnnbiiaaBHLin23
namespace Go.Proofs.Ytjieagpfnnbiiaa.XLin
open Go Go.RowKit Go.Proofs.YtjieagpfnnbiiaaW.PrintWords Go.Proofs.YtjieagpfnnbiiaaW.PrintLast Go.Proofs.YtjieagpfnnbiiaaW.PrintMore
open Go.Proofs.Ytjieagpfnnbiiaa
set_option linter.unusedVariables false
set_option linter.unusedSimpArgs false
def r33_1.T : Bool × List (List Nat × List Nat) := (true, [([], []), ([], []), ([0, 1], [0, 1]), ([2], [2]), ([], []), ([], []), ([4, 5], [4, 5]), ([6], [6]), ([], []), ([], []), ([8, 3, 0, 1, 2, 3, 8, 9], [3, 8]), ([9, 7, 10, 0, 1, 2, 3, 4, 5, 6, 7, 8, 9, 10], [7, 9])])
def r33_1.B : List Nat := [0, 0, 3, 7, 0, 0, 48, 112, 0, 0, 783, 2047]
theorem r33_1.tab : rtab .any (opsOf Try.f33 1) = r33_1.T := by kernel_rfl
theorem r33_1.bits : waitsOk r33_1.T.2 r33_1.B = true := by kernel_rfl
def r33_3.T : Bool × List (List Nat × List Nat) := (true, [([], []), ([0], [0]), ([], []), ([2, 1], [2]), ([1, 3], [1, 3])])
def r33_3.B : List Nat := [0, 1, 0, 7, 15]
theorem r33_3.tab : rtab .any (opsOf Try.f33 3) = r33_3.T := by kernel_rfl
theorem r33_3.bits : waitsOk r33_3.T.2 r33_3.B = true := by kernel_rfl
def r33_7.T : Bool × List (List Nat × List Nat) := (true, [([], []), ([0], [0]), ([], []), ([2], [2]), ([1, 3], [1, 3]), ([], []), ([], []), ([6], [6]), ([], []), ([8], [8]), ([7, 9, 4], [7, 9]), ([4, 5, 10], [4, 5, 10]), ([11, 10], [11]), ([12, 12, 0, 1, 2, 3, 4, 5, 6, 7, 8, 9, 10, 11, 12], [12])])
def r33_7.B : List Nat := [0, 1, 0, 4, 15, 0, 0, 64, 0, 256, 991, 2047, 4095, 8191]
theorem r33_7.tab : rtab .any (opsOf Try.f33 7) = r33_7.T := by kernel_rfl
theorem r33_7.bits : waitsOk r33_7.T.2 r33_7.B = true := by kernel_rfl
set_option maxHeartbeats 8000000 in
set_option maxRecDepth 100000 in
theorem by33 (gl : Nat) (L : Option Addr) (cl : Nat) (l : List S36) (a b : Nat) (w : World) (hg : w.heap[gl]? = some (.cells #[.slice L l.length cl] 26 (0, 0))) (hl : Kd.C k36 w L l.length l) (ha : a < l.length) (hb : b < l.length) :
    Calls Try.prog 33 #[.int .i64 (a : Int), .int .i64 (b : Int), .pointer (some ⟨gl, 0, none⟩)] w fun e w' => e = .returned (.int .i64 (byP (l.getD a z36) (l.getD b z36))) ∧ Below w.heap.size w w' := by
  have HG := Aside0.mk hg
  have HL := Aside0.mk hl
  have HB := Aside0.mk (Below.refl w.heap.size w)
  obtain ⟨ad, A1, c1, A9, c9, e0, hcl, hdi⟩ := at36 hl a ha
  obtain ⟨ad2, B1, d1, B9, d9, e1, hcl2, hdi2⟩ := at36 hl b hb
  subst e0
  obtain rfl := Option.some.inj e1
  obtain ⟨x, hx⟩ : ∃ x, l.getD a z36 = x := ⟨_, rfl⟩
  obtain ⟨y, hy⟩ : ∃ y, l.getD b z36 = y := ⟨_, rfl⟩
  rw [hx] at hcl hdi ⊢
  rw [hy] at hcl2 hdi2 ⊢
  have HCL := Aside0.mk hcl
  have HDI := Aside0.mk hdi
  have HCL2 := Aside0.mk hcl2
  have HDI2 := Aside0.mk hdi2
  clear hg hl hcl hdi hcl2 hdi2 hx hy e1
  have ha' : (a : Int) < (l.length : Int) := by omega
  have hb' : (b : Int) < (l.length : Int) := by omega
  obtain ⟨r, hr⟩ : ∃ r, byP x y = r := ⟨_, rfl⟩
  rw [hr]
  have HR := Aside0.mk hr
  clear hr
  go_enter Try.func33, Try.ntmps33
  go_upto_region 1 with (fail)
  refine start_ (n := 12) (S := fun w' => Below w.heap.size w w') (ds := []) #[false, false, false, false, false, false, false, false, false, false, false, false] (by kernel_rfl) rfl rfl (below_drew (Below.refl _ _)) (fun hHeld => ?_)
  refine with_tabW r33_1.tab r33_1.bits (fun HT_ HW_ => ?_)
  generalize w.drew = wd at hHeld ⊢
  refine take_ (i := 0) (N := some 9) (v := ?_) (a' := ?_) #[true, false, false, false, false, false, false, false, false, false, false, false] rfl rfl (take_ofW HT_.out HW_.out (by kernel_rfl)) (fun _ _ _ h => h) (Or.inl ⟨by rfl, ?_⟩) hHeld ?_ ?_
  rotate_left
  · rintro w' hbq
    have c_0 := (blk_cell (blk_below HG.out hbq) 0).trans (show _ = some (.slice (some ad) l.length cl) from rfl)
    go_simp
    with_reducible rfl
  rotate_left
  · simp only [Act.put, List.setIfInBounds_toArray, List.set_cons_zero, List.set_cons_succ, i64_w, i32_w]
    rfl
  refine pure_ (i := 1) (N := some 10) (v := ?_) (a' := ?_) #[true, true, false, false, false, false, false, false, false, false, false, false] rfl rfl (any_of HT_.out (by kernel_rfl)) (fun _ _ _ h => h) (Or.inl ⟨by rfl, ?_⟩) ?_ ?_
  rotate_left
  · intro w'
    go_simp
    with_reducible rfl
  rotate_left
  · simp only [Act.put, List.setIfInBounds_toArray, List.set_cons_zero, List.set_cons_succ, i64_w, i32_w]
    rfl
  refine pure_ (i := 2) (N := some 11) (v := ?_) (a' := ?_) #[true, true, true, false, false, false, false, false, false, false, false, false] rfl rfl (any_of HT_.out (by kernel_rfl)) (fun _ _ _ h => h) (Or.inl ⟨by rfl, ?_⟩) ?_ ?_
  rotate_left
  · intro w'
    go_simp
    with_reducible rfl
  rotate_left
  · simp only [Act.put, List.setIfInBounds_toArray, List.set_cons_zero, List.set_cons_succ, i64_w, i32_w]
    rfl
  refine take_ (i := 3) (N := some 12) (v := ?_) (a' := ?_) #[true, true, true, true, false, false, false, false, false, false, false, false] rfl rfl (take_ofW HT_.out HW_.out (by kernel_rfl)) (fun _ _ _ h => h) (Or.inl ⟨by rfl, ?_⟩) hHeld ?_ ?_
  rotate_left
  · rintro w' hbq
    have hq9 := HCL.out.below hbq
    have y0 := hq9.x0
    have y1 := hq9.x1
    have y2 := hq9.x2
    have y3 := hq9.x3
    have y4 := hq9.x4
    have y5 := hq9.x5
    have y6 := hq9.x6
    have y7 := hq9.x7
    have y8 := hq9.x8
    have y9 := hq9.x9
    go_simp
    with_reducible rfl
  rotate_left
  · simp only [Act.put, List.setIfInBounds_toArray, List.set_cons_zero, List.set_cons_succ, i64_w, i32_w]
    rfl
  refine take_ (i := 4) (N := some 13) (v := ?_) (a' := ?_) #[true, true, true, true, true, false, false, false, false, false, false, false] rfl rfl (take_ofW HT_.out HW_.out (by kernel_rfl)) (fun _ _ _ h => h) (Or.inl ⟨by rfl, ?_⟩) hHeld ?_ ?_
  rotate_left
  · rintro w' hbq
    have c_0 := (blk_cell (blk_below HG.out hbq) 0).trans (show _ = some (.slice (some ad) l.length cl) from rfl)
    go_simp
    with_reducible rfl
  rotate_left
  · simp only [Act.put, List.setIfInBounds_toArray, List.set_cons_zero, List.set_cons_succ, i64_w, i32_w]
    rfl
  refine pure_ (i := 5) (N := some 14) (v := ?_) (a' := ?_) #[true, true, true, true, true, true, false, false, false, false, false, false] rfl rfl (any_of HT_.out (by kernel_rfl)) (fun _ _ _ h => h) (Or.inl ⟨by rfl, ?_⟩) ?_ ?_
  rotate_left
  · intro w'
    go_simp
    with_reducible rfl
  rotate_left
  · simp only [Act.put, List.setIfInBounds_toArray, List.set_cons_zero, List.set_cons_succ, i64_w, i32_w]
    rfl
  refine pure_ (i := 6) (N := some 15) (v := ?_) (a' := ?_) #[true, true, true, true, true, true, true, false, false, false, false, false] rfl rfl (any_of HT_.out (by kernel_rfl)) (fun _ _ _ h => h) (Or.inl ⟨by rfl, ?_⟩) ?_ ?_
  rotate_left
  · intro w'
    go_simp
    with_reducible rfl
  rotate_left
  · simp only [Act.put, List.setIfInBounds_toArray, List.set_cons_zero, List.set_cons_succ, i64_w, i32_w]
    rfl
  refine take_ (i := 7) (N := some 16) (v := ?_) (a' := ?_) #[true, true, true, true, true, true, true, true, false, false, false, false] rfl rfl (take_ofW HT_.out HW_.out (by kernel_rfl)) (fun _ _ _ h => h) (Or.inl ⟨by rfl, ?_⟩) hHeld ?_ ?_
  rotate_left
  · rintro w' hbq
    have hq9 := HCL2.out.below hbq
    have y0 := hq9.x0
    have y1 := hq9.x1
    have y2 := hq9.x2
    have y3 := hq9.x3
    have y4 := hq9.x4
    have y5 := hq9.x5
    have y6 := hq9.x6
    have y7 := hq9.x7
    have y8 := hq9.x8
    have y9 := hq9.x9
    go_simp
    with_reducible rfl
  rotate_left
  · simp only [Act.put, List.setIfInBounds_toArray, List.set_cons_zero, List.set_cons_succ, i64_w, i32_w]
    rfl
  refine joinX (ι := Nat × Nat) 2 #[true, true, true, true, true, true, true, true, true, true, false, false] (fun i => [(6, .pointer (some ⟨i.1, 0, none⟩)), (7, .pointer (some ⟨i.2, 0, none⟩))]) (fun i wx => Aside0 (Below w.heap.size w wx) ∧ Aside0 (wx.heap[i.1]? = some (.cells #[.int .u8 0, .slice none 0 0, .string ByteArray.empty, .string ByteArray.empty, .int .i64 0, .int .i64 0, .int .i64 0, .int .i64 0, .int .u64 0, .slice none 0 0] 36 (0, 0))) ∧ Aside0 (wx.heap[i.2]? = some (.cells #[.int .u8 0, .slice none 0 0, .string ByteArray.empty, .string ByteArray.empty, .int .i64 0, .int .i64 0, .int .i64 0, .int .i64 0, .int .u64 0, .slice none 0 0] 36 (0, 0))) ∧ Aside0 (i.1 ≠ i.2) ∧ Aside0 (w.heap.size ≤ i.1) ∧ Aside0 (w.heap.size ≤ i.2)) ?_ (fun JJ => ?_)
  rotate_left
  · refine two_ (i := 8) (j := 9) (Ni := some 6) (Nj := some 7) #[true, true, true, true, true, true, true, true, true, false, false, false] #[true, true, true, true, true, true, true, true, false, true, false, false] rfl rfl rfl rfl (two_of HT_.out (by kernel_rfl)) (by decide) (by decide) (fun K hK => ?_) (fun K hK => ?_)
    · refine box_step (N := 6) (cs := #[.int .u8 0, .slice none 0 0, .string ByteArray.empty, .string ByteArray.empty, .int .i64 0, .int .i64 0, .int .i64 0, .int .i64 0, .int .u64 0, .slice none 0 0]) (t := 36) (by rfl) rfl (by first | (go_simp; done) | (go_simp; rfl)) ?_
      intro g6 hg w6 hbox hb
      have Gg6 := Aside0.mk (Nat.le_trans (below_size hHeld) (Nat.le_of_eq hg.symm))
      have X6 := Aside0.mk hbox
      have hx := below_step hHeld hb
      clear hbox hb hg hHeld
      refine hK.out _ _ hx (fun hHeld => ?_)
      clear hK K hx
      refine norm_ (a' := ?_) ?_ ?_
      rotate_left
      · show Act.put _ (some 6) _ = _
        simp only [Act.put, List.setIfInBounds_toArray, List.set_cons_zero, List.set_cons_succ, i64_w, i32_w]
        rfl
      refine one_ (i := 9) (N := some 7) #[true, true, true, true, true, true, true, true, true, true, false, false] rfl rfl (one_of HT_.out (by kernel_rfl)) (by decide) (fun K hK => ?_)
      refine box_step (N := 7) (cs := #[.int .u8 0, .slice none 0 0, .string ByteArray.empty, .string ByteArray.empty, .int .i64 0, .int .i64 0, .int .i64 0, .int .i64 0, .int .u64 0, .slice none 0 0]) (t := 36) (by rfl) rfl (by first | (go_simp; done) | (go_simp; rfl)) ?_
      intro g7 hg w6 hbox hb
      have Gg7 := Aside0.mk (Nat.le_trans (below_size hHeld) (Nat.le_of_eq hg.symm))
      have NE : Aside0 (g6 ≠ g7) := ⟨by rw [hg]; exact Nat.ne_of_lt (blk_lt X6.out)⟩
      have n_X6 := Aside0.mk (blk_below X6.out hb)
      clear X6
      have X6 := n_X6
      clear n_X6
      have X7 := Aside0.mk hbox
      have hx := below_step hHeld hb
      clear hbox hb hg hHeld
      refine hK.out _ _ hx (fun hHeld => ?_)
      clear hK K hx
      refine norm_ ?_ (JJ.out (g6, g7) _ ⟨⟨hHeld⟩, X6, X7, NE, Gg6, Gg7⟩)
      show Act.put _ (some 7) _ = _
      simp only [putAll, Act.put, List.setIfInBounds_toArray, List.set_cons_zero, List.set_cons_succ]
    · refine box_step (N := 7) (cs := #[.int .u8 0, .slice none 0 0, .string ByteArray.empty, .string ByteArray.empty, .int .i64 0, .int .i64 0, .int .i64 0, .int .i64 0, .int .u64 0, .slice none 0 0]) (t := 36) (by rfl) rfl (by first | (go_simp; done) | (go_simp; rfl)) ?_
      intro g7 hg w6 hbox hb
      have Gg7 := Aside0.mk (Nat.le_trans (below_size hHeld) (Nat.le_of_eq hg.symm))
      have X7 := Aside0.mk hbox
      have hx := below_step hHeld hb
      clear hbox hb hg hHeld
      refine hK.out _ _ hx (fun hHeld => ?_)
      clear hK K hx
      refine norm_ (a' := ?_) ?_ ?_
      rotate_left
      · show Act.put _ (some 7) _ = _
        simp only [Act.put, List.setIfInBounds_toArray, List.set_cons_zero, List.set_cons_succ, i64_w, i32_w]
        rfl
      refine one_ (i := 8) (N := some 6) #[true, true, true, true, true, true, true, true, true, true, false, false] rfl rfl (one_of HT_.out (by kernel_rfl)) (by decide) (fun K hK => ?_)
      refine box_step (N := 6) (cs := #[.int .u8 0, .slice none 0 0, .string ByteArray.empty, .string ByteArray.empty, .int .i64 0, .int .i64 0, .int .i64 0, .int .i64 0, .int .u64 0, .slice none 0 0]) (t := 36) (by rfl) rfl (by first | (go_simp; done) | (go_simp; rfl)) ?_
      intro g6 hg w6 hbox hb
      have Gg6 := Aside0.mk (Nat.le_trans (below_size hHeld) (Nat.le_of_eq hg.symm))
      have NE : Aside0 (g6 ≠ g7) := ⟨by rw [hg]; exact fun e => Nat.ne_of_lt (blk_lt X7.out) e.symm⟩
      have n_X7 := Aside0.mk (blk_below X7.out hb)
      clear X7
      have X7 := n_X7
      clear n_X7
      have X6 := Aside0.mk hbox
      have hx := below_step hHeld hb
      clear hbox hb hg hHeld
      refine hK.out _ _ hx (fun hHeld => ?_)
      clear hK K hx
      refine norm_ ?_ (JJ.out (g6, g7) _ ⟨⟨hHeld⟩, X6, X7, NE, Gg6, Gg7⟩)
      show Act.put _ (some 6) _ = _
      simp only [putAll, Act.put, List.setIfInBounds_toArray, List.set_cons_zero, List.set_cons_succ]
  rintro ⟨g6, g7⟩ wx ⟨HX, X6, X7, NE, G6, G7⟩
  dsimp only at HX X6 X7 NE G6 G7 ⊢
  simp only [putAll, Act.put, List.setIfInBounds_toArray, List.set_cons_zero, List.set_cons_succ]
  clear hHeld
  have hHeld := trivial
  refine one_ (i := 10) (N := none) #[true, true, true, true, true, true, true, true, true, true, true, false] rfl rfl (one_of HT_.out (by kernel_rfl)) (by decide) (fun K hK => ?_)
  have p0 := (blk_cell X6.out 0).trans (show _ = some (.int .u8 0) from rfl)
  have p1 := (blk_cell X6.out 1).trans (show _ = some (.slice none 0 0) from rfl)
  have p2 := (blk_cell X6.out 2).trans (show _ = some (.string ByteArray.empty) from rfl)
  have p3 := (blk_cell X6.out 3).trans (show _ = some (.string ByteArray.empty) from rfl)
  have p4 := (blk_cell X6.out 4).trans (show _ = some (.int .i64 0) from rfl)
  have p5 := (blk_cell X6.out 5).trans (show _ = some (.int .i64 0) from rfl)
  have p6 := (blk_cell X6.out 6).trans (show _ = some (.int .i64 0) from rfl)
  have p7 := (blk_cell X6.out 7).trans (show _ = some (.int .i64 0) from rfl)
  have p8 := (blk_cell X6.out 8).trans (show _ = some (.int .u64 0) from rfl)
  have p9 := (blk_cell X6.out 9).trans (show _ = some (.slice none 0 0) from rfl)
  have pf := fun j => blk_frozen X6.out j
  refine skip_ (w1 := ?_) (by rfl) rfl ?_ ?_
  rotate_left
  · go_simp
    rfl
  refine hK.out _ _ (((((((((((HX.out.setCell (p := ⟨g6, 0, none⟩) G6.out (.int .u8 x.f0.f0)).setCell (p := ⟨g6, 1, none⟩) G6.out (.slice A1 x.f0.f1.length c1)).setCell (p := ⟨g6, 2, none⟩) G6.out (.string x.f0.f2)).setCell (p := ⟨g6, 3, none⟩) G6.out (.string x.f0.f3)).setCell (p := ⟨g6, 4, none⟩) G6.out (.int .i64 x.f0.f4)).setCell (p := ⟨g6, 5, none⟩) G6.out (.int .i64 x.f1)).setCell (p := ⟨g6, 6, none⟩) G6.out (.int .i64 x.f2)).setCell (p := ⟨g6, 7, none⟩) G6.out (.int .i64 x.f3)).setCell (p := ⟨g6, 8, none⟩) G6.out (.int .u64 x.f4)).setCell (p := ⟨g6, 9, none⟩) G6.out (.slice A9 x.f5.length c9))) (fun hHeld => ?_)
  clear hK K hHeld
  clear p0 p1 p2 p3 p4 p5 p6 p7 p8 p9 pf
  have s0 := blk_put (cs' := #[.int .u8 x.f0.f0, .slice none 0 0, .string ByteArray.empty, .string ByteArray.empty, .int .i64 0, .int .i64 0, .int .i64 0, .int .i64 0, .int .u64 0, .slice none 0 0]) X6.out 0 (.int .u8 x.f0.f0) rfl
  have s1 := blk_put (cs' := #[.int .u8 x.f0.f0, .slice A1 x.f0.f1.length c1, .string ByteArray.empty, .string ByteArray.empty, .int .i64 0, .int .i64 0, .int .i64 0, .int .i64 0, .int .u64 0, .slice none 0 0]) s0 1 (.slice A1 x.f0.f1.length c1) rfl
  have s2 := blk_put (cs' := #[.int .u8 x.f0.f0, .slice A1 x.f0.f1.length c1, .string x.f0.f2, .string ByteArray.empty, .int .i64 0, .int .i64 0, .int .i64 0, .int .i64 0, .int .u64 0, .slice none 0 0]) s1 2 (.string x.f0.f2) rfl
  have s3 := blk_put (cs' := #[.int .u8 x.f0.f0, .slice A1 x.f0.f1.length c1, .string x.f0.f2, .string x.f0.f3, .int .i64 0, .int .i64 0, .int .i64 0, .int .i64 0, .int .u64 0, .slice none 0 0]) s2 3 (.string x.f0.f3) rfl
  have s4 := blk_put (cs' := #[.int .u8 x.f0.f0, .slice A1 x.f0.f1.length c1, .string x.f0.f2, .string x.f0.f3, .int .i64 x.f0.f4, .int .i64 0, .int .i64 0, .int .i64 0, .int .u64 0, .slice none 0 0]) s3 4 (.int .i64 x.f0.f4) rfl
  have s5 := blk_put (cs' := #[.int .u8 x.f0.f0, .slice A1 x.f0.f1.length c1, .string x.f0.f2, .string x.f0.f3, .int .i64 x.f0.f4, .int .i64 x.f1, .int .i64 0, .int .i64 0, .int .u64 0, .slice none 0 0]) s4 5 (.int .i64 x.f1) rfl
  have s6 := blk_put (cs' := #[.int .u8 x.f0.f0, .slice A1 x.f0.f1.length c1, .string x.f0.f2, .string x.f0.f3, .int .i64 x.f0.f4, .int .i64 x.f1, .int .i64 x.f2, .int .i64 0, .int .u64 0, .slice none 0 0]) s5 6 (.int .i64 x.f2) rfl
  have s7 := blk_put (cs' := #[.int .u8 x.f0.f0, .slice A1 x.f0.f1.length c1, .string x.f0.f2, .string x.f0.f3, .int .i64 x.f0.f4, .int .i64 x.f1, .int .i64 x.f2, .int .i64 x.f3, .int .u64 0, .slice none 0 0]) s6 7 (.int .i64 x.f3) rfl
  have s8 := blk_put (cs' := #[.int .u8 x.f0.f0, .slice A1 x.f0.f1.length c1, .string x.f0.f2, .string x.f0.f3, .int .i64 x.f0.f4, .int .i64 x.f1, .int .i64 x.f2, .int .i64 x.f3, .int .u64 x.f4, .slice none 0 0]) s7 8 (.int .u64 x.f4) rfl
  have s9 := blk_put (cs' := #[.int .u8 x.f0.f0, .slice A1 x.f0.f1.length c1, .string x.f0.f2, .string x.f0.f3, .int .i64 x.f0.f4, .int .i64 x.f1, .int .i64 x.f2, .int .i64 x.f3, .int .u64 x.f4, .slice A9 x.f5.length c9]) s8 9 (.slice A9 x.f5.length c9) rfl
  have u7 := (blk_far (blk_far (blk_far (blk_far (blk_far (blk_far (blk_far (blk_far (blk_far (blk_far X7.out (p := ⟨g6, 0, none⟩) (Ne.symm NE.out) (.int .u8 x.f0.f0)) (p := ⟨g6, 1, none⟩) (Ne.symm NE.out) (.slice A1 x.f0.f1.length c1)) (p := ⟨g6, 2, none⟩) (Ne.symm NE.out) (.string x.f0.f2)) (p := ⟨g6, 3, none⟩) (Ne.symm NE.out) (.string x.f0.f3)) (p := ⟨g6, 4, none⟩) (Ne.symm NE.out) (.int .i64 x.f0.f4)) (p := ⟨g6, 5, none⟩) (Ne.symm NE.out) (.int .i64 x.f1)) (p := ⟨g6, 6, none⟩) (Ne.symm NE.out) (.int .i64 x.f2)) (p := ⟨g6, 7, none⟩) (Ne.symm NE.out) (.int .i64 x.f3)) (p := ⟨g6, 8, none⟩) (Ne.symm NE.out) (.int .u64 x.f4)) (p := ⟨g6, 9, none⟩) (Ne.symm NE.out) (.slice A9 x.f5.length c9))
  have hx := ((((((((((HX.out.setCell (p := ⟨g6, 0, none⟩) G6.out (.int .u8 x.f0.f0)).setCell (p := ⟨g6, 1, none⟩) G6.out (.slice A1 x.f0.f1.length c1)).setCell (p := ⟨g6, 2, none⟩) G6.out (.string x.f0.f2)).setCell (p := ⟨g6, 3, none⟩) G6.out (.string x.f0.f3)).setCell (p := ⟨g6, 4, none⟩) G6.out (.int .i64 x.f0.f4)).setCell (p := ⟨g6, 5, none⟩) G6.out (.int .i64 x.f1)).setCell (p := ⟨g6, 6, none⟩) G6.out (.int .i64 x.f2)).setCell (p := ⟨g6, 7, none⟩) G6.out (.int .i64 x.f3)).setCell (p := ⟨g6, 8, none⟩) G6.out (.int .u64 x.f4)).setCell (p := ⟨g6, 9, none⟩) G6.out (.slice A9 x.f5.length c9))
  generalize (World.setCell (World.setCell (World.setCell (World.setCell (World.setCell (World.setCell (World.setCell (World.setCell (World.setCell (World.setCell wx ⟨g6, 0, none⟩ (.int .u8 x.f0.f0)) ⟨g6, 1, none⟩ (.slice A1 x.f0.f1.length c1)) ⟨g6, 2, none⟩ (.string x.f0.f2)) ⟨g6, 3, none⟩ (.string x.f0.f3)) ⟨g6, 4, none⟩ (.int .i64 x.f0.f4)) ⟨g6, 5, none⟩ (.int .i64 x.f1)) ⟨g6, 6, none⟩ (.int .i64 x.f2)) ⟨g6, 7, none⟩ (.int .i64 x.f3)) ⟨g6, 8, none⟩ (.int .u64 x.f4)) ⟨g6, 9, none⟩ (.slice A9 x.f5.length c9)) = wy at s9 u7 hx ⊢
  clear HX X6 X7
  have HX := Aside0.mk hx
  have X6 := Aside0.mk s9
  have X7 := Aside0.mk u7
  clear hx u7 s0 s1 s2 s3 s4 s5 s6 s7 s8 s9
  have hHeld := trivial
  refine one_ (i := 11) (N := none) #[true, true, true, true, true, true, true, true, true, true, true, true] rfl rfl (one_of HT_.out (by kernel_rfl)) (by decide) (fun K hK => ?_)
  have p0 := (blk_cell X7.out 0).trans (show _ = some (.int .u8 0) from rfl)
  have p1 := (blk_cell X7.out 1).trans (show _ = some (.slice none 0 0) from rfl)
  have p2 := (blk_cell X7.out 2).trans (show _ = some (.string ByteArray.empty) from rfl)
  have p3 := (blk_cell X7.out 3).trans (show _ = some (.string ByteArray.empty) from rfl)
  have p4 := (blk_cell X7.out 4).trans (show _ = some (.int .i64 0) from rfl)
  have p5 := (blk_cell X7.out 5).trans (show _ = some (.int .i64 0) from rfl)
  have p6 := (blk_cell X7.out 6).trans (show _ = some (.int .i64 0) from rfl)
  have p7 := (blk_cell X7.out 7).trans (show _ = some (.int .i64 0) from rfl)
  have p8 := (blk_cell X7.out 8).trans (show _ = some (.int .u64 0) from rfl)
  have p9 := (blk_cell X7.out 9).trans (show _ = some (.slice none 0 0) from rfl)
  have pf := fun j => blk_frozen X7.out j
  refine skip_ (w1 := ?_) (by rfl) rfl ?_ ?_
  rotate_left
  · go_simp
    rfl
  refine hK.out _ _ (((((((((((HX.out.setCell (p := ⟨g7, 0, none⟩) G7.out (.int .u8 y.f0.f0)).setCell (p := ⟨g7, 1, none⟩) G7.out (.slice B1 y.f0.f1.length d1)).setCell (p := ⟨g7, 2, none⟩) G7.out (.string y.f0.f2)).setCell (p := ⟨g7, 3, none⟩) G7.out (.string y.f0.f3)).setCell (p := ⟨g7, 4, none⟩) G7.out (.int .i64 y.f0.f4)).setCell (p := ⟨g7, 5, none⟩) G7.out (.int .i64 y.f1)).setCell (p := ⟨g7, 6, none⟩) G7.out (.int .i64 y.f2)).setCell (p := ⟨g7, 7, none⟩) G7.out (.int .i64 y.f3)).setCell (p := ⟨g7, 8, none⟩) G7.out (.int .u64 y.f4)).setCell (p := ⟨g7, 9, none⟩) G7.out (.slice B9 y.f5.length d9))) (fun hHeld => ?_)
  clear hK K hHeld
  clear p0 p1 p2 p3 p4 p5 p6 p7 p8 p9 pf
  have s0 := blk_put (cs' := #[.int .u8 y.f0.f0, .slice none 0 0, .string ByteArray.empty, .string ByteArray.empty, .int .i64 0, .int .i64 0, .int .i64 0, .int .i64 0, .int .u64 0, .slice none 0 0]) X7.out 0 (.int .u8 y.f0.f0) rfl
  have s1 := blk_put (cs' := #[.int .u8 y.f0.f0, .slice B1 y.f0.f1.length d1, .string ByteArray.empty, .string ByteArray.empty, .int .i64 0, .int .i64 0, .int .i64 0, .int .i64 0, .int .u64 0, .slice none 0 0]) s0 1 (.slice B1 y.f0.f1.length d1) rfl
  have s2 := blk_put (cs' := #[.int .u8 y.f0.f0, .slice B1 y.f0.f1.length d1, .string y.f0.f2, .string ByteArray.empty, .int .i64 0, .int .i64 0, .int .i64 0, .int .i64 0, .int .u64 0, .slice none 0 0]) s1 2 (.string y.f0.f2) rfl
  have s3 := blk_put (cs' := #[.int .u8 y.f0.f0, .slice B1 y.f0.f1.length d1, .string y.f0.f2, .string y.f0.f3, .int .i64 0, .int .i64 0, .int .i64 0, .int .i64 0, .int .u64 0, .slice none 0 0]) s2 3 (.string y.f0.f3) rfl
  have s4 := blk_put (cs' := #[.int .u8 y.f0.f0, .slice B1 y.f0.f1.length d1, .string y.f0.f2, .string y.f0.f3, .int .i64 y.f0.f4, .int .i64 0, .int .i64 0, .int .i64 0, .int .u64 0, .slice none 0 0]) s3 4 (.int .i64 y.f0.f4) rfl
  have s5 := blk_put (cs' := #[.int .u8 y.f0.f0, .slice B1 y.f0.f1.length d1, .string y.f0.f2, .string y.f0.f3, .int .i64 y.f0.f4, .int .i64 y.f1, .int .i64 0, .int .i64 0, .int .u64 0, .slice none 0 0]) s4 5 (.int .i64 y.f1) rfl
  have s6 := blk_put (cs' := #[.int .u8 y.f0.f0, .slice B1 y.f0.f1.length d1, .string y.f0.f2, .string y.f0.f3, .int .i64 y.f0.f4, .int .i64 y.f1, .int .i64 y.f2, .int .i64 0, .int .u64 0, .slice none 0 0]) s5 6 (.int .i64 y.f2) rfl
  have s7 := blk_put (cs' := #[.int .u8 y.f0.f0, .slice B1 y.f0.f1.length d1, .string y.f0.f2, .string y.f0.f3, .int .i64 y.f0.f4, .int .i64 y.f1, .int .i64 y.f2, .int .i64 y.f3, .int .u64 0, .slice none 0 0]) s6 7 (.int .i64 y.f3) rfl
  have s8 := blk_put (cs' := #[.int .u8 y.f0.f0, .slice B1 y.f0.f1.length d1, .string y.f0.f2, .string y.f0.f3, .int .i64 y.f0.f4, .int .i64 y.f1, .int .i64 y.f2, .int .i64 y.f3, .int .u64 y.f4, .slice none 0 0]) s7 8 (.int .u64 y.f4) rfl
  have s9 := blk_put (cs' := #[.int .u8 y.f0.f0, .slice B1 y.f0.f1.length d1, .string y.f0.f2, .string y.f0.f3, .int .i64 y.f0.f4, .int .i64 y.f1, .int .i64 y.f2, .int .i64 y.f3, .int .u64 y.f4, .slice B9 y.f5.length d9]) s8 9 (.slice B9 y.f5.length d9) rfl
  have u6 := (blk_far (blk_far (blk_far (blk_far (blk_far (blk_far (blk_far (blk_far (blk_far (blk_far X6.out (p := ⟨g7, 0, none⟩) NE.out (.int .u8 y.f0.f0)) (p := ⟨g7, 1, none⟩) NE.out (.slice B1 y.f0.f1.length d1)) (p := ⟨g7, 2, none⟩) NE.out (.string y.f0.f2)) (p := ⟨g7, 3, none⟩) NE.out (.string y.f0.f3)) (p := ⟨g7, 4, none⟩) NE.out (.int .i64 y.f0.f4)) (p := ⟨g7, 5, none⟩) NE.out (.int .i64 y.f1)) (p := ⟨g7, 6, none⟩) NE.out (.int .i64 y.f2)) (p := ⟨g7, 7, none⟩) NE.out (.int .i64 y.f3)) (p := ⟨g7, 8, none⟩) NE.out (.int .u64 y.f4)) (p := ⟨g7, 9, none⟩) NE.out (.slice B9 y.f5.length d9))
  have hx := ((((((((((HX.out.setCell (p := ⟨g7, 0, none⟩) G7.out (.int .u8 y.f0.f0)).setCell (p := ⟨g7, 1, none⟩) G7.out (.slice B1 y.f0.f1.length d1)).setCell (p := ⟨g7, 2, none⟩) G7.out (.string y.f0.f2)).setCell (p := ⟨g7, 3, none⟩) G7.out (.string y.f0.f3)).setCell (p := ⟨g7, 4, none⟩) G7.out (.int .i64 y.f0.f4)).setCell (p := ⟨g7, 5, none⟩) G7.out (.int .i64 y.f1)).setCell (p := ⟨g7, 6, none⟩) G7.out (.int .i64 y.f2)).setCell (p := ⟨g7, 7, none⟩) G7.out (.int .i64 y.f3)).setCell (p := ⟨g7, 8, none⟩) G7.out (.int .u64 y.f4)).setCell (p := ⟨g7, 9, none⟩) G7.out (.slice B9 y.f5.length d9))
  generalize (World.setCell (World.setCell (World.setCell (World.setCell (World.setCell (World.setCell (World.setCell (World.setCell (World.setCell (World.setCell wy ⟨g7, 0, none⟩ (.int .u8 y.f0.f0)) ⟨g7, 1, none⟩ (.slice B1 y.f0.f1.length d1)) ⟨g7, 2, none⟩ (.string y.f0.f2)) ⟨g7, 3, none⟩ (.string y.f0.f3)) ⟨g7, 4, none⟩ (.int .i64 y.f0.f4)) ⟨g7, 5, none⟩ (.int .i64 y.f1)) ⟨g7, 6, none⟩ (.int .i64 y.f2)) ⟨g7, 7, none⟩ (.int .i64 y.f3)) ⟨g7, 8, none⟩ (.int .u64 y.f4)) ⟨g7, 9, none⟩ (.slice B9 y.f5.length d9)) = wz at s9 u6 hx ⊢
  clear HX X6 X7 HB
  have HB := Aside0.mk hx
  have X7 := Aside0.mk s9
  have X6 := Aside0.mk u6
  clear hx u6 s0 s1 s2 s3 s4 s5 s6 s7 s8 s9
  refine done_ (done_of HT_.out (by kernel_rfl)) ?_
  obtain ⟨q1, hq1⟩ : ∃ q, (x.f0.f0 == 1) = q := ⟨_, rfl⟩
  obtain ⟨q2, hq2⟩ : ∃ q, (y.f0.f0 == 1) = q := ⟨_, rfl⟩
  have HQ1 := Aside0.mk hq1
  have HQ2 := Aside0.mk hq2
  clear hq1 hq2
  have HK : Aside0 (kindOf x y = if q1 = q2 then 0 else if q1 = true then -1 else 1) := ⟨by unfold kindOf; rw [HQ1.out, HQ2.out]⟩
  go_upto_region 3 with (fail)
  refine start_ (n := 5) (S := fun w' => Below wz.heap.size wz w') (ds := []) #[false, false, false, false, false] (by kernel_rfl) rfl rfl (below_drew (Below.refl _ _)) (fun hHeld => ?_)
  refine with_tabW r33_3.tab r33_3.bits (fun HT_ HW_ => ?_)
  generalize wz.drew = wd at hHeld ⊢
  refine take_ (i := 0) (N := some 17) (v := ?_) (a' := ?_) #[true, false, false, false, false] rfl rfl (take_ofW HT_.out HW_.out (by kernel_rfl)) (fun _ _ _ h => h) (Or.inl ⟨by rfl, ?_⟩) hHeld ?_ ?_
  rotate_left
  · rintro w' hbq
    have c_0 := (blk_cell (blk_below X6.out hbq) 0).trans (show _ = some (.int .u8 x.f0.f0) from rfl)
    have c_1 := (blk_cell (blk_below X6.out hbq) 1).trans (show _ = some (.slice A1 x.f0.f1.length c1) from rfl)
    have c_2 := (blk_cell (blk_below X6.out hbq) 2).trans (show _ = some (.string x.f0.f2) from rfl)
    have c_3 := (blk_cell (blk_below X6.out hbq) 3).trans (show _ = some (.string x.f0.f3) from rfl)
    have c_4 := (blk_cell (blk_below X6.out hbq) 4).trans (show _ = some (.int .i64 x.f0.f4) from rfl)
    have c_5 := (blk_cell (blk_below X6.out hbq) 5).trans (show _ = some (.int .i64 x.f1) from rfl)
    have c_6 := (blk_cell (blk_below X6.out hbq) 6).trans (show _ = some (.int .i64 x.f2) from rfl)
    have c_7 := (blk_cell (blk_below X6.out hbq) 7).trans (show _ = some (.int .i64 x.f3) from rfl)
    have c_8 := (blk_cell (blk_below X6.out hbq) 8).trans (show _ = some (.int .u64 x.f4) from rfl)
    have c_9 := (blk_cell (blk_below X6.out hbq) 9).trans (show _ = some (.slice A9 x.f5.length c9) from rfl)
    go_simp
    with_reducible rfl
  rotate_left
  · simp only [Act.put, List.setIfInBounds_toArray, List.set_cons_zero, List.set_cons_succ, i64_w, i32_w]
    rfl
  refine take_ (i := 2) (N := some 19) (v := ?_) (a' := ?_) #[true, false, true, false, false] rfl rfl (take_ofW HT_.out HW_.out (by kernel_rfl)) (fun _ _ _ h => h) (Or.inl ⟨by rfl, ?_⟩) hHeld ?_ ?_
  rotate_left
  · rintro w' hbq
    have c_0 := (blk_cell (blk_below X7.out hbq) 0).trans (show _ = some (.int .u8 y.f0.f0) from rfl)
    have c_1 := (blk_cell (blk_below X7.out hbq) 1).trans (show _ = some (.slice B1 y.f0.f1.length d1) from rfl)
    have c_2 := (blk_cell (blk_below X7.out hbq) 2).trans (show _ = some (.string y.f0.f2) from rfl)
    have c_3 := (blk_cell (blk_below X7.out hbq) 3).trans (show _ = some (.string y.f0.f3) from rfl)
    have c_4 := (blk_cell (blk_below X7.out hbq) 4).trans (show _ = some (.int .i64 y.f0.f4) from rfl)
    have c_5 := (blk_cell (blk_below X7.out hbq) 5).trans (show _ = some (.int .i64 y.f1) from rfl)
    have c_6 := (blk_cell (blk_below X7.out hbq) 6).trans (show _ = some (.int .i64 y.f2) from rfl)
    have c_7 := (blk_cell (blk_below X7.out hbq) 7).trans (show _ = some (.int .i64 y.f3) from rfl)
    have c_8 := (blk_cell (blk_below X7.out hbq) 8).trans (show _ = some (.int .u64 y.f4) from rfl)
    have c_9 := (blk_cell (blk_below X7.out hbq) 9).trans (show _ = some (.slice B9 y.f5.length d9) from rfl)
    go_simp
    with_reducible rfl
  rotate_left
  · simp only [Act.put, List.setIfInBounds_toArray, List.set_cons_zero, List.set_cons_succ, i64_w, i32_w]
    rfl
  refine one_ (i := 1) (N := some 18) #[true, true, true, false, false] rfl rfl (one_of HT_.out (by kernel_rfl)) (by decide) (fun K hK => ?_)
  refine goes_ Try.func34 (by kernel_rfl) rfl #[doneV A1 c1 A9 c9 x] (by rfl) rfl rfl (by first | done | rfl | (simp only [List.map_toArray, List.map_cons, List.map_nil]; rfl)) ?_
  refine (writes34 A1 c1 A9 c9 x _ (HDI.out.below (below_step HB.out hHeld))).mono ?_
  rw [HQ1.out]
  rintro e0 wq ⟨rfl, hb⟩
  refine ⟨_, rfl, ?_⟩
  have hx := below_step hHeld hb
  refine hK.out _ _ hx (fun hNew => ?_)
  clear hK K hx hb hHeld
  have hHeld := hNew
  clear hNew
  refine norm_ (a' := ?_) ?_ ?_
  rotate_left
  · show Act.put _ (some 18) _ = _
    simp only [Act.put, List.setIfInBounds_toArray, List.set_cons_zero, List.set_cons_succ, i64_w, i32_w]
    rfl
  refine one_ (i := 3) (N := some 20) #[true, true, true, true, false] rfl rfl (one_of HT_.out (by kernel_rfl)) (by decide) (fun K hK => ?_)
  refine goes_ Try.func34 (by kernel_rfl) rfl #[doneV B1 d1 B9 d9 y] (by rfl) rfl rfl (by first | done | rfl | (simp only [List.map_toArray, List.map_cons, List.map_nil]; rfl)) ?_
  refine (writes34 B1 d1 B9 d9 y _ (HDI2.out.below (below_step HB.out hHeld))).mono ?_
  rw [HQ2.out]
  rintro e0 wq ⟨rfl, hb⟩
  refine ⟨_, rfl, ?_⟩
  have hx := below_step hHeld hb
  refine hK.out _ _ hx (fun hNew => ?_)
  clear hK K hx hb hHeld
  have hHeld := hNew
  clear hNew
  refine norm_ (a' := ?_) ?_ ?_
  rotate_left
  · show Act.put _ (some 20) _ = _
    simp only [Act.put, List.setIfInBounds_toArray, List.set_cons_zero, List.set_cons_succ, i64_w, i32_w]
    rfl
  refine pure_ (i := 4) (N := some 21) (v := ?_) (a' := ?_) #[true, true, true, true, true] rfl rfl (any_of HT_.out (by kernel_rfl)) (fun _ _ _ h => h) (Or.inl ⟨by rfl, ?_⟩) ?_ ?_
  rotate_left
  · intro w'
    go_simp
    with_reducible rfl
  rotate_left
  · simp only [Act.put, List.setIfInBounds_toArray, List.set_cons_zero, List.set_cons_succ, i64_w, i32_w]
    rfl
  refine done_ (done_of HT_.out (by kernel_rfl)) ?_
  have n_HB := Aside0.mk (below_step HB.out hHeld)
  have n_X6 := Aside0.mk (blk_below X6.out hHeld)
  have n_X7 := Aside0.mk (blk_below X7.out hHeld)
  clear HB X6 X7 hHeld
  have HB := n_HB
  have X6 := n_X6
  have X7 := n_X7
  clear n_HB n_X6 n_X7
  rename World => w9
  obtain ⟨q3, hq3⟩ : ∃ q, (q1 != q2) = q := ⟨_, rfl⟩
  go_upto_if 21 with (fail)
  go_cut [8] (fun v8 wx => v8 = .int .i64 (kindOf x y) ∧ Aside0 (wx.heap[g6]? = some (.cells #[.int .u8 x.f0.f0, .slice A1 x.f0.f1.length c1, .string x.f0.f2, .string x.f0.f3, .int .i64 x.f0.f4, .int .i64 x.f1, .int .i64 x.f2, .int .i64 x.f3, .int .u64 x.f4, .slice A9 x.f5.length c9] 36 (0, 0))) ∧ Aside0 (wx.heap[g7]? = some (.cells #[.int .u8 y.f0.f0, .slice B1 y.f0.f1.length d1, .string y.f0.f2, .string y.f0.f3, .int .i64 y.f0.f4, .int .i64 y.f1, .int .i64 y.f2, .int .i64 y.f3, .int .u64 y.f4, .slice B9 y.f5.length d9] 36 (0, 0))) ∧ Aside0 (Below w.heap.size w wx))
  case first =>
    have p0 := (blk_cell X6.out 0).trans (show _ = some (.int .u8 x.f0.f0) from rfl)
    have p1 := (blk_cell X6.out 1).trans (show _ = some (.slice A1 x.f0.f1.length c1) from rfl)
    have p2 := (blk_cell X6.out 2).trans (show _ = some (.string x.f0.f2) from rfl)
    have p3 := (blk_cell X6.out 3).trans (show _ = some (.string x.f0.f3) from rfl)
    have p4 := (blk_cell X6.out 4).trans (show _ = some (.int .i64 x.f0.f4) from rfl)
    have p5 := (blk_cell X6.out 5).trans (show _ = some (.int .i64 x.f1) from rfl)
    have p6 := (blk_cell X6.out 6).trans (show _ = some (.int .i64 x.f2) from rfl)
    have p7 := (blk_cell X6.out 7).trans (show _ = some (.int .i64 x.f3) from rfl)
    have p8 := (blk_cell X6.out 8).trans (show _ = some (.int .u64 x.f4) from rfl)
    have p9 := (blk_cell X6.out 9).trans (show _ = some (.slice A9 x.f5.length c9) from rfl)
    have pf := fun j => blk_frozen X6.out j
    cases q1 <;> cases q2 <;> simp only [bne_self_eq_false, Bool.true_bne, Bool.false_bne, Bool.not_true, Bool.not_false] at hq3 <;> subst hq3
    all_goals (go_wp2_with (first | (go_at_call 34; refine (writes34 A1 c1 A9 c9 x _ (HDI.out.below HB.out)).mono ?_; rw [HQ1.out]; rintro e w5 ⟨rfl, hb⟩; have n_HB := Aside0.mk (below_step HB.out hb); have n_X6 := Aside0.mk (blk_below X6.out hb); have n_X7 := Aside0.mk (blk_below X7.out hb); clear HB X6 X7; have HB := n_HB; have X6 := n_X6; have X7 := n_X7; clear n_HB n_X6 n_X7; clear hb)))
    all_goals (go_meet)
    all_goals (case rel => exact ⟨by rw [HK.out]; rfl, X6, X7, HB⟩)
  case rest =>
    clear X6 X7 HB hq3
    obtain ⟨rfl, X6, X7, HB⟩ := hcut
    rename World => w10
    obtain ⟨kd, hkd⟩ : ∃ kd, kindOf x y = kd := ⟨_, rfl⟩
    rw [hkd]
    have HR2 : Aside0 (orP [cmpI x.f4 y.f4, kd, cmpI x.f1 y.f1] = r) := ⟨by rw [← HR.out, ← hkd]; rfl⟩
    clear hkd
    obtain ⟨k1, hk1⟩ : ∃ k, cmpI x.f4 y.f4 = k := ⟨_, rfl⟩
    obtain ⟨k2, hk2⟩ : ∃ k, cmpI x.f1 y.f1 = k := ⟨_, rfl⟩
    rw [hk1, hk2] at HR2
    have HK1 := Aside0.mk hk1
    have HK2 := Aside0.mk hk2
    clear hk1 hk2
    go_upto_region 7 with (fail)
    refine start_ (n := 14) (S := fun w' => Below w10.heap.size w10 w') (ds := []) #[false, false, false, false, false, false, false, false, false, false, false, false, false, false] (by kernel_rfl) rfl rfl (below_drew (Below.refl _ _)) (fun hHeld => ?_)
    refine with_tabW r33_7.tab r33_7.bits (fun HT_ HW_ => ?_)
    generalize w10.drew = wd at hHeld ⊢
    refine pure_ (i := 0) (N := some 24) (v := ?_) (a' := ?_) #[true, false, false, false, false, false, false, false, false, false, false, false, false, false] rfl rfl (any_of HT_.out (by kernel_rfl)) (fun _ _ _ h => h) (Or.inl ⟨by rfl, ?_⟩) ?_ ?_
    rotate_left
    · intro w'
      go_simp
      with_reducible rfl
    rotate_left
    · simp only [Act.put, List.setIfInBounds_toArray, List.set_cons_zero, List.set_cons_succ, i64_w, i32_w]
      rfl
    refine take_ (i := 1) (N := some 25) (v := ?_) (a' := ?_) #[true, true, false, false, false, false, false, false, false, false, false, false, false, false] rfl rfl (take_ofW HT_.out HW_.out (by kernel_rfl)) (fun _ _ _ h => h) (Or.inl ⟨by rfl, ?_⟩) hHeld ?_ ?_
    rotate_left
    · rintro w' hbq
      have c_0 := (blk_cell (blk_below X6.out hbq) 0).trans (show _ = some (.int .u8 x.f0.f0) from rfl)
      have c_1 := (blk_cell (blk_below X6.out hbq) 1).trans (show _ = some (.slice A1 x.f0.f1.length c1) from rfl)
      have c_2 := (blk_cell (blk_below X6.out hbq) 2).trans (show _ = some (.string x.f0.f2) from rfl)
      have c_3 := (blk_cell (blk_below X6.out hbq) 3).trans (show _ = some (.string x.f0.f3) from rfl)
      have c_4 := (blk_cell (blk_below X6.out hbq) 4).trans (show _ = some (.int .i64 x.f0.f4) from rfl)
      have c_5 := (blk_cell (blk_below X6.out hbq) 5).trans (show _ = some (.int .i64 x.f1) from rfl)
      have c_6 := (blk_cell (blk_below X6.out hbq) 6).trans (show _ = some (.int .i64 x.f2) from rfl)
      have c_7 := (blk_cell (blk_below X6.out hbq) 7).trans (show _ = some (.int .i64 x.f3) from rfl)
      have c_8 := (blk_cell (blk_below X6.out hbq) 8).trans (show _ = some (.int .u64 x.f4) from rfl)
      have c_9 := (blk_cell (blk_below X6.out hbq) 9).trans (show _ = some (.slice A9 x.f5.length c9) from rfl)
      go_simp
      with_reducible rfl
    rotate_left
    · simp only [Act.put, List.setIfInBounds_toArray, List.set_cons_zero, List.set_cons_succ, i64_w, i32_w]
      rfl
    refine pure_ (i := 2) (N := some 26) (v := ?_) (a' := ?_) #[true, true, true, false, false, false, false, false, false, false, false, false, false, false] rfl rfl (any_of HT_.out (by kernel_rfl)) (fun _ _ _ h => h) (Or.inl ⟨by rfl, ?_⟩) ?_ ?_
    rotate_left
    · intro w'
      go_simp
      with_reducible rfl
    rotate_left
    · simp only [Act.put, List.setIfInBounds_toArray, List.set_cons_zero, List.set_cons_succ, i64_w, i32_w]
      rfl
    refine take_ (i := 3) (N := some 27) (v := ?_) (a' := ?_) #[true, true, true, true, false, false, false, false, false, false, false, false, false, false] rfl rfl (take_ofW HT_.out HW_.out (by kernel_rfl)) (fun _ _ _ h => h) (Or.inl ⟨by rfl, ?_⟩) hHeld ?_ ?_
    rotate_left
    · rintro w' hbq
      have c_0 := (blk_cell (blk_below X7.out hbq) 0).trans (show _ = some (.int .u8 y.f0.f0) from rfl)
      have c_1 := (blk_cell (blk_below X7.out hbq) 1).trans (show _ = some (.slice B1 y.f0.f1.length d1) from rfl)
      have c_2 := (blk_cell (blk_below X7.out hbq) 2).trans (show _ = some (.string y.f0.f2) from rfl)
      have c_3 := (blk_cell (blk_below X7.out hbq) 3).trans (show _ = some (.string y.f0.f3) from rfl)
      have c_4 := (blk_cell (blk_below X7.out hbq) 4).trans (show _ = some (.int .i64 y.f0.f4) from rfl)
      have c_5 := (blk_cell (blk_below X7.out hbq) 5).trans (show _ = some (.int .i64 y.f1) from rfl)
      have c_6 := (blk_cell (blk_below X7.out hbq) 6).trans (show _ = some (.int .i64 y.f2) from rfl)
      have c_7 := (blk_cell (blk_below X7.out hbq) 7).trans (show _ = some (.int .i64 y.f3) from rfl)
      have c_8 := (blk_cell (blk_below X7.out hbq) 8).trans (show _ = some (.int .u64 y.f4) from rfl)
      have c_9 := (blk_cell (blk_below X7.out hbq) 9).trans (show _ = some (.slice B9 y.f5.length d9) from rfl)
      go_simp
      with_reducible rfl
    rotate_left
    · simp only [Act.put, List.setIfInBounds_toArray, List.set_cons_zero, List.set_cons_succ, i64_w, i32_w]
      rfl
    refine pure_ (i := 5) (N := some 29) (v := ?_) (a' := ?_) #[true, true, true, true, false, true, false, false, false, false, false, false, false, false] rfl rfl (any_of HT_.out (by kernel_rfl)) (fun _ _ _ h => h) (Or.inl ⟨by rfl, ?_⟩) ?_ ?_
    rotate_left
    · intro w'
      go_simp
      with_reducible rfl
    rotate_left
    · simp only [Act.put, List.setIfInBounds_toArray, List.set_cons_zero, List.set_cons_succ, i64_w, i32_w]
      rfl
    refine pure_ (i := 6) (N := some 30) (v := ?_) (a' := ?_) #[true, true, true, true, false, true, true, false, false, false, false, false, false, false] rfl rfl (any_of HT_.out (by kernel_rfl)) (fun _ _ _ h => h) (Or.inl ⟨by rfl, ?_⟩) ?_ ?_
    rotate_left
    · intro w'
      go_simp
      with_reducible rfl
    rotate_left
    · simp only [Act.put, List.setIfInBounds_toArray, List.set_cons_zero, List.set_cons_succ, i64_w, i32_w]
      rfl
    refine take_ (i := 7) (N := some 31) (v := ?_) (a' := ?_) #[true, true, true, true, false, true, true, true, false, false, false, false, false, false] rfl rfl (take_ofW HT_.out HW_.out (by kernel_rfl)) (fun _ _ _ h => h) (Or.inl ⟨by rfl, ?_⟩) hHeld ?_ ?_
    rotate_left
    · rintro w' hbq
      have c_0 := (blk_cell (blk_below X6.out hbq) 0).trans (show _ = some (.int .u8 x.f0.f0) from rfl)
      have c_1 := (blk_cell (blk_below X6.out hbq) 1).trans (show _ = some (.slice A1 x.f0.f1.length c1) from rfl)
      have c_2 := (blk_cell (blk_below X6.out hbq) 2).trans (show _ = some (.string x.f0.f2) from rfl)
      have c_3 := (blk_cell (blk_below X6.out hbq) 3).trans (show _ = some (.string x.f0.f3) from rfl)
      have c_4 := (blk_cell (blk_below X6.out hbq) 4).trans (show _ = some (.int .i64 x.f0.f4) from rfl)
      have c_5 := (blk_cell (blk_below X6.out hbq) 5).trans (show _ = some (.int .i64 x.f1) from rfl)
      have c_6 := (blk_cell (blk_below X6.out hbq) 6).trans (show _ = some (.int .i64 x.f2) from rfl)
      have c_7 := (blk_cell (blk_below X6.out hbq) 7).trans (show _ = some (.int .i64 x.f3) from rfl)
      have c_8 := (blk_cell (blk_below X6.out hbq) 8).trans (show _ = some (.int .u64 x.f4) from rfl)
      have c_9 := (blk_cell (blk_below X6.out hbq) 9).trans (show _ = some (.slice A9 x.f5.length c9) from rfl)
      go_simp
      with_reducible rfl
    rotate_left
    · simp only [Act.put, List.setIfInBounds_toArray, List.set_cons_zero, List.set_cons_succ, i64_w, i32_w]
      rfl
    refine pure_ (i := 8) (N := some 32) (v := ?_) (a' := ?_) #[true, true, true, true, false, true, true, true, true, false, false, false, false, false] rfl rfl (any_of HT_.out (by kernel_rfl)) (fun _ _ _ h => h) (Or.inl ⟨by rfl, ?_⟩) ?_ ?_
    rotate_left
    · intro w'
      go_simp
      with_reducible rfl
    rotate_left
    · simp only [Act.put, List.setIfInBounds_toArray, List.set_cons_zero, List.set_cons_succ, i64_w, i32_w]
      rfl
    refine take_ (i := 9) (N := some 33) (v := ?_) (a' := ?_) #[true, true, true, true, false, true, true, true, true, true, false, false, false, false] rfl rfl (take_ofW HT_.out HW_.out (by kernel_rfl)) (fun _ _ _ h => h) (Or.inl ⟨by rfl, ?_⟩) hHeld ?_ ?_
    rotate_left
    · rintro w' hbq
      have c_0 := (blk_cell (blk_below X7.out hbq) 0).trans (show _ = some (.int .u8 y.f0.f0) from rfl)
      have c_1 := (blk_cell (blk_below X7.out hbq) 1).trans (show _ = some (.slice B1 y.f0.f1.length d1) from rfl)
      have c_2 := (blk_cell (blk_below X7.out hbq) 2).trans (show _ = some (.string y.f0.f2) from rfl)
      have c_3 := (blk_cell (blk_below X7.out hbq) 3).trans (show _ = some (.string y.f0.f3) from rfl)
      have c_4 := (blk_cell (blk_below X7.out hbq) 4).trans (show _ = some (.int .i64 y.f0.f4) from rfl)
      have c_5 := (blk_cell (blk_below X7.out hbq) 5).trans (show _ = some (.int .i64 y.f1) from rfl)
      have c_6 := (blk_cell (blk_below X7.out hbq) 6).trans (show _ = some (.int .i64 y.f2) from rfl)
      have c_7 := (blk_cell (blk_below X7.out hbq) 7).trans (show _ = some (.int .i64 y.f3) from rfl)
      have c_8 := (blk_cell (blk_below X7.out hbq) 8).trans (show _ = some (.int .u64 y.f4) from rfl)
      have c_9 := (blk_cell (blk_below X7.out hbq) 9).trans (show _ = some (.slice B9 y.f5.length d9) from rfl)
      go_simp
      with_reducible rfl
    rotate_left
    · simp only [Act.put, List.setIfInBounds_toArray, List.set_cons_zero, List.set_cons_succ, i64_w, i32_w]
      rfl
    refine one_ (i := 4) (N := some 28) #[true, true, true, true, true, true, true, true, true, true, false, false, false, false] rfl rfl (one_of HT_.out (by kernel_rfl)) (by decide) (fun K hK => ?_)
    refine goes_ Try.func36 (by kernel_rfl) rfl #[.int .u64 x.f4, .int .u64 y.f4] (by rfl) rfl rfl (by first | done | rfl | (simp only [List.map_toArray, List.map_cons, List.map_nil]; rfl)) ?_
    refine (compare36 x.f4 y.f4 _).mono ?_
    rw [HK1.out]
    rintro e0 wq ⟨rfl, hb⟩
    refine ⟨_, rfl, ?_⟩
    have hx := below_step hHeld hb
    refine hK.out _ _ hx (fun hNew => ?_)
    clear hK K hx hb hHeld
    have hHeld := hNew
    clear hNew
    refine norm_ (a' := ?_) ?_ ?_
    rotate_left
    · show Act.put _ (some 28) _ = _
      simp only [Act.put, List.setIfInBounds_toArray, List.set_cons_zero, List.set_cons_succ, i64_w, i32_w]
      rfl
    refine one_ (i := 10) (N := some 34) #[true, true, true, true, true, true, true, true, true, true, true, false, false, false] rfl rfl (one_of HT_.out (by kernel_rfl)) (by decide) (fun K hK => ?_)
    refine goes_ Try.func37 (by kernel_rfl) rfl #[.int .i64 x.f1, .int .i64 y.f1] (by rfl) rfl rfl (by first | done | rfl | (simp only [List.map_toArray, List.map_cons, List.map_nil]; rfl)) ?_
    refine (compare37 x.f1 y.f1 _).mono ?_
    rw [HK2.out]
    rintro e0 wq ⟨rfl, hb⟩
    refine ⟨_, rfl, ?_⟩
    have hx := below_step hHeld hb
    refine hK.out _ _ hx (fun hNew => ?_)
    clear hK K hx hb hHeld
    have hHeld := hNew
    clear hNew
    refine norm_ (a' := ?_) ?_ ?_
    rotate_left
    · show Act.put _ (some 34) _ = _
      simp only [Act.put, List.setIfInBounds_toArray, List.set_cons_zero, List.set_cons_succ, i64_w, i32_w]
      rfl
    refine one_ (i := 11) (N := some 35) #[true, true, true, true, true, true, true, true, true, true, true, true, false, false] rfl rfl (one_of HT_.out (by kernel_rfl)) (by decide) (fun K hK => ?_)
    refine lit_step (cs := #[.int .i64 k1, .int .i64 kd, .int .i64 k2]) (t := 3) (k := 3) (by rfl) (by first | (go_simp; done) | (go_simp; rfl)) ?_
    intro vb hg w11 hbox hb
    have hx := below_step hHeld hb
    have BV := Aside0.mk (lit_C (k := .i64) [k1, kd, k2] hbox rfl (by simp))
    clear hg hbox hb hHeld
    refine hK.out _ _ hx (fun hHeld => ?_)
    clear hK K hx
    refine norm_ (a' := ?_) ?_ ?_
    rotate_left
    · show Act.put _ (some 35) _ = _
      simp only [Act.put, List.setIfInBounds_toArray, List.set_cons_zero, List.set_cons_succ, i64_w, i32_w]
      rfl
    refine one_ (i := 12) (N := some 36) #[true, true, true, true, true, true, true, true, true, true, true, true, true, false] rfl rfl (one_of HT_.out (by kernel_rfl)) (by decide) (fun K hK => ?_)
    refine goes_ Try.func35 (by kernel_rfl) rfl #[.slice (some ⟨vb, 0, none⟩) 3 3] (by rfl) rfl rfl (by first | done | rfl | (simp only [List.map_toArray, List.map_cons, List.map_nil]; rfl)) ?_
    have h35 := or35 (some ⟨vb, 0, none⟩) 3 [k1, kd, k2] w11 BV.out
    rw [HR2.out] at h35
    refine h35.mono ?_
    rintro e0 wq ⟨rfl, hb⟩
    refine ⟨_, rfl, ?_⟩
    have hx := below_step hHeld hb
    refine hK.out _ _ hx (fun hNew => ?_)
    clear hK K hx hb hHeld h35
    have hHeld := hNew
    clear hNew
    refine norm_ (a' := ?_) ?_ ?_
    rotate_left
    · show Act.put _ (some 36) _ = _
      simp only [Act.put, List.setIfInBounds_toArray, List.set_cons_zero, List.set_cons_succ, i64_w, i32_w]
      rfl
    refine pure_ (i := 13) (N := some 5) (v := ?_) (a' := ?_) #[true, true, true, true, true, true, true, true, true, true, true, true, true, true] rfl rfl (any_of HT_.out (by kernel_rfl)) (fun _ _ _ h => h) (Or.inl ⟨by rfl, ?_⟩) ?_ ?_
    rotate_left
    · intro w'
      go_simp
      with_reducible rfl
    rotate_left
    · simp only [Act.put, List.setIfInBounds_toArray, List.set_cons_zero, List.set_cons_succ, i64_w, i32_w]
      rfl
    refine done_ (done_of HT_.out (by kernel_rfl)) ?_
    go_wp2
    go_ret
    exact ⟨rfl, below_step HB.out hHeld⟩

end Go.Proofs.Ytjieagpfnnbiiaa.XLin
