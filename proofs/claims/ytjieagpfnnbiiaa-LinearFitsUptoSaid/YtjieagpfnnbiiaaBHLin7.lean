/- linear.waits. -/
import Derived.Test.YtjieagpfnnbiiaaBHLin6
namespace Go.Proofs.Ytjieagpfnnbiiaa.XLin
open Go Go.RowKit Go.Proofs.YtjieagpfnnbiiaaW.PrintWords Go.Proofs.YtjieagpfnnbiiaaW.PrintLast Go.Proofs.YtjieagpfnnbiiaaW.PrintMore
open Go.Proofs.Ytjieagpfnnbiiaa
set_option linter.unusedVariables false
set_option linter.unusedSimpArgs false
def r31_5.T : Bool × List (List Nat × List Nat) := (true, [([], []), ([], []), ([0, 1], [0, 1]), ([2], [2]), ([3], [3]), ([3, 4], [3, 4]), ([5, 3], [5]), ([6], [6]), ([6], [6]), ([7, 8, 6], [6, 7, 8]), ([9, 6], [6, 9]), ([10, 6], [6, 10]), ([6, 11], [6, 11]), ([12, 6], [12]), ([13], [13]), ([13], [13]), ([13], [13]), ([15, 16, 13], [13, 15, 16]), ([17, 13], [13, 17]), ([14, 18, 13, 13], [13, 14, 18]), ([13, 19], [13, 19])])
def r31_5.B : List Nat := [0, 0, 3, 7, 15, 31, 63, 127, 127, 511, 1023, 2047, 4095, 8191, 16383, 16383, 16383, 114687, 245759, 524287, 1048575]
theorem r31_5.tab : rtab .any (opsOf Try.f31 5) = r31_5.T := by kernel_rfl
theorem r31_5.bits : waitsOk r31_5.T.2 r31_5.B = true := by kernel_rfl
/-- Does a call wait for another one? -/
def waitsOne (l : List S36) (done : List Int) (one n : Nat) : Bool := ((decide (n ≠ one) && mustP (l.getD n z36)) && decide (done.getD n 0 = 0)) && aheadP (l.getD n z36) (l.getD one z36)
def waitsP (l : List S36) (done : List Int) (one : Nat) : Bool := (List.range l.length).any (waitsOne l done one)
theorem waits_step (l : List S36) (done : List Int) (one n : Nat) : (List.range (n + 1)).any (waitsOne l done one) = ((List.range n).any (waitsOne l done one) || waitsOne l done one n) := by
  rw [List.range_succ, List.any_append]
  simp
theorem waits_yes {l : List S36} {done : List Int} {one n : Nat} (h : n < l.length) (hw : waitsOne l done one n = true) : waitsP l done one = true := List.any_eq_true.2 ⟨n, List.mem_range.2 h, hw⟩
set_option maxHeartbeats 8000000 in
set_option maxRecDepth 100000 in
theorem waits31 (L : Option Addr) (cl : Nat) (l : List S36) (D : Option Addr) (cd : Nat) (done : List Int) (one : Nat) (w : World) (hl : Kd.C k36 w L l.length l) (hd : Kd.C (Kd.int .u8) w D done.length done) (hdl : done.length = l.length) (hone : one < l.length) :
    Calls Try.prog 31 #[.slice L l.length cl, .slice D done.length cd, .int .i64 (one : Int)] w fun e w' => e = .returned (.bool (waitsP l done one)) ∧ Below w.heap.size w w' := by
  have HL := Aside0.mk hl
  have HD := Aside0.mk hd
  have HDL := Aside0.mk hdl
  have HONE := Aside0.mk hone
  have hll : l.length ≤ 9223372036854775807 := hl.2.1
  clear hl hd hdl hone
  obtain ⟨r, hr⟩ : ∃ r, waitsP l done one = r := ⟨_, rfl⟩
  rw [hr]
  have HR := Aside0.mk hr
  clear hr
  go_enter Try.func31, Try.ntmps31
  go_upto_region 2 with (fail)
  go_loopw [13] (fun v13 wr => ∃ i : Nat, i ≤ l.length ∧ v13 = .int .i64 (i : Int) ∧ Aside0 ((List.range i).any (waitsOne l done one) = false) ∧ Aside0 (Below w.heap.size w wr)) (fun v13 _ => l.length - (intOf v13).toNat)
  case atStart => exact ⟨0, Nat.zero_le _, rfl, ⟨rfl⟩, ⟨Below.refl _ _⟩⟩
  case round =>
    obtain ⟨i, hi, rfl, HAN, HB⟩ := hrel
    rename World => wr
    by_cases hlt : i < l.length
    · obtain ⟨ad, A1, c1, A9, c9, e0, hcl, hdi⟩ := at36 HL.out i hlt
      subst e0
      obtain ⟨x, hx⟩ : ∃ x, l.getD i z36 = x := ⟨_, rfl⟩
      rw [hx] at hcl hdi
      obtain ⟨ad2, B1, d1, B9, d9, e0, hcl2, hdi2⟩ := at36 HL.out one HONE.out
      obtain rfl := Option.some.inj e0
      obtain ⟨y, hy⟩ : ∃ y, l.getD one z36 = y := ⟨_, rfl⟩
      rw [hy] at hcl2 hdi2
      clear e0
      obtain ⟨ao, cs, hao, _, hKv, hcell⟩ := Kd.C_get HD.out 0 (i : Int) (by omega) (by have := HDL.out; omega)
      rw [Int.toNat_natCast] at hKv hcell
      obtain rfl := hKv
      have yd := hcell 0 _ rfl
      have hys : (Kd.int IntKind.u8).sz = 1 := rfl
      rw [hys, Nat.mul_one, Nat.add_zero] at yd
      clear hcell hys
      subst hao
      obtain ⟨dn, hdn⟩ : ∃ dn, done.getD i 0 = dn := ⟨_, rfl⟩
      rw [hdn] at yd
      have HYD := Aside0.mk yd
      clear yd
      obtain ⟨mu, hmu⟩ : ∃ mu, mustP x = mu := ⟨_, rfl⟩
      obtain ⟨my, hmy⟩ : ∃ my, mayP x = my := ⟨_, rfl⟩
      obtain ⟨ah, hah⟩ : ∃ ah, aheadP x y = ah := ⟨_, rfl⟩
      have HWO : Aside0 (waitsOne l done one i = (((decide (i ≠ one) && mu) && decide (dn = 0)) && ah)) := ⟨by unfold waitsOne; rw [hx, hy, hdn, hmu, hah]⟩
      have HCL := Aside0.mk hcl
      have HDI := Aside0.mk hdi
      have HCL2 := Aside0.mk hcl2
      have HDI2 := Aside0.mk hdi2
      have HMUST := Aside0.mk hmu
      have HMAY := Aside0.mk hmy
      have HAH := Aside0.mk hah
      clear hcl hdi hcl2 hdi2 hmu hmy hah hx hy hdn
      obtain ⟨x0, x1, x2, x3, x4, x5, x6, x7, x8, x9⟩ := HCL.out.below HB.out
      go_upto_region 4 with (first | ((with_reducible refine gate_dst (N := 8) rfl ?_); refine box_event ?hg (N := 8) ?hd (cs := #[.int .u8 0, .slice none 0 0, .string ByteArray.empty, .string ByteArray.empty, .int .i64 0, .int .i64 0, .int .i64 0, .int .i64 0, .int .u64 0, .slice none 0 0]) (t := 36) ?hr ?_; (case hd => rfl); (case hg => rfl); (case hr => first | (go_simp; done) | (go_simp; rfl)); intro g8 hg w3 hbox hb; have HGV := Aside0.mk (Nat.le_of_eq hg.symm); have BV := Aside0.mk hbox; have HXV := Aside0.mk hb; have z0 := (blk_cell hbox 0).trans (show _ = some (.int .u8 0) from rfl); have z1 := (blk_cell hbox 1).trans (show _ = some (.slice none 0 0) from rfl); have z2 := (blk_cell hbox 2).trans (show _ = some (.string ByteArray.empty) from rfl); have z3 := (blk_cell hbox 3).trans (show _ = some (.string ByteArray.empty) from rfl); have z4 := (blk_cell hbox 4).trans (show _ = some (.int .i64 0) from rfl); have z5 := (blk_cell hbox 5).trans (show _ = some (.int .i64 0) from rfl); have z6 := (blk_cell hbox 6).trans (show _ = some (.int .i64 0) from rfl); have z7 := (blk_cell hbox 7).trans (show _ = some (.int .i64 0) from rfl); have z8 := (blk_cell hbox 8).trans (show _ = some (.int .u64 0) from rfl); have z9 := (blk_cell hbox 9).trans (show _ = some (.slice none 0 0) from rfl); have zf := fun j => blk_frozen hbox j; clear hg hbox hb))
      clear x0 x1 x2 x3 x4 x5 x6 x7 x8 x9
      clear z0 z1 z2 z3 z4 z5 z6 z7 z8 z9 zf
      rename World => w3
      have s0 := blk_put (cs' := #[.int .u8 x.f0.f0, .slice none 0 0, .string ByteArray.empty, .string ByteArray.empty, .int .i64 0, .int .i64 0, .int .i64 0, .int .i64 0, .int .u64 0, .slice none 0 0]) BV.out 0 (.int .u8 x.f0.f0) rfl
      have s1 := blk_put (cs' := #[.int .u8 x.f0.f0, .slice A1 x.f0.f1.length c1, .string ByteArray.empty, .string ByteArray.empty, .int .i64 0, .int .i64 0, .int .i64 0, .int .i64 0, .int .u64 0, .slice none 0 0]) s0 1 (.slice A1 x.f0.f1.length c1) rfl
      have s2 := blk_put (cs' := #[.int .u8 x.f0.f0, .slice A1 x.f0.f1.length c1, .string x.f0.f2, .string ByteArray.empty, .int .i64 0, .int .i64 0, .int .i64 0, .int .i64 0, .int .u64 0, .slice none 0 0]) s1 2 (.string x.f0.f2) rfl
      have s3 := blk_put (cs' := #[.int .u8 x.f0.f0, .slice A1 x.f0.f1.length c1, .string x.f0.f2, .string x.f0.f3, .int .i64 0, .int .i64 0, .int .i64 0, .int .i64 0, .int .u64 0, .slice none 0 0]) s2 3 (.string x.f0.f3) rfl
      have s4 := blk_put (cs' := #[.int .u8 x.f0.f0, .slice A1 x.f0.f1.length c1, .string x.f0.f2, .string x.f0.f3, .int .i64 x.f0.f4, .int .i64 0, .int .i64 0, .int .i64 0, .int .u64 0, .slice none 0 0]) s3 4 (.int .i64 x.f0.f4) rfl
      have s5 := blk_put (cs' := #[.int .u8 x.f0.f0, .slice A1 x.f0.f1.length c1, .string x.f0.f2, .string x.f0.f3, .int .i64 x.f0.f4, .int .i64 x.f1, .int .i64 0, .int .i64 0, .int .u64 0, .slice none 0 0]) s4 5 (.int .i64 x.f1) rfl
      have s6 := blk_put (cs' := #[.int .u8 x.f0.f0, .slice A1 x.f0.f1.length c1, .string x.f0.f2, .string x.f0.f3, .int .i64 x.f0.f4, .int .i64 x.f1, .int .i64 x.f2, .int .i64 0, .int .u64 0, .slice none 0 0]) s5 6 (.int .i64 x.f2) rfl
      have s7 := blk_put (cs' := #[.int .u8 x.f0.f0, .slice A1 x.f0.f1.length c1, .string x.f0.f2, .string x.f0.f3, .int .i64 x.f0.f4, .int .i64 x.f1, .int .i64 x.f2, .int .i64 x.f3, .int .u64 0, .slice none 0 0]) s6 7 (.int .i64 x.f3) rfl
      have s8 := blk_put (cs' := #[.int .u8 x.f0.f0, .slice A1 x.f0.f1.length c1, .string x.f0.f2, .string x.f0.f3, .int .i64 x.f0.f4, .int .i64 x.f1, .int .i64 x.f2, .int .i64 x.f3, .int .u64 x.f4, .slice none 0 0]) s7 8 (.int .u64 x.f4) rfl
      have s9 := blk_put (cs' := #[.int .u8 x.f0.f0, .slice A1 x.f0.f1.length c1, .string x.f0.f2, .string x.f0.f3, .int .i64 x.f0.f4, .int .i64 x.f1, .int .i64 x.f2, .int .i64 x.f3, .int .u64 x.f4, .slice A9 x.f5.length c9]) s8 9 (.slice A9 x.f5.length c9) rfl
      have hb := ((((((((((HXV.out.setCell (p := ⟨g8, 0, none⟩) HGV.out (.int .u8 x.f0.f0)).setCell (p := ⟨g8, 1, none⟩) HGV.out (.slice A1 x.f0.f1.length c1)).setCell (p := ⟨g8, 2, none⟩) HGV.out (.string x.f0.f2)).setCell (p := ⟨g8, 3, none⟩) HGV.out (.string x.f0.f3)).setCell (p := ⟨g8, 4, none⟩) HGV.out (.int .i64 x.f0.f4)).setCell (p := ⟨g8, 5, none⟩) HGV.out (.int .i64 x.f1)).setCell (p := ⟨g8, 6, none⟩) HGV.out (.int .i64 x.f2)).setCell (p := ⟨g8, 7, none⟩) HGV.out (.int .i64 x.f3)).setCell (p := ⟨g8, 8, none⟩) HGV.out (.int .u64 x.f4)).setCell (p := ⟨g8, 9, none⟩) HGV.out (.slice A9 x.f5.length c9))
      generalize (World.setCell (World.setCell (World.setCell (World.setCell (World.setCell (World.setCell (World.setCell (World.setCell (World.setCell (World.setCell w3 ⟨g8, 0, none⟩ (.int .u8 x.f0.f0)) ⟨g8, 1, none⟩ (.slice A1 x.f0.f1.length c1)) ⟨g8, 2, none⟩ (.string x.f0.f2)) ⟨g8, 3, none⟩ (.string x.f0.f3)) ⟨g8, 4, none⟩ (.int .i64 x.f0.f4)) ⟨g8, 5, none⟩ (.int .i64 x.f1)) ⟨g8, 6, none⟩ (.int .i64 x.f2)) ⟨g8, 7, none⟩ (.int .i64 x.f3)) ⟨g8, 8, none⟩ (.int .u64 x.f4)) ⟨g8, 9, none⟩ (.slice A9 x.f5.length c9)) = wk at s9 hb ⊢
      have n_HB := Aside0.mk (below_step HB.out hb); clear HB; have HB := n_HB; clear n_HB
      clear BV HXV HGV
      have X8 := Aside0.mk s9
      clear s0 s1 s2 s3 s4 s5 s6 s7 s8 s9 hb
      have z0 := (blk_cell X8.out 0).trans (show _ = some (.int .u8 x.f0.f0) from rfl)
      have z1 := (blk_cell X8.out 1).trans (show _ = some (.slice A1 x.f0.f1.length c1) from rfl)
      have z2 := (blk_cell X8.out 2).trans (show _ = some (.string x.f0.f2) from rfl)
      have z3 := (blk_cell X8.out 3).trans (show _ = some (.string x.f0.f3) from rfl)
      have z4 := (blk_cell X8.out 4).trans (show _ = some (.int .i64 x.f0.f4) from rfl)
      have z5 := (blk_cell X8.out 5).trans (show _ = some (.int .i64 x.f1) from rfl)
      have z6 := (blk_cell X8.out 6).trans (show _ = some (.int .i64 x.f2) from rfl)
      have z7 := (blk_cell X8.out 7).trans (show _ = some (.int .i64 x.f3) from rfl)
      have z8 := (blk_cell X8.out 8).trans (show _ = some (.int .u64 x.f4) from rfl)
      have z9 := (blk_cell X8.out 9).trans (show _ = some (.slice A9 x.f5.length c9) from rfl)
      go_upto_region 5 with (first | (go_at_call 26; refine (counts26 A1 c1 A9 c9 x _ (HDI.out.below HB.out)).mono ?_; rw [HMAY.out, HMUST.out]; rintro e w5 ⟨rfl, hb⟩; have n_HB := Aside0.mk (below_step HB.out hb); have n_X8 := Aside0.mk (blk_below X8.out hb); clear HB X8; have HB := n_HB; have X8 := n_X8; clear n_HB n_X8; clear hb))
      clear z0 z1 z2 z3 z4 z5 z6 z7 z8 z9
      have hlt' : (i : Int) < (l.length : Int) := by omega
      have hone' : (one : Int) < (l.length : Int) := by have := HONE.out; omega
      have hdl' : (i : Int) < (done.length : Int) := by have := HDL.out; omega
      by_cases hio : i = one
      · have hne : ((i : Int) != (one : Int)) = false := by subst hio; simp
        go_quiet (fail)
        go_wp2
        go_roundw
        case rel => exact ⟨i + 1, by omega, by go_num, ⟨by rw [waits_step, HAN.out, HWO.out]; rw [decide_eq_false (fun h => h hio)]; rfl⟩, ⟨pw_below_drewN HB.out _⟩⟩
        case measure => simp [intOf]; omega
      have hne : ((i : Int) != (one : Int)) = true := by simp; omega
      cases mu with
      | false =>
        go_quiet (fail)
        go_wp2
        go_roundw
        case rel => exact ⟨i + 1, by omega, by go_num, ⟨by rw [waits_step, HAN.out, HWO.out]; rw [Bool.and_false]; rfl⟩, ⟨pw_below_drewN HB.out _⟩⟩
        case measure => simp [intOf]; omega
      | true =>
        by_cases hd0 : dn = 0
        · subst hd0
          rename World => w5
          refine start_ (n := 21) (S := fun w' => Below w5.heap.size w5 w') (ds := []) #[false, false, false, false, false, false, false, false, false, false, false, false, false, false, false, false, false, false, false, false, false] (by kernel_rfl) rfl rfl (below_drew (Below.refl _ _)) (fun hHeld => ?_)
          refine with_tabW r31_5.tab r31_5.bits (fun HT_ HW_ => ?_)
          generalize w5.drew = wd at hHeld ⊢
          refine pure_ (i := 0) (N := some 23) (v := ?_) (a' := ?_) #[true, false, false, false, false, false, false, false, false, false, false, false, false, false, false, false, false, false, false, false, false] rfl rfl (any_of HT_.out (by kernel_rfl)) (fun _ _ _ h => h) (Or.inl ⟨by rfl, ?_⟩) ?_ ?_
          rotate_left
          · intro w'
            go_simp
            with_reducible rfl
          rotate_left
          · simp only [Act.put, List.setIfInBounds_toArray, List.set_cons_zero, List.set_cons_succ, i64_w, i32_w]
            rfl
          refine pure_ (i := 1) (N := some 24) (v := ?_) (a' := ?_) #[true, true, false, false, false, false, false, false, false, false, false, false, false, false, false, false, false, false, false, false, false] rfl rfl (any_of HT_.out (by kernel_rfl)) (fun _ _ _ h => h) (Or.inl ⟨by rfl, ?_⟩) ?_ ?_
          rotate_left
          · intro w'
            go_simp
            with_reducible rfl
          rotate_left
          · simp only [Act.put, List.setIfInBounds_toArray, List.set_cons_zero, List.set_cons_succ, i64_w, i32_w]
            rfl
          refine pure_ (i := 2) (N := some 25) (v := ?_) (a' := ?_) #[true, true, true, false, false, false, false, false, false, false, false, false, false, false, false, false, false, false, false, false, false] rfl rfl (any_of HT_.out (by kernel_rfl)) (fun _ _ _ h => h) (Or.inl ⟨by rfl, ?_⟩) ?_ ?_
          rotate_left
          · intro w'
            go_simp
            with_reducible rfl
          rotate_left
          · simp only [Act.put, List.setIfInBounds_toArray, List.set_cons_zero, List.set_cons_succ, i64_w, i32_w]
            rfl
          refine pure_ (i := 3) (N := some 26) (v := ?_) (a' := ?_) #[true, true, true, true, false, false, false, false, false, false, false, false, false, false, false, false, false, false, false, false, false] rfl rfl (any_of HT_.out (by kernel_rfl)) (fun _ _ _ h => h) (Or.inl ⟨by rfl, ?_⟩) ?_ ?_
          rotate_left
          · intro w'
            go_simp
            with_reducible rfl
          rotate_left
          · simp only [Act.put, List.setIfInBounds_toArray, List.set_cons_zero, List.set_cons_succ, i64_w, i32_w]
            rfl
          refine pure_ (i := 4) (N := some 27) (v := ?_) (a' := ?_) #[true, true, true, true, true, false, false, false, false, false, false, false, false, false, false, false, false, false, false, false, false] rfl rfl (any_of HT_.out (by kernel_rfl)) (fun _ _ _ h => h) (Or.inl ⟨by rfl, ?_⟩) ?_ ?_
          rotate_left
          · intro w'
            go_simp
            with_reducible rfl
          rotate_left
          · simp only [Act.put, List.setIfInBounds_toArray, List.set_cons_zero, List.set_cons_succ, i64_w, i32_w]
            rfl
          refine pure_ (i := 5) (N := some 28) (v := ?_) (a' := ?_) #[true, true, true, true, true, true, false, false, false, false, false, false, false, false, false, false, false, false, false, false, false] rfl rfl (any_of HT_.out (by kernel_rfl)) (fun _ _ _ h => h) (Or.inl ⟨by rfl, ?_⟩) ?_ ?_
          rotate_left
          · intro w'
            go_simp
            with_reducible rfl
          rotate_left
          · simp only [Act.put, List.setIfInBounds_toArray, List.set_cons_zero, List.set_cons_succ, i64_w, i32_w]
            rfl
          refine pure_ (i := 6) (N := some 29) (v := ?_) (a' := ?_) #[true, true, true, true, true, true, true, false, false, false, false, false, false, false, false, false, false, false, false, false, false] rfl rfl (any_of HT_.out (by kernel_rfl)) (fun _ _ _ h => h) (Or.inl ⟨by rfl, ?_⟩) ?_ ?_
          rotate_left
          · intro w'
            go_simp
            with_reducible rfl
          rotate_left
          · simp only [Act.put, List.setIfInBounds_toArray, List.set_cons_zero, List.set_cons_succ, i64_w, i32_w]
            rfl
          refine pure_ (i := 7) (N := some 30) (v := ?_) (a' := ?_) #[true, true, true, true, true, true, true, true, false, false, false, false, false, false, false, false, false, false, false, false, false] rfl rfl (any_of HT_.out (by kernel_rfl)) (fun _ _ _ h => h) (Or.inl ⟨by rfl, ?_⟩) ?_ ?_
          rotate_left
          · intro w'
            go_simp
            with_reducible rfl
          rotate_left
          · simp only [Act.put, List.setIfInBounds_toArray, List.set_cons_zero, List.set_cons_succ, i64_w, i32_w]
            rfl
          refine pure_ (i := 8) (N := some 31) (v := ?_) (a' := ?_) #[true, true, true, true, true, true, true, true, true, false, false, false, false, false, false, false, false, false, false, false, false] rfl rfl (any_of HT_.out (by kernel_rfl)) (fun _ _ _ h => h) (Or.inl ⟨by rfl, ?_⟩) ?_ ?_
          rotate_left
          · intro w'
            go_simp
            with_reducible rfl
          rotate_left
          · simp only [Act.put, List.setIfInBounds_toArray, List.set_cons_zero, List.set_cons_succ, i64_w, i32_w]
            rfl
          refine pure_ (i := 9) (N := some 32) (v := ?_) (a' := ?_) #[true, true, true, true, true, true, true, true, true, true, false, false, false, false, false, false, false, false, false, false, false] rfl rfl (any_of HT_.out (by kernel_rfl)) (fun _ _ _ h => h) (Or.inl ⟨by rfl, ?_⟩) ?_ ?_
          rotate_left
          · intro w'
            go_simp
            with_reducible rfl
          rotate_left
          · simp only [Act.put, List.setIfInBounds_toArray, List.set_cons_zero, List.set_cons_succ, i64_w, i32_w]
            rfl
          refine take_ (i := 10) (N := some 33) (v := ?_) (a' := ?_) #[true, true, true, true, true, true, true, true, true, true, true, false, false, false, false, false, false, false, false, false, false] rfl rfl (take_ofW HT_.out HW_.out (by kernel_rfl)) (fun _ _ _ h => h) (Or.inl ⟨by rfl, ?_⟩) hHeld ?_ ?_
          rotate_left
          · rintro w' hbq
            have c_d := ((below_step HB.out hbq).cell (World.block_lt_of_cell? w _ HYD.out)).trans HYD.out
            go_simp
            with_reducible rfl
          rotate_left
          · simp only [Act.put, List.setIfInBounds_toArray, List.set_cons_zero, List.set_cons_succ, i64_w, i32_w]
            rfl
          refine pure_ (i := 11) (N := some 34) (v := ?_) (a' := ?_) #[true, true, true, true, true, true, true, true, true, true, true, true, false, false, false, false, false, false, false, false, false] rfl rfl (any_of HT_.out (by kernel_rfl)) (fun _ _ _ h => h) (Or.inl ⟨by rfl, ?_⟩) ?_ ?_
          rotate_left
          · intro w'
            go_simp
            with_reducible rfl
          rotate_left
          · simp only [Act.put, List.setIfInBounds_toArray, List.set_cons_zero, List.set_cons_succ, i64_w, i32_w]
            rfl
          refine pure_ (i := 12) (N := some 35) (v := ?_) (a' := ?_) #[true, true, true, true, true, true, true, true, true, true, true, true, true, false, false, false, false, false, false, false, false] rfl rfl (any_of HT_.out (by kernel_rfl)) (fun _ _ _ h => h) (Or.inl ⟨by rfl, ?_⟩) ?_ ?_
          rotate_left
          · intro w'
            go_simp
            with_reducible rfl
          rotate_left
          · simp only [Act.put, List.setIfInBounds_toArray, List.set_cons_zero, List.set_cons_succ, i64_w, i32_w]
            rfl
          refine pure_ (i := 13) (N := some 36) (v := ?_) (a' := ?_) #[true, true, true, true, true, true, true, true, true, true, true, true, true, true, false, false, false, false, false, false, false] rfl rfl (any_of HT_.out (by kernel_rfl)) (fun _ _ _ h => h) (Or.inl ⟨by rfl, ?_⟩) ?_ ?_
          rotate_left
          · intro w'
            go_simp
            with_reducible rfl
          rotate_left
          · simp only [Act.put, List.setIfInBounds_toArray, List.set_cons_zero, List.set_cons_succ, i64_w, i32_w]
            rfl
          refine take_ (i := 14) (N := some 37) (v := ?_) (a' := ?_) #[true, true, true, true, true, true, true, true, true, true, true, true, true, true, true, false, false, false, false, false, false] rfl rfl (take_ofW HT_.out HW_.out (by kernel_rfl)) (fun _ _ _ h => h) (Or.inl ⟨by rfl, ?_⟩) hHeld ?_ ?_
          rotate_left
          · rintro w' hbq
            have c_0 := (blk_cell (blk_below X8.out hbq) 0).trans (show _ = some (.int .u8 x.f0.f0) from rfl)
            have c_1 := (blk_cell (blk_below X8.out hbq) 1).trans (show _ = some (.slice A1 x.f0.f1.length c1) from rfl)
            have c_2 := (blk_cell (blk_below X8.out hbq) 2).trans (show _ = some (.string x.f0.f2) from rfl)
            have c_3 := (blk_cell (blk_below X8.out hbq) 3).trans (show _ = some (.string x.f0.f3) from rfl)
            have c_4 := (blk_cell (blk_below X8.out hbq) 4).trans (show _ = some (.int .i64 x.f0.f4) from rfl)
            have c_5 := (blk_cell (blk_below X8.out hbq) 5).trans (show _ = some (.int .i64 x.f1) from rfl)
            have c_6 := (blk_cell (blk_below X8.out hbq) 6).trans (show _ = some (.int .i64 x.f2) from rfl)
            have c_7 := (blk_cell (blk_below X8.out hbq) 7).trans (show _ = some (.int .i64 x.f3) from rfl)
            have c_8 := (blk_cell (blk_below X8.out hbq) 8).trans (show _ = some (.int .u64 x.f4) from rfl)
            have c_9 := (blk_cell (blk_below X8.out hbq) 9).trans (show _ = some (.slice A9 x.f5.length c9) from rfl)
            go_simp
            with_reducible rfl
          rotate_left
          · simp only [Act.put, List.setIfInBounds_toArray, List.set_cons_zero, List.set_cons_succ, i64_w, i32_w]
            rfl
          refine pure_ (i := 15) (N := some 38) (v := ?_) (a' := ?_) #[true, true, true, true, true, true, true, true, true, true, true, true, true, true, true, true, false, false, false, false, false] rfl rfl (any_of HT_.out (by kernel_rfl)) (fun _ _ _ h => h) (Or.inl ⟨by rfl, ?_⟩) ?_ ?_
          rotate_left
          · intro w'
            go_simp
            with_reducible rfl
          rotate_left
          · simp only [Act.put, List.setIfInBounds_toArray, List.set_cons_zero, List.set_cons_succ, i64_w, i32_w]
            rfl
          refine pure_ (i := 16) (N := some 39) (v := ?_) (a' := ?_) #[true, true, true, true, true, true, true, true, true, true, true, true, true, true, true, true, true, false, false, false, false] rfl rfl (any_of HT_.out (by kernel_rfl)) (fun _ _ _ h => h) (Or.inl ⟨by rfl, ?_⟩) ?_ ?_
          rotate_left
          · intro w'
            go_simp
            with_reducible rfl
          rotate_left
          · simp only [Act.put, List.setIfInBounds_toArray, List.set_cons_zero, List.set_cons_succ, i64_w, i32_w]
            rfl
          refine pure_ (i := 17) (N := some 40) (v := ?_) (a' := ?_) #[true, true, true, true, true, true, true, true, true, true, true, true, true, true, true, true, true, true, false, false, false] rfl rfl (any_of HT_.out (by kernel_rfl)) (fun _ _ _ h => h) (Or.inl ⟨by rfl, ?_⟩) ?_ ?_
          rotate_left
          · intro w'
            go_simp
            with_reducible rfl
          rotate_left
          · simp only [Act.put, List.setIfInBounds_toArray, List.set_cons_zero, List.set_cons_succ, i64_w, i32_w]
            rfl
          refine take_ (i := 18) (N := some 41) (v := ?_) (a' := ?_) #[true, true, true, true, true, true, true, true, true, true, true, true, true, true, true, true, true, true, true, false, false] rfl rfl (take_ofW HT_.out HW_.out (by kernel_rfl)) (fun _ _ _ h => h) (Or.inl ⟨by rfl, ?_⟩) hHeld ?_ ?_
          rotate_left
          · rintro w' hbq
            have hq9 := HCL2.out.below (below_step HB.out hbq)
            have y0 := hq9.x0
            have y1 := hq9.x1
            have y2 := hq9.x2
            have y3 := hq9.x3
            have y4 := hq9.x4
            have y5 := hq9.x5
            have y6 := hq9.x6
            have y7 := hq9.x7
            have y8 := hq9.x8
            have y9 := hq9.x9
            go_simp
            with_reducible rfl
          rotate_left
          · simp only [Act.put, List.setIfInBounds_toArray, List.set_cons_zero, List.set_cons_succ, i64_w, i32_w]
            rfl
          refine one_ (i := 19) (N := some 42) #[true, true, true, true, true, true, true, true, true, true, true, true, true, true, true, true, true, true, true, true, false] rfl rfl (one_of HT_.out (by kernel_rfl)) (by decide) (fun K hK => ?_)
          refine goes_ Try.func27 (by kernel_rfl) rfl #[doneV A1 c1 A9 c9 x, doneV B1 d1 B9 d9 y] (by rfl) rfl rfl (by first | done | rfl | (simp only [List.map_toArray, List.map_cons, List.map_nil]; rfl)) ?_
          refine (ahead27 A1 c1 A9 c9 x B1 d1 B9 d9 y wd (HDI.out.below (below_step HB.out hHeld)) (HDI2.out.below (below_step HB.out hHeld))).mono ?_
          rw [HAH.out]
          rintro e0 w6 ⟨rfl, hb⟩
          refine ⟨_, rfl, ?_⟩
          have hx := below_step hHeld hb
          refine hK.out _ _ hx (fun hHeld => ?_)
          have HH6 := Aside0.mk hx
          clear hK K hx hb hHeld
          refine norm_ (a' := ?_) ?_ ?_
          rotate_left
          · show Act.put _ (some 42) _ = _
            simp only [Act.put, List.setIfInBounds_toArray, List.set_cons_zero, List.set_cons_succ, i64_w, i32_w]
            rfl
          refine pure_ (i := 20) (N := some 43) (v := ?_) (a' := ?_) #[true, true, true, true, true, true, true, true, true, true, true, true, true, true, true, true, true, true, true, true, true] rfl rfl (any_of HT_.out (by kernel_rfl)) (fun _ _ _ h => h) (Or.inl ⟨by rfl, ?_⟩) ?_ ?_
          rotate_left
          · intro w'
            go_simp
            with_reducible rfl
          rotate_left
          · simp only [Act.put, List.setIfInBounds_toArray, List.set_cons_zero, List.set_cons_succ, i64_w, i32_w]
            rfl
          refine done_ (done_of HT_.out (by kernel_rfl)) ?_
          cases ah with
          | true =>
            have HF : Aside0 (r = true) := ⟨by rw [← HR.out]; exact waits_yes hlt (by rw [HWO.out, decide_eq_true hio]; rfl)⟩
            go_wp2
            go_ret
            exact ⟨by rw [HF.out]; rfl, below_step HB.out HH6.out⟩
          | false =>
            go_wp2
            go_roundw
            case rel => exact ⟨i + 1, by omega, by go_num, ⟨by rw [waits_step, HAN.out, HWO.out]; rw [Bool.and_false]; rfl⟩, ⟨below_step HB.out HH6.out⟩⟩
            case measure => simp [intOf]; omega
        · have hde : (dn == 0) = false := beq_false_of_ne hd0
          have c_d := (HB.out.cell (World.block_lt_of_cell? w _ HYD.out)).trans HYD.out
          go_quiet (fail)
          go_wp2
          go_roundw
          case rel => exact ⟨i + 1, by omega, by go_num, ⟨by rw [waits_step, HAN.out, HWO.out]; rw [decide_eq_false hd0, Bool.and_false]; rfl⟩, ⟨pw_below_drewN HB.out _⟩⟩
          case measure => simp [intOf]; omega
    · obtain rfl : i = l.length := by omega
      have HF : Aside0 (r = false) := ⟨by rw [← HR.out]; exact HAN.out⟩
      go_wp2
      go_ret
      exact ⟨by rw [HF.out]; rfl, HB.out⟩

end Go.Proofs.Ytjieagpfnnbiiaa.XLin
