/- the law's may. -/
import Derived.Test.YtjieagpfnnbiiaaBHLin8
namespace Go.Proofs.Ytjieagpfnnbiiaa.XLin
open Go Go.RowKit Go.Proofs.YtjieagpfnnbiiaaW.PrintWords Go.Proofs.YtjieagpfnnbiiaaW.PrintLast Go.Proofs.YtjieagpfnnbiiaaW.PrintMore
open Go.Proofs.Ytjieagpfnnbiiaa
set_option linter.unusedVariables false
set_option linter.unusedSimpArgs false
/-- may: what a call may not be. -/
def badOne (x : S36) : Bool := ((((((x.f0.f0 == 1) && !(rightP x.f0.f1)) || decide (x.f1 < 0)) || decide (x.f2 < -1)) || decide ((x.f5.length : Int) > 20)) || decide ((x.f0.f2.size : Int) > 64)) || decide ((x.f0.f3.size : Int) > 64)
def mayAll (base : List S25) (l : List S36) (most : Int) : Bool := !(l.any badOne) && ((decide ((l.length : Int) ≤ most) && rightM base) && decide ((base.length : Int) ≤ 20))
theorem any_take_succ {l : List S36} {i : Nat} (h : i < l.length) : (l.take (i + 1)).any badOne = ((l.take i).any badOne || badOne (l.getD i z36)) := by
  rw [List.take_succ_eq_append_getElem h, List.any_append, List.getD_eq_getElem?_getD, List.getElem?_eq_getElem h]
  simp
set_option maxHeartbeats 8000000 in
set_option maxRecDepth 100000 in
theorem may8 (A : Option Addr) (c : Nat) (base : List S25) (L : Option Addr) (cl : Nat) (l : List S36) (most : Int) (w : World) (hm : Kd.C k25 w A base.length base) (hmc : base.length ≤ c) (hl : Kd.C k36 w L l.length l) :
    Calls Try.prog 8 #[.slice A base.length c, .slice L l.length cl, .int .i64 most] w fun e w' => e = .returned (.bool (mayAll base l most)) ∧ Below w.heap.size w w' := by
  have HM := Aside0.mk hm
  have HMC := Aside0.mk hmc
  have HL := Aside0.mk hl
  have hll : l.length ≤ 9223372036854775807 := hl.2.1
  clear hm hmc hl
  obtain ⟨r, hr⟩ : ∃ r, mayAll base l most = r := ⟨_, rfl⟩
  rw [hr]
  have HR := Aside0.mk hr
  clear hr
  go_enter Try.func8, Try.ntmps8
  go_upto_region 2 with (fail)
  go_loopw [11] (fun v11 wr => ∃ i : Nat, i ≤ l.length ∧ v11 = .int .i64 (i : Int) ∧ Aside0 ((l.take i).any badOne = false) ∧ Aside0 (Below w.heap.size w wr)) (fun v11 _ => l.length - (intOf v11).toNat)
  case atStart => exact ⟨0, Nat.zero_le _, rfl, ⟨rfl⟩, ⟨Below.refl _ _⟩⟩
  case round =>
    obtain ⟨i, hi, rfl, HAN, HB⟩ := hrel
    rename World => wr
    by_cases hlt : i < l.length
    · obtain ⟨ad, A1, c1, A9, c9, e0, hcl, hdi⟩ := at36 HL.out i hlt
      subst e0
      have hts := any_take_succ hlt
      obtain ⟨x, hx⟩ : ∃ x, l.getD i z36 = x := ⟨_, rfl⟩
      rw [hx] at hcl hdi hts
      have hxm : x ∈ l := by rw [← hx, List.getD_eq_getElem?_getD, List.getElem?_eq_getElem hlt]; exact List.getElem_mem hlt
      have hbad : badOne x = true → r = false := fun h => by rw [← HR.out]; unfold mayAll; rw [List.any_eq_true.2 ⟨x, hxm, h⟩]; rfl
      have HBAD := Aside0.mk hbad
      have HTS := Aside0.mk hts
      have HCL := Aside0.mk hcl
      have HDI := Aside0.mk hdi
      clear hcl hdi hts hxm hbad hx
      obtain ⟨x0, x1, x2, x3, x4, x5, x6, x7, x8, x9⟩ := HCL.out.below HB.out
      go_upto_region 4 with (first | ((with_reducible refine gate_dst (N := 8) rfl ?_); refine box_event ?hg (N := 8) ?hd (cs := #[.int .u8 0, .slice none 0 0, .string ByteArray.empty, .string ByteArray.empty, .int .i64 0, .int .i64 0, .int .i64 0, .int .i64 0, .int .u64 0, .slice none 0 0]) (t := 36) ?hr ?_; (case hd => rfl); (case hg => rfl); (case hr => first | (go_simp; done) | (go_simp; rfl)); intro g8 hg w3 hbox hb; have HGV := Aside0.mk (Nat.le_of_eq hg.symm); have BV := Aside0.mk hbox; have HXV := Aside0.mk hb; have z0 := (blk_cell hbox 0).trans (show _ = some (.int .u8 0) from rfl); have z1 := (blk_cell hbox 1).trans (show _ = some (.slice none 0 0) from rfl); have z2 := (blk_cell hbox 2).trans (show _ = some (.string ByteArray.empty) from rfl); have z3 := (blk_cell hbox 3).trans (show _ = some (.string ByteArray.empty) from rfl); have z4 := (blk_cell hbox 4).trans (show _ = some (.int .i64 0) from rfl); have z5 := (blk_cell hbox 5).trans (show _ = some (.int .i64 0) from rfl); have z6 := (blk_cell hbox 6).trans (show _ = some (.int .i64 0) from rfl); have z7 := (blk_cell hbox 7).trans (show _ = some (.int .i64 0) from rfl); have z8 := (blk_cell hbox 8).trans (show _ = some (.int .u64 0) from rfl); have z9 := (blk_cell hbox 9).trans (show _ = some (.slice none 0 0) from rfl); have zf := fun j => blk_frozen hbox j; clear hg hbox hb))
      clear x0 x1 x2 x3 x4 x5 x6 x7 x8 x9
      clear z0 z1 z2 z3 z4 z5 z6 z7 z8 z9 zf
      rename World => w3
      have s0 := blk_put (cs' := #[.int .u8 x.f0.f0, .slice none 0 0, .string ByteArray.empty, .string ByteArray.empty, .int .i64 0, .int .i64 0, .int .i64 0, .int .i64 0, .int .u64 0, .slice none 0 0]) BV.out 0 (.int .u8 x.f0.f0) rfl
      have s1 := blk_put (cs' := #[.int .u8 x.f0.f0, .slice A1 x.f0.f1.length c1, .string ByteArray.empty, .string ByteArray.empty, .int .i64 0, .int .i64 0, .int .i64 0, .int .i64 0, .int .u64 0, .slice none 0 0]) s0 1 (.slice A1 x.f0.f1.length c1) rfl
      have s2 := blk_put (cs' := #[.int .u8 x.f0.f0, .slice A1 x.f0.f1.length c1, .string x.f0.f2, .string ByteArray.empty, .int .i64 0, .int .i64 0, .int .i64 0, .int .i64 0, .int .u64 0, .slice none 0 0]) s1 2 (.string x.f0.f2) rfl
      have s3 := blk_put (cs' := #[.int .u8 x.f0.f0, .slice A1 x.f0.f1.length c1, .string x.f0.f2, .string x.f0.f3, .int .i64 0, .int .i64 0, .int .i64 0, .int .i64 0, .int .u64 0, .slice none 0 0]) s2 3 (.string x.f0.f3) rfl
      have s4 := blk_put (cs' := #[.int .u8 x.f0.f0, .slice A1 x.f0.f1.length c1, .string x.f0.f2, .string x.f0.f3, .int .i64 x.f0.f4, .int .i64 0, .int .i64 0, .int .i64 0, .int .u64 0, .slice none 0 0]) s3 4 (.int .i64 x.f0.f4) rfl
      have s5 := blk_put (cs' := #[.int .u8 x.f0.f0, .slice A1 x.f0.f1.length c1, .string x.f0.f2, .string x.f0.f3, .int .i64 x.f0.f4, .int .i64 x.f1, .int .i64 0, .int .i64 0, .int .u64 0, .slice none 0 0]) s4 5 (.int .i64 x.f1) rfl
      have s6 := blk_put (cs' := #[.int .u8 x.f0.f0, .slice A1 x.f0.f1.length c1, .string x.f0.f2, .string x.f0.f3, .int .i64 x.f0.f4, .int .i64 x.f1, .int .i64 x.f2, .int .i64 0, .int .u64 0, .slice none 0 0]) s5 6 (.int .i64 x.f2) rfl
      have s7 := blk_put (cs' := #[.int .u8 x.f0.f0, .slice A1 x.f0.f1.length c1, .string x.f0.f2, .string x.f0.f3, .int .i64 x.f0.f4, .int .i64 x.f1, .int .i64 x.f2, .int .i64 x.f3, .int .u64 0, .slice none 0 0]) s6 7 (.int .i64 x.f3) rfl
      have s8 := blk_put (cs' := #[.int .u8 x.f0.f0, .slice A1 x.f0.f1.length c1, .string x.f0.f2, .string x.f0.f3, .int .i64 x.f0.f4, .int .i64 x.f1, .int .i64 x.f2, .int .i64 x.f3, .int .u64 x.f4, .slice none 0 0]) s7 8 (.int .u64 x.f4) rfl
      have s9 := blk_put (cs' := #[.int .u8 x.f0.f0, .slice A1 x.f0.f1.length c1, .string x.f0.f2, .string x.f0.f3, .int .i64 x.f0.f4, .int .i64 x.f1, .int .i64 x.f2, .int .i64 x.f3, .int .u64 x.f4, .slice A9 x.f5.length c9]) s8 9 (.slice A9 x.f5.length c9) rfl
      have hb := ((((((((((HXV.out.setCell (p := ⟨g8, 0, none⟩) HGV.out (.int .u8 x.f0.f0)).setCell (p := ⟨g8, 1, none⟩) HGV.out (.slice A1 x.f0.f1.length c1)).setCell (p := ⟨g8, 2, none⟩) HGV.out (.string x.f0.f2)).setCell (p := ⟨g8, 3, none⟩) HGV.out (.string x.f0.f3)).setCell (p := ⟨g8, 4, none⟩) HGV.out (.int .i64 x.f0.f4)).setCell (p := ⟨g8, 5, none⟩) HGV.out (.int .i64 x.f1)).setCell (p := ⟨g8, 6, none⟩) HGV.out (.int .i64 x.f2)).setCell (p := ⟨g8, 7, none⟩) HGV.out (.int .i64 x.f3)).setCell (p := ⟨g8, 8, none⟩) HGV.out (.int .u64 x.f4)).setCell (p := ⟨g8, 9, none⟩) HGV.out (.slice A9 x.f5.length c9))
      generalize (World.setCell (World.setCell (World.setCell (World.setCell (World.setCell (World.setCell (World.setCell (World.setCell (World.setCell (World.setCell w3 ⟨g8, 0, none⟩ (.int .u8 x.f0.f0)) ⟨g8, 1, none⟩ (.slice A1 x.f0.f1.length c1)) ⟨g8, 2, none⟩ (.string x.f0.f2)) ⟨g8, 3, none⟩ (.string x.f0.f3)) ⟨g8, 4, none⟩ (.int .i64 x.f0.f4)) ⟨g8, 5, none⟩ (.int .i64 x.f1)) ⟨g8, 6, none⟩ (.int .i64 x.f2)) ⟨g8, 7, none⟩ (.int .i64 x.f3)) ⟨g8, 8, none⟩ (.int .u64 x.f4)) ⟨g8, 9, none⟩ (.slice A9 x.f5.length c9)) = wk at s9 hb ⊢
      have n_HB := Aside0.mk (below_step HB.out hb); clear HB; have HB := n_HB; clear n_HB
      clear BV HXV HGV
      have X8 := Aside0.mk s9
      clear s0 s1 s2 s3 s4 s5 s6 s7 s8 s9 hb
      have z0 := (blk_cell X8.out 0).trans (show _ = some (.int .u8 x.f0.f0) from rfl)
      have z1 := (blk_cell X8.out 1).trans (show _ = some (.slice A1 x.f0.f1.length c1) from rfl)
      have z2 := (blk_cell X8.out 2).trans (show _ = some (.string x.f0.f2) from rfl)
      have z3 := (blk_cell X8.out 3).trans (show _ = some (.string x.f0.f3) from rfl)
      have z4 := (blk_cell X8.out 4).trans (show _ = some (.int .i64 x.f0.f4) from rfl)
      have z5 := (blk_cell X8.out 5).trans (show _ = some (.int .i64 x.f1) from rfl)
      have z6 := (blk_cell X8.out 6).trans (show _ = some (.int .i64 x.f2) from rfl)
      have z7 := (blk_cell X8.out 7).trans (show _ = some (.int .i64 x.f3) from rfl)
      have z8 := (blk_cell X8.out 8).trans (show _ = some (.int .u64 x.f4) from rfl)
      have z9 := (blk_cell X8.out 9).trans (show _ = some (.slice A9 x.f5.length c9) from rfl)
      obtain ⟨rp, hrp⟩ : ∃ rp, rightP x.f0.f1 = rp := ⟨_, rfl⟩
      have HRP := Aside0.mk hrp
      obtain ⟨b1, hb1⟩ : ∃ b1, (x.f0.f0 == 1) = b1 := ⟨_, rfl⟩
      by_cases hbb : (b1 && !rp) = true
      · have hbx : b1 = true ∧ rp = false := by cases b1 <;> cases rp <;> simp at hbb ⊢
        obtain ⟨q1, q2⟩ := hbx
        subst q1
        subst q2
        clear hbb
        have HF1 : Aside0 (((x.f0.f0 == 1) && !(rightP x.f0.f1)) = true) := ⟨by rw [hb1, hrp]; rfl⟩
        clear hrp
        have HF : Aside0 (r = false) := ⟨HBAD.out (by unfold badOne; rw [HF1.out]; rfl)⟩
        go_wp2_with (first | (go_at_call 24; refine (right24 A1 c1 x.f0.f1 _ (HDI.out.below HB.out).o).mono ?_; rw [HRP.out]; rintro e w5 ⟨rfl, hb⟩; have n_HB := Aside0.mk (below_step HB.out hb); have n_X8 := Aside0.mk (blk_below X8.out hb); clear HB X8; have HB := n_HB; have X8 := n_X8; clear n_HB n_X8; clear hb; clear z0 z1 z2 z3 z4 z5 z6 z7 z8 z9; have z0 := (blk_cell X8.out 0).trans (show _ = some (.int .u8 x.f0.f0) from rfl); have z1 := (blk_cell X8.out 1).trans (show _ = some (.slice A1 x.f0.f1.length c1) from rfl); have z2 := (blk_cell X8.out 2).trans (show _ = some (.string x.f0.f2) from rfl); have z3 := (blk_cell X8.out 3).trans (show _ = some (.string x.f0.f3) from rfl); have z4 := (blk_cell X8.out 4).trans (show _ = some (.int .i64 x.f0.f4) from rfl); have z5 := (blk_cell X8.out 5).trans (show _ = some (.int .i64 x.f1) from rfl); have z6 := (blk_cell X8.out 6).trans (show _ = some (.int .i64 x.f2) from rfl); have z7 := (blk_cell X8.out 7).trans (show _ = some (.int .i64 x.f3) from rfl); have z8 := (blk_cell X8.out 8).trans (show _ = some (.int .u64 x.f4) from rfl); have z9 := (blk_cell X8.out 9).trans (show _ = some (.slice A9 x.f5.length c9) from rfl)))
        go_ret
        exact ⟨by rw [HF.out]; rfl, HB.out⟩
      have HF0 : Aside0 (((x.f0.f0 == 1) && !(rightP x.f0.f1)) = false) := ⟨by rw [hb1, hrp]; simpa using hbb⟩
      clear hrp
      cases b1 with
      | false =>
        clear hbb
        by_cases h1 : x.f1 < 0
        · have d0 : decide (x.f1 < 0) = true := decide_eq_true h1
          have HF : Aside0 (r = false) := ⟨HBAD.out (by unfold badOne; rw [HF0.out, decide_eq_true h1]; simp)⟩
          go_wp2_with (first | (go_at_call 24; refine (right24 A1 c1 x.f0.f1 _ (HDI.out.below HB.out).o).mono ?_; rw [HRP.out]; rintro e w5 ⟨rfl, hb⟩; have n_HB := Aside0.mk (below_step HB.out hb); have n_X8 := Aside0.mk (blk_below X8.out hb); clear HB X8; have HB := n_HB; have X8 := n_X8; clear n_HB n_X8; clear hb; clear z0 z1 z2 z3 z4 z5 z6 z7 z8 z9; have z0 := (blk_cell X8.out 0).trans (show _ = some (.int .u8 x.f0.f0) from rfl); have z1 := (blk_cell X8.out 1).trans (show _ = some (.slice A1 x.f0.f1.length c1) from rfl); have z2 := (blk_cell X8.out 2).trans (show _ = some (.string x.f0.f2) from rfl); have z3 := (blk_cell X8.out 3).trans (show _ = some (.string x.f0.f3) from rfl); have z4 := (blk_cell X8.out 4).trans (show _ = some (.int .i64 x.f0.f4) from rfl); have z5 := (blk_cell X8.out 5).trans (show _ = some (.int .i64 x.f1) from rfl); have z6 := (blk_cell X8.out 6).trans (show _ = some (.int .i64 x.f2) from rfl); have z7 := (blk_cell X8.out 7).trans (show _ = some (.int .i64 x.f3) from rfl); have z8 := (blk_cell X8.out 8).trans (show _ = some (.int .u64 x.f4) from rfl); have z9 := (blk_cell X8.out 9).trans (show _ = some (.slice A9 x.f5.length c9) from rfl)))
          go_ret
          exact ⟨by rw [HF.out]; rfl, HB.out⟩
        have d0 : decide (x.f1 < 0) = false := decide_eq_false h1
        by_cases h2 : x.f2 < -1
        · have d1 : decide (x.f2 < -1) = true := decide_eq_true h2
          have HF : Aside0 (r = false) := ⟨HBAD.out (by unfold badOne; rw [HF0.out, decide_eq_false h1, decide_eq_true h2]; simp)⟩
          go_wp2_with (first | (go_at_call 24; refine (right24 A1 c1 x.f0.f1 _ (HDI.out.below HB.out).o).mono ?_; rw [HRP.out]; rintro e w5 ⟨rfl, hb⟩; have n_HB := Aside0.mk (below_step HB.out hb); have n_X8 := Aside0.mk (blk_below X8.out hb); clear HB X8; have HB := n_HB; have X8 := n_X8; clear n_HB n_X8; clear hb; clear z0 z1 z2 z3 z4 z5 z6 z7 z8 z9; have z0 := (blk_cell X8.out 0).trans (show _ = some (.int .u8 x.f0.f0) from rfl); have z1 := (blk_cell X8.out 1).trans (show _ = some (.slice A1 x.f0.f1.length c1) from rfl); have z2 := (blk_cell X8.out 2).trans (show _ = some (.string x.f0.f2) from rfl); have z3 := (blk_cell X8.out 3).trans (show _ = some (.string x.f0.f3) from rfl); have z4 := (blk_cell X8.out 4).trans (show _ = some (.int .i64 x.f0.f4) from rfl); have z5 := (blk_cell X8.out 5).trans (show _ = some (.int .i64 x.f1) from rfl); have z6 := (blk_cell X8.out 6).trans (show _ = some (.int .i64 x.f2) from rfl); have z7 := (blk_cell X8.out 7).trans (show _ = some (.int .i64 x.f3) from rfl); have z8 := (blk_cell X8.out 8).trans (show _ = some (.int .u64 x.f4) from rfl); have z9 := (blk_cell X8.out 9).trans (show _ = some (.slice A9 x.f5.length c9) from rfl)))
          go_ret
          exact ⟨by rw [HF.out]; rfl, HB.out⟩
        have d1 : decide (x.f2 < -1) = false := decide_eq_false h2
        by_cases h3 : (x.f5.length : Int) > 20
        · have d2 : decide ((x.f5.length : Int) > 20) = true := decide_eq_true h3
          have HF : Aside0 (r = false) := ⟨HBAD.out (by unfold badOne; rw [HF0.out, decide_eq_false h1, decide_eq_false h2, decide_eq_true h3]; simp)⟩
          go_wp2_with (first | (go_at_call 24; refine (right24 A1 c1 x.f0.f1 _ (HDI.out.below HB.out).o).mono ?_; rw [HRP.out]; rintro e w5 ⟨rfl, hb⟩; have n_HB := Aside0.mk (below_step HB.out hb); have n_X8 := Aside0.mk (blk_below X8.out hb); clear HB X8; have HB := n_HB; have X8 := n_X8; clear n_HB n_X8; clear hb; clear z0 z1 z2 z3 z4 z5 z6 z7 z8 z9; have z0 := (blk_cell X8.out 0).trans (show _ = some (.int .u8 x.f0.f0) from rfl); have z1 := (blk_cell X8.out 1).trans (show _ = some (.slice A1 x.f0.f1.length c1) from rfl); have z2 := (blk_cell X8.out 2).trans (show _ = some (.string x.f0.f2) from rfl); have z3 := (blk_cell X8.out 3).trans (show _ = some (.string x.f0.f3) from rfl); have z4 := (blk_cell X8.out 4).trans (show _ = some (.int .i64 x.f0.f4) from rfl); have z5 := (blk_cell X8.out 5).trans (show _ = some (.int .i64 x.f1) from rfl); have z6 := (blk_cell X8.out 6).trans (show _ = some (.int .i64 x.f2) from rfl); have z7 := (blk_cell X8.out 7).trans (show _ = some (.int .i64 x.f3) from rfl); have z8 := (blk_cell X8.out 8).trans (show _ = some (.int .u64 x.f4) from rfl); have z9 := (blk_cell X8.out 9).trans (show _ = some (.slice A9 x.f5.length c9) from rfl)))
          go_ret
          exact ⟨by rw [HF.out]; rfl, HB.out⟩
        have d2 : decide ((x.f5.length : Int) > 20) = false := decide_eq_false h3
        by_cases h4 : (x.f0.f2.size : Int) > 64
        · have d3 : decide ((x.f0.f2.size : Int) > 64) = true := decide_eq_true h4
          have HF : Aside0 (r = false) := ⟨HBAD.out (by unfold badOne; rw [HF0.out, decide_eq_false h1, decide_eq_false h2, decide_eq_false h3, decide_eq_true h4]; simp)⟩
          go_wp2_with (first | (go_at_call 24; refine (right24 A1 c1 x.f0.f1 _ (HDI.out.below HB.out).o).mono ?_; rw [HRP.out]; rintro e w5 ⟨rfl, hb⟩; have n_HB := Aside0.mk (below_step HB.out hb); have n_X8 := Aside0.mk (blk_below X8.out hb); clear HB X8; have HB := n_HB; have X8 := n_X8; clear n_HB n_X8; clear hb; clear z0 z1 z2 z3 z4 z5 z6 z7 z8 z9; have z0 := (blk_cell X8.out 0).trans (show _ = some (.int .u8 x.f0.f0) from rfl); have z1 := (blk_cell X8.out 1).trans (show _ = some (.slice A1 x.f0.f1.length c1) from rfl); have z2 := (blk_cell X8.out 2).trans (show _ = some (.string x.f0.f2) from rfl); have z3 := (blk_cell X8.out 3).trans (show _ = some (.string x.f0.f3) from rfl); have z4 := (blk_cell X8.out 4).trans (show _ = some (.int .i64 x.f0.f4) from rfl); have z5 := (blk_cell X8.out 5).trans (show _ = some (.int .i64 x.f1) from rfl); have z6 := (blk_cell X8.out 6).trans (show _ = some (.int .i64 x.f2) from rfl); have z7 := (blk_cell X8.out 7).trans (show _ = some (.int .i64 x.f3) from rfl); have z8 := (blk_cell X8.out 8).trans (show _ = some (.int .u64 x.f4) from rfl); have z9 := (blk_cell X8.out 9).trans (show _ = some (.slice A9 x.f5.length c9) from rfl)))
          go_ret
          exact ⟨by rw [HF.out]; rfl, HB.out⟩
        have d3 : decide ((x.f0.f2.size : Int) > 64) = false := decide_eq_false h4
        by_cases h5 : (x.f0.f3.size : Int) > 64
        · have d4 : decide ((x.f0.f3.size : Int) > 64) = true := decide_eq_true h5
          have HF : Aside0 (r = false) := ⟨HBAD.out (by unfold badOne; rw [HF0.out, decide_eq_false h1, decide_eq_false h2, decide_eq_false h3, decide_eq_false h4, decide_eq_true h5]; simp)⟩
          go_wp2_with (first | (go_at_call 24; refine (right24 A1 c1 x.f0.f1 _ (HDI.out.below HB.out).o).mono ?_; rw [HRP.out]; rintro e w5 ⟨rfl, hb⟩; have n_HB := Aside0.mk (below_step HB.out hb); have n_X8 := Aside0.mk (blk_below X8.out hb); clear HB X8; have HB := n_HB; have X8 := n_X8; clear n_HB n_X8; clear hb; clear z0 z1 z2 z3 z4 z5 z6 z7 z8 z9; have z0 := (blk_cell X8.out 0).trans (show _ = some (.int .u8 x.f0.f0) from rfl); have z1 := (blk_cell X8.out 1).trans (show _ = some (.slice A1 x.f0.f1.length c1) from rfl); have z2 := (blk_cell X8.out 2).trans (show _ = some (.string x.f0.f2) from rfl); have z3 := (blk_cell X8.out 3).trans (show _ = some (.string x.f0.f3) from rfl); have z4 := (blk_cell X8.out 4).trans (show _ = some (.int .i64 x.f0.f4) from rfl); have z5 := (blk_cell X8.out 5).trans (show _ = some (.int .i64 x.f1) from rfl); have z6 := (blk_cell X8.out 6).trans (show _ = some (.int .i64 x.f2) from rfl); have z7 := (blk_cell X8.out 7).trans (show _ = some (.int .i64 x.f3) from rfl); have z8 := (blk_cell X8.out 8).trans (show _ = some (.int .u64 x.f4) from rfl); have z9 := (blk_cell X8.out 9).trans (show _ = some (.slice A9 x.f5.length c9) from rfl)))
          go_ret
          exact ⟨by rw [HF.out]; rfl, HB.out⟩
        have d4 : decide ((x.f0.f3.size : Int) > 64) = false := decide_eq_false h5
        have HT2 : Aside0 ((l.take (i + 1)).any badOne = false) := ⟨by rw [HTS.out, HAN.out]; unfold badOne; rw [HF0.out, decide_eq_false h1, decide_eq_false h2, decide_eq_false h3, decide_eq_false h4, decide_eq_false h5]; rfl⟩
        go_wp2_with (first | (go_at_call 24; refine (right24 A1 c1 x.f0.f1 _ (HDI.out.below HB.out).o).mono ?_; rw [HRP.out]; rintro e w5 ⟨rfl, hb⟩; have n_HB := Aside0.mk (below_step HB.out hb); have n_X8 := Aside0.mk (blk_below X8.out hb); clear HB X8; have HB := n_HB; have X8 := n_X8; clear n_HB n_X8; clear hb; clear z0 z1 z2 z3 z4 z5 z6 z7 z8 z9; have z0 := (blk_cell X8.out 0).trans (show _ = some (.int .u8 x.f0.f0) from rfl); have z1 := (blk_cell X8.out 1).trans (show _ = some (.slice A1 x.f0.f1.length c1) from rfl); have z2 := (blk_cell X8.out 2).trans (show _ = some (.string x.f0.f2) from rfl); have z3 := (blk_cell X8.out 3).trans (show _ = some (.string x.f0.f3) from rfl); have z4 := (blk_cell X8.out 4).trans (show _ = some (.int .i64 x.f0.f4) from rfl); have z5 := (blk_cell X8.out 5).trans (show _ = some (.int .i64 x.f1) from rfl); have z6 := (blk_cell X8.out 6).trans (show _ = some (.int .i64 x.f2) from rfl); have z7 := (blk_cell X8.out 7).trans (show _ = some (.int .i64 x.f3) from rfl); have z8 := (blk_cell X8.out 8).trans (show _ = some (.int .u64 x.f4) from rfl); have z9 := (blk_cell X8.out 9).trans (show _ = some (.slice A9 x.f5.length c9) from rfl)))
        go_roundw
        case rel => exact ⟨i + 1, by omega, by go_num, HT2, HB⟩
        case measure => simp [intOf]; omega
      | true =>
        have q2 : rp = true := by cases rp <;> simp at hbb ⊢
        subst q2
        clear hbb
        by_cases h1 : x.f1 < 0
        · have d0 : decide (x.f1 < 0) = true := decide_eq_true h1
          have HF : Aside0 (r = false) := ⟨HBAD.out (by unfold badOne; rw [HF0.out, decide_eq_true h1]; simp)⟩
          go_wp2_with (first | (go_at_call 24; refine (right24 A1 c1 x.f0.f1 _ (HDI.out.below HB.out).o).mono ?_; rw [HRP.out]; rintro e w5 ⟨rfl, hb⟩; have n_HB := Aside0.mk (below_step HB.out hb); have n_X8 := Aside0.mk (blk_below X8.out hb); clear HB X8; have HB := n_HB; have X8 := n_X8; clear n_HB n_X8; clear hb; clear z0 z1 z2 z3 z4 z5 z6 z7 z8 z9; have z0 := (blk_cell X8.out 0).trans (show _ = some (.int .u8 x.f0.f0) from rfl); have z1 := (blk_cell X8.out 1).trans (show _ = some (.slice A1 x.f0.f1.length c1) from rfl); have z2 := (blk_cell X8.out 2).trans (show _ = some (.string x.f0.f2) from rfl); have z3 := (blk_cell X8.out 3).trans (show _ = some (.string x.f0.f3) from rfl); have z4 := (blk_cell X8.out 4).trans (show _ = some (.int .i64 x.f0.f4) from rfl); have z5 := (blk_cell X8.out 5).trans (show _ = some (.int .i64 x.f1) from rfl); have z6 := (blk_cell X8.out 6).trans (show _ = some (.int .i64 x.f2) from rfl); have z7 := (blk_cell X8.out 7).trans (show _ = some (.int .i64 x.f3) from rfl); have z8 := (blk_cell X8.out 8).trans (show _ = some (.int .u64 x.f4) from rfl); have z9 := (blk_cell X8.out 9).trans (show _ = some (.slice A9 x.f5.length c9) from rfl)))
          go_ret
          exact ⟨by rw [HF.out]; rfl, HB.out⟩
        have d0 : decide (x.f1 < 0) = false := decide_eq_false h1
        by_cases h2 : x.f2 < -1
        · have d1 : decide (x.f2 < -1) = true := decide_eq_true h2
          have HF : Aside0 (r = false) := ⟨HBAD.out (by unfold badOne; rw [HF0.out, decide_eq_false h1, decide_eq_true h2]; simp)⟩
          go_wp2_with (first | (go_at_call 24; refine (right24 A1 c1 x.f0.f1 _ (HDI.out.below HB.out).o).mono ?_; rw [HRP.out]; rintro e w5 ⟨rfl, hb⟩; have n_HB := Aside0.mk (below_step HB.out hb); have n_X8 := Aside0.mk (blk_below X8.out hb); clear HB X8; have HB := n_HB; have X8 := n_X8; clear n_HB n_X8; clear hb; clear z0 z1 z2 z3 z4 z5 z6 z7 z8 z9; have z0 := (blk_cell X8.out 0).trans (show _ = some (.int .u8 x.f0.f0) from rfl); have z1 := (blk_cell X8.out 1).trans (show _ = some (.slice A1 x.f0.f1.length c1) from rfl); have z2 := (blk_cell X8.out 2).trans (show _ = some (.string x.f0.f2) from rfl); have z3 := (blk_cell X8.out 3).trans (show _ = some (.string x.f0.f3) from rfl); have z4 := (blk_cell X8.out 4).trans (show _ = some (.int .i64 x.f0.f4) from rfl); have z5 := (blk_cell X8.out 5).trans (show _ = some (.int .i64 x.f1) from rfl); have z6 := (blk_cell X8.out 6).trans (show _ = some (.int .i64 x.f2) from rfl); have z7 := (blk_cell X8.out 7).trans (show _ = some (.int .i64 x.f3) from rfl); have z8 := (blk_cell X8.out 8).trans (show _ = some (.int .u64 x.f4) from rfl); have z9 := (blk_cell X8.out 9).trans (show _ = some (.slice A9 x.f5.length c9) from rfl)))
          go_ret
          exact ⟨by rw [HF.out]; rfl, HB.out⟩
        have d1 : decide (x.f2 < -1) = false := decide_eq_false h2
        by_cases h3 : (x.f5.length : Int) > 20
        · have d2 : decide ((x.f5.length : Int) > 20) = true := decide_eq_true h3
          have HF : Aside0 (r = false) := ⟨HBAD.out (by unfold badOne; rw [HF0.out, decide_eq_false h1, decide_eq_false h2, decide_eq_true h3]; simp)⟩
          go_wp2_with (first | (go_at_call 24; refine (right24 A1 c1 x.f0.f1 _ (HDI.out.below HB.out).o).mono ?_; rw [HRP.out]; rintro e w5 ⟨rfl, hb⟩; have n_HB := Aside0.mk (below_step HB.out hb); have n_X8 := Aside0.mk (blk_below X8.out hb); clear HB X8; have HB := n_HB; have X8 := n_X8; clear n_HB n_X8; clear hb; clear z0 z1 z2 z3 z4 z5 z6 z7 z8 z9; have z0 := (blk_cell X8.out 0).trans (show _ = some (.int .u8 x.f0.f0) from rfl); have z1 := (blk_cell X8.out 1).trans (show _ = some (.slice A1 x.f0.f1.length c1) from rfl); have z2 := (blk_cell X8.out 2).trans (show _ = some (.string x.f0.f2) from rfl); have z3 := (blk_cell X8.out 3).trans (show _ = some (.string x.f0.f3) from rfl); have z4 := (blk_cell X8.out 4).trans (show _ = some (.int .i64 x.f0.f4) from rfl); have z5 := (blk_cell X8.out 5).trans (show _ = some (.int .i64 x.f1) from rfl); have z6 := (blk_cell X8.out 6).trans (show _ = some (.int .i64 x.f2) from rfl); have z7 := (blk_cell X8.out 7).trans (show _ = some (.int .i64 x.f3) from rfl); have z8 := (blk_cell X8.out 8).trans (show _ = some (.int .u64 x.f4) from rfl); have z9 := (blk_cell X8.out 9).trans (show _ = some (.slice A9 x.f5.length c9) from rfl)))
          go_ret
          exact ⟨by rw [HF.out]; rfl, HB.out⟩
        have d2 : decide ((x.f5.length : Int) > 20) = false := decide_eq_false h3
        by_cases h4 : (x.f0.f2.size : Int) > 64
        · have d3 : decide ((x.f0.f2.size : Int) > 64) = true := decide_eq_true h4
          have HF : Aside0 (r = false) := ⟨HBAD.out (by unfold badOne; rw [HF0.out, decide_eq_false h1, decide_eq_false h2, decide_eq_false h3, decide_eq_true h4]; simp)⟩
          go_wp2_with (first | (go_at_call 24; refine (right24 A1 c1 x.f0.f1 _ (HDI.out.below HB.out).o).mono ?_; rw [HRP.out]; rintro e w5 ⟨rfl, hb⟩; have n_HB := Aside0.mk (below_step HB.out hb); have n_X8 := Aside0.mk (blk_below X8.out hb); clear HB X8; have HB := n_HB; have X8 := n_X8; clear n_HB n_X8; clear hb; clear z0 z1 z2 z3 z4 z5 z6 z7 z8 z9; have z0 := (blk_cell X8.out 0).trans (show _ = some (.int .u8 x.f0.f0) from rfl); have z1 := (blk_cell X8.out 1).trans (show _ = some (.slice A1 x.f0.f1.length c1) from rfl); have z2 := (blk_cell X8.out 2).trans (show _ = some (.string x.f0.f2) from rfl); have z3 := (blk_cell X8.out 3).trans (show _ = some (.string x.f0.f3) from rfl); have z4 := (blk_cell X8.out 4).trans (show _ = some (.int .i64 x.f0.f4) from rfl); have z5 := (blk_cell X8.out 5).trans (show _ = some (.int .i64 x.f1) from rfl); have z6 := (blk_cell X8.out 6).trans (show _ = some (.int .i64 x.f2) from rfl); have z7 := (blk_cell X8.out 7).trans (show _ = some (.int .i64 x.f3) from rfl); have z8 := (blk_cell X8.out 8).trans (show _ = some (.int .u64 x.f4) from rfl); have z9 := (blk_cell X8.out 9).trans (show _ = some (.slice A9 x.f5.length c9) from rfl)))
          go_ret
          exact ⟨by rw [HF.out]; rfl, HB.out⟩
        have d3 : decide ((x.f0.f2.size : Int) > 64) = false := decide_eq_false h4
        by_cases h5 : (x.f0.f3.size : Int) > 64
        · have d4 : decide ((x.f0.f3.size : Int) > 64) = true := decide_eq_true h5
          have HF : Aside0 (r = false) := ⟨HBAD.out (by unfold badOne; rw [HF0.out, decide_eq_false h1, decide_eq_false h2, decide_eq_false h3, decide_eq_false h4, decide_eq_true h5]; simp)⟩
          go_wp2_with (first | (go_at_call 24; refine (right24 A1 c1 x.f0.f1 _ (HDI.out.below HB.out).o).mono ?_; rw [HRP.out]; rintro e w5 ⟨rfl, hb⟩; have n_HB := Aside0.mk (below_step HB.out hb); have n_X8 := Aside0.mk (blk_below X8.out hb); clear HB X8; have HB := n_HB; have X8 := n_X8; clear n_HB n_X8; clear hb; clear z0 z1 z2 z3 z4 z5 z6 z7 z8 z9; have z0 := (blk_cell X8.out 0).trans (show _ = some (.int .u8 x.f0.f0) from rfl); have z1 := (blk_cell X8.out 1).trans (show _ = some (.slice A1 x.f0.f1.length c1) from rfl); have z2 := (blk_cell X8.out 2).trans (show _ = some (.string x.f0.f2) from rfl); have z3 := (blk_cell X8.out 3).trans (show _ = some (.string x.f0.f3) from rfl); have z4 := (blk_cell X8.out 4).trans (show _ = some (.int .i64 x.f0.f4) from rfl); have z5 := (blk_cell X8.out 5).trans (show _ = some (.int .i64 x.f1) from rfl); have z6 := (blk_cell X8.out 6).trans (show _ = some (.int .i64 x.f2) from rfl); have z7 := (blk_cell X8.out 7).trans (show _ = some (.int .i64 x.f3) from rfl); have z8 := (blk_cell X8.out 8).trans (show _ = some (.int .u64 x.f4) from rfl); have z9 := (blk_cell X8.out 9).trans (show _ = some (.slice A9 x.f5.length c9) from rfl)))
          go_ret
          exact ⟨by rw [HF.out]; rfl, HB.out⟩
        have d4 : decide ((x.f0.f3.size : Int) > 64) = false := decide_eq_false h5
        have HT2 : Aside0 ((l.take (i + 1)).any badOne = false) := ⟨by rw [HTS.out, HAN.out]; unfold badOne; rw [HF0.out, decide_eq_false h1, decide_eq_false h2, decide_eq_false h3, decide_eq_false h4, decide_eq_false h5]; rfl⟩
        go_wp2_with (first | (go_at_call 24; refine (right24 A1 c1 x.f0.f1 _ (HDI.out.below HB.out).o).mono ?_; rw [HRP.out]; rintro e w5 ⟨rfl, hb⟩; have n_HB := Aside0.mk (below_step HB.out hb); have n_X8 := Aside0.mk (blk_below X8.out hb); clear HB X8; have HB := n_HB; have X8 := n_X8; clear n_HB n_X8; clear hb; clear z0 z1 z2 z3 z4 z5 z6 z7 z8 z9; have z0 := (blk_cell X8.out 0).trans (show _ = some (.int .u8 x.f0.f0) from rfl); have z1 := (blk_cell X8.out 1).trans (show _ = some (.slice A1 x.f0.f1.length c1) from rfl); have z2 := (blk_cell X8.out 2).trans (show _ = some (.string x.f0.f2) from rfl); have z3 := (blk_cell X8.out 3).trans (show _ = some (.string x.f0.f3) from rfl); have z4 := (blk_cell X8.out 4).trans (show _ = some (.int .i64 x.f0.f4) from rfl); have z5 := (blk_cell X8.out 5).trans (show _ = some (.int .i64 x.f1) from rfl); have z6 := (blk_cell X8.out 6).trans (show _ = some (.int .i64 x.f2) from rfl); have z7 := (blk_cell X8.out 7).trans (show _ = some (.int .i64 x.f3) from rfl); have z8 := (blk_cell X8.out 8).trans (show _ = some (.int .u64 x.f4) from rfl); have z9 := (blk_cell X8.out 9).trans (show _ = some (.slice A9 x.f5.length c9) from rfl)))
        go_roundw
        case rel => exact ⟨i + 1, by omega, by go_num, HT2, HB⟩
        case measure => simp [intOf]; omega
    · obtain rfl : i = l.length := by omega
      have han := HAN.out
      rw [List.take_length] at han
      obtain ⟨rm, hrm⟩ : ∃ rm, rightM base = rm := ⟨_, rfl⟩
      have HRM := Aside0.mk hrm
      have HRR : Aside0 (((decide ((l.length : Int) ≤ most) && rm) && decide ((base.length : Int) ≤ 20)) = r) := ⟨by rw [← HR.out]; unfold mayAll; rw [han, hrm]; rfl⟩
      clear han hrm HAN
      by_cases g1 : (l.length : Int) ≤ most
      rotate_left
      · have d1 : decide ((l.length : Int) ≤ most) = false := decide_eq_false g1
        have HF : Aside0 (r = false) := ⟨by rw [← HRR.out, d1]; rfl⟩
        clear g1
        go_wp2
        go_ret
        exact ⟨by rw [HF.out]; rfl, HB.out⟩
      have d1 : decide ((l.length : Int) ≤ most) = true := decide_eq_true g1
      cases rm with
      | false =>
        have HF : Aside0 (r = false) := ⟨by rw [← HRR.out, d1]; rfl⟩
        go_wp2_with (first | (go_at_call 25; refine (right25 A c base _ (Kd.C_below HM.out HB.out) HMC.out).mono ?_; rw [HRM.out]; rintro e w5 ⟨rfl, hb⟩; have n_HB := Aside0.mk (below_step HB.out hb); clear HB; have HB := n_HB; clear n_HB; clear hb))
        go_ret
        exact ⟨by rw [HF.out]; rfl, HB.out⟩
      | true =>
        obtain ⟨b2, hb2⟩ : ∃ b2, decide ((base.length : Int) ≤ 20) = b2 := ⟨_, rfl⟩
        have HF : Aside0 (r = b2) := ⟨by rw [← HRR.out, d1, hb2]; rfl⟩
        clear g1
        cases b2 with
        | false =>
          go_wp2_with (first | (go_at_call 25; refine (right25 A c base _ (Kd.C_below HM.out HB.out) HMC.out).mono ?_; rw [HRM.out]; rintro e w5 ⟨rfl, hb⟩; have n_HB := Aside0.mk (below_step HB.out hb); clear HB; have HB := n_HB; clear n_HB; clear hb))
          go_ret
          exact ⟨by rw [HF.out]; rfl, HB.out⟩
        | true =>
          go_wp2_with (first | (go_at_call 25; refine (right25 A c base _ (Kd.C_below HM.out HB.out) HMC.out).mono ?_; rw [HRM.out]; rintro e w5 ⟨rfl, hb⟩; have n_HB := Aside0.mk (below_step HB.out hb); clear HB; have HB := n_HB; clear n_HB; clear hb))
          go_ret
          exact ⟨by rw [HF.out]; rfl, HB.out⟩

end Go.Proofs.Ytjieagpfnnbiiaa.XLin
