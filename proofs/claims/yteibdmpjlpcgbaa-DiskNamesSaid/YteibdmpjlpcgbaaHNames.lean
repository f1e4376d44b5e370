/- DiskNames: a file that is called otherwise is as it was. -/
import Derived.Test.YteibdmpjlpcgbaaHLook
namespace Go.Proofs.Yteibdmpjlpcgbaa.XDisk
open Go Go.RowKit Go.Proofs.YteibdmpjlpcgbaaW.PrintWords Go.Proofs.YteibdmpjlpcgbaaW.PrintLast Go.Proofs.YteibdmpjlpcgbaaW.PrintMore
open Go.Proofs.Yteibdmpjlpcgbaa
set_option linter.unusedVariables false
set_option linter.unusedSimpArgs false
set_option maxHeartbeats 16000000 in
set_option maxRecDepth 100000 in
theorem names_walk (cap : Int) (A1 : Option Addr) (c1 : Nat) (l : List S32) (o n : Nm) (w : World) (hcap : cap ≤ 9223372036854775807) (hr1 : Kd.C k32 w A1 l.length l) (hc1 : l.length ≤ c1) (hl : l.length ≤ 9223372036854775807) (hop : ∀ o ∈ l, 0 ≤ o.f0 ∧ o.f0 ≤ 255) :
    Calls Try.prog 6 #[.int .i64 cap, .slice A1 l.length c1, .string (str o), .string (str n)] w fun e w' => e = .returned (.bool true) ∧ Below w.heap.size w w' := by
  have HL := Aside0.mk hr1
  have HLC := Aside0.mk hc1
  have HLM : Aside0 (l.length ≤ 9223372036854775807) := ⟨hl⟩
  have HCAP := Aside0.mk hcap
  have HOA := Aside0.mk hop
  have HW := Aside0.mk (Below.refl w.heap.size w)
  have hzo : ((str o).size : Int) = o.length := by rw [str_size]
  have hzn : ((str n).size : Int) = n.length := by rw [str_size]
  have HZN := Aside0.mk hzn
  clear hr1 hc1 hcap hop
  obtain ⟨fb, hfb⟩ : ∃ fb, fewP l 40 = fb := ⟨_, rfl⟩
  have HFB := Aside0.mk hfb
  cases fb with
  | false =>
    clear hzo hzn
    clear hfb
    go_enter Try.func6, Try.ntmps6
    go_wp2_with (first | (go_at_call 10; refine (few_at A1 c1 l 40 _ (Kd.C_below HL.out HW.out) HLC.out HLM.out).mono ?_; rw [HFB.out]; rintro e w5 ⟨rfl, hb⟩; have n_HW := Aside0.mk (below_step HW.out hb); clear HW; have HW := n_HW; clear n_HW; clear hb) | (go_at_call 11; refine (awake_at _).mono ?_; rintro e w5 ⟨rfl, hb⟩; have n_HW := Aside0.mk (below_step HW.out hb); clear HW; have HW := n_HW; clear n_HW; clear hb))
    go_ret
    exact ⟨rfl, HW.out⟩
  | true =>
    by_cases h0 : o.length ≤ 60
    rotate_left
    · have d0 : decide (((str o).size : Int) > 60) = true := decide_eq_true (by omega)
      have e0 : decide ((60 : Int) < ((str o).size : Int)) = true := decide_eq_true (by omega)
      clear hzo hzn
      clear hfb
      go_enter Try.func6, Try.ntmps6
      go_wp2_with (first | (go_at_call 10; refine (few_at A1 c1 l 40 _ (Kd.C_below HL.out HW.out) HLC.out HLM.out).mono ?_; rw [HFB.out]; rintro e w5 ⟨rfl, hb⟩; have n_HW := Aside0.mk (below_step HW.out hb); clear HW; have HW := n_HW; clear n_HW; clear hb) | (go_at_call 11; refine (awake_at _).mono ?_; rintro e w5 ⟨rfl, hb⟩; have n_HW := Aside0.mk (below_step HW.out hb); clear HW; have HW := n_HW; clear n_HW; clear hb))
      go_ret
      exact ⟨rfl, HW.out⟩
    have d0 : decide (((str o).size : Int) > 60) = false := decide_eq_false (by omega)
    have e0 : decide ((60 : Int) < ((str o).size : Int)) = false := decide_eq_false (by omega)
    by_cases h1 : n.length ≤ 60
    rotate_left
    · have d1 : decide (((str n).size : Int) > 60) = true := decide_eq_true (by omega)
      have e1 : decide ((60 : Int) < ((str n).size : Int)) = true := decide_eq_true (by omega)
      clear hzo hzn
      clear hfb
      go_enter Try.func6, Try.ntmps6
      go_wp2_with (first | (go_at_call 10; refine (few_at A1 c1 l 40 _ (Kd.C_below HL.out HW.out) HLC.out HLM.out).mono ?_; rw [HFB.out]; rintro e w5 ⟨rfl, hb⟩; have n_HW := Aside0.mk (below_step HW.out hb); clear HW; have HW := n_HW; clear n_HW; clear hb) | (go_at_call 11; refine (awake_at _).mono ?_; rintro e w5 ⟨rfl, hb⟩; have n_HW := Aside0.mk (below_step HW.out hb); clear HW; have HW := n_HW; clear n_HW; clear hb))
      go_ret
      exact ⟨rfl, HW.out⟩
    have d1 : decide (((str n).size : Int) > 60) = false := decide_eq_false (by omega)
    have e1 : decide ((60 : Int) < ((str n).size : Int)) = false := decide_eq_false (by omega)
    obtain ⟨hsm, hl60⟩ := few_all hfb
    have HOKHL : Aside0 (∀ o ∈ l, OpOk o) := ⟨fun o ho => ⟨(HOA.out o ho).1, (HOA.out o ho).2, (hsm o ho).1, (hsm o ho).2.1, (hsm o ho).2.2.1, (hsm o ho).2.2.2⟩⟩
    have HO6 : Aside0 (o.length ≤ 1000) := ⟨by omega⟩
    have HN6 : Aside0 (n.length ≤ 1000) := ⟨by omega⟩
    clear hsm hfb h0 h1 hzo hzn
    go_enter Try.func6, Try.ntmps6
    go_upto_region 3 with (first | (go_at_call 10; refine (few_at A1 c1 l 40 _ (Kd.C_below HL.out HW.out) HLC.out HLM.out).mono ?_; rw [HFB.out]; rintro e w5 ⟨rfl, hb⟩; have n_HW := Aside0.mk (below_step HW.out hb); clear HW; have HW := n_HW; clear n_HW; clear hb))
    go_upto_region 4 with (go_at_call 12; refine (new_at2 cap none 0 [] none 0 [] _ (Kd.R_reads' (Kd.R_nil (Kd.int .i64) 3 _ 0 (fun _ => True))).2.2 (Nat.le_refl _) (by decide) (Kd.R_reads' (Kd.R_nil (Kd.int .i64) 3 _ 0 (fun _ => True))).2.2 (Nat.le_refl _) (by decide)).mono ?_; rintro e w5 ⟨gd, φ, B, rfl, hB, hd, hb⟩; have HBd := Aside0.mk (Nat.le_trans (below_size HW.out) hB); have n_HW := Aside0.mk (below_step HW.out hb); clear HW; have HW := n_HW; clear n_HW; have Hd := Aside0.mk hd; have HG := Aside0.mk (Good.new (cap := cap) (fs := []) (ps := []) HCAP.out (by decide) (by decide)); clear hd hB hb)
    clear d0 d1 e0 e1
    go_upto_region 5 with (fail)
    go_loopw [44] (fun v44 wr => ∃ (i : Nat) (S : DA) (φ : Nat → Tg), i ≤ l.length ∧ v44 = .int .i64 i ∧ Aside0 (DAt wr φ B gd S) ∧ Aside0 (Good i S) ∧ Aside0 (S.fails = []) ∧ Aside0 (Below w.heap.size w wr)) (fun v44 _ => l.length - (intOf v44).toNat)
    case atStart => exact ⟨0, _, _, Nat.zero_le _, rfl, Hd, HG, ⟨rfl⟩, HW⟩
    case round =>
      clear Hd HG HW
      obtain ⟨i, S, φ, hi, rfl, Hd, HG, HFE, HW⟩ := hrel
      rename World => wr
      by_cases hlt : i < l.length
      · obtain ⟨ad, A3, c3, A4, c4, e0, x0, x1, x2, x3, x4, l3, g3, l4, g4⟩ := at_T32 HL.out (i : Int) (by omega) (by omega)
        subst e0
        have hmem : rd_T32 l (i : Int) ∈ l := by rw [rd32 l i hlt]; exact List.getElem_mem hlt
        simp only [Int.toNat_natCast] at x0 x1 x2 x3 x4
        have hoo := HOKHL.out _ hmem
        obtain ⟨x, ho⟩ : ∃ x, rd_T32 l (i : Int) = x := ⟨_, rfl⟩
        rw [ho] at x0 x1 x2 x3 x4 l3 g3 l4 g4 hoo hmem
        replace x0 := (HW.out.cell (World.block_lt_of_cell? w _ x0)).trans x0
        replace x1 := (HW.out.cell (World.block_lt_of_cell? w _ x1)).trans x1
        replace x2 := (HW.out.cell (World.block_lt_of_cell? w _ x2)).trans x2
        replace x3 := (HW.out.cell (World.block_lt_of_cell? w _ x3)).trans x3
        replace x4 := (HW.out.cell (World.block_lt_of_cell? w _ x4)).trans x4
        have HOO := Aside0.mk hoo
        have HO3 := Aside0.mk l3
        have HG3 := Aside0.mk g3
        have HG4 := Aside0.mk g4
        have HOE := Aside0.mk ho
        clear hoo l3 g3 l4 g4 hmem ho
        have HOK := Aside0.mk (HG.out.ok (by omega))
        go_upto_region 7 with (first | ((with_reducible refine gate_dst (N := 11) rfl ?_); refine box_event ?hg (N := 11) ?hd (cs := #[.int .u8 0, .string ByteArray.empty, .string ByteArray.empty, .slice none 0 0, .slice none 0 0]) (t := 32) ?hr ?_; (case hd => rfl); (case hg => rfl); (case hr => first | (go_simp; done) | (go_simp; rfl)); intro g11 hg w3 hbox hb; have HGE := Aside0.mk hg; have BX := Aside0.mk hbox; have HX := Aside0.mk hb; have bz := fun j => blk_frozen hbox j; have bc0 := (blk_cell hbox 0).trans (show _ = some (.int .u8 0) from rfl); have bc1 := (blk_cell hbox 1).trans (show _ = some (.string ByteArray.empty) from rfl); have bc2 := (blk_cell hbox 2).trans (show _ = some (.string ByteArray.empty) from rfl); have bc3 := (blk_cell hbox 3).trans (show _ = some (.slice none 0 0) from rfl); have bc4 := (blk_cell hbox 4).trans (show _ = some (.slice none 0 0) from rfl); clear hbox hb hg))
        have hge := Nat.le_of_eq HGE.out.symm
        have s0 := blk_put (cs' := #[.int .u8 x.f0, .string ByteArray.empty, .string ByteArray.empty, .slice none 0 0, .slice none 0 0]) BX.out 0 (.int .u8 x.f0) rfl
        have h0 := below_set (j := 0) (v := .int .u8 x.f0) HX.out hge
        have s1 := blk_put (cs' := #[.int .u8 x.f0, .string x.f1, .string ByteArray.empty, .slice none 0 0, .slice none 0 0]) s0 1 (.string x.f1) rfl
        have h1 := below_set (j := 1) (v := .string x.f1) h0 hge
        have s2 := blk_put (cs' := #[.int .u8 x.f0, .string x.f1, .string x.f2, .slice none 0 0, .slice none 0 0]) s1 2 (.string x.f2) rfl
        have h2 := below_set (j := 2) (v := .string x.f2) h1 hge
        have s3 := blk_put (cs' := #[.int .u8 x.f0, .string x.f1, .string x.f2, .slice A3 x.f3.length c3, .slice none 0 0]) s2 3 (.slice A3 x.f3.length c3) rfl
        have h3 := below_set (j := 3) (v := .slice A3 x.f3.length c3) h2 hge
        have s4 := blk_put (cs' := #[.int .u8 x.f0, .string x.f1, .string x.f2, .slice A3 x.f3.length c3, .slice A4 x.f4.length c4]) s3 4 (.slice A4 x.f4.length c4) rfl
        have h4 := below_set (j := 4) (v := .slice A4 x.f4.length c4) h3 hge
        generalize (World.setCell (World.setCell (World.setCell (World.setCell (World.setCell w3 ⟨g11, 0, none⟩ (.int .u8 x.f0)) ⟨g11, 1, none⟩ (.string x.f1)) ⟨g11, 2, none⟩ (.string x.f2)) ⟨g11, 3, none⟩ (.slice A3 x.f3.length c3)) ⟨g11, 4, none⟩ (.slice A4 x.f4.length c4)) = w7 at s4 h4 ⊢
        clear s0 s1 s2 s3 h0 h1 h2 h3 hge bz bc0 bc1 bc2 bc3 bc4 BX HX HGE
        have o0 := (blk_cell s4 0).trans (show _ = some (.int .u8 x.f0) from rfl)
        have o1 := (blk_cell s4 1).trans (show _ = some (.string x.f1) from rfl)
        have o2 := (blk_cell s4 2).trans (show _ = some (.string x.f2) from rfl)
        have o3 := (blk_cell s4 3).trans (show _ = some (.slice A3 x.f3.length c3) from rfl)
        have o4 := (blk_cell s4 4).trans (show _ = some (.slice A4 x.f4.length c4) from rfl)
        have hb := h4
        have n_HW := Aside0.mk (below_step HW.out hb); have n_Hd := Aside0.mk (Hd.out.below hb); clear HW Hd; have HW := n_HW; have Hd := n_Hd; clear n_HW n_Hd
        clear h4 hb s4
        go_wp2_with (first | (go_at_call 13; refine (does_op gd B _ S x A3 c3 A4 c4 _ Hd.out HOK.out HOO.out HO3.out w HW.out HBd.out HG3.out HG4.out).mono ?_; rintro e w5 ⟨φ', rfl, hd, hs⟩; have n_HW := Aside0.mk (step_all HW.out HBd.out Hd.out hs); clear HW; have HW := n_HW; clear n_HW; clear Hd; have Hd := Aside0.mk hd; clear hd hs))
        go_roundw
        case rel => exact ⟨i + 1, _, _, by omega, by go_num, Hd, ⟨HG.out.doesO HOO.out⟩, ⟨(doesO_fails _ _).trans HFE.out⟩, HW⟩
        case measure => simp [intOf]; omega
      · obtain rfl : i = l.length := by omega
        clear hlt hi
        have HG4 := Aside0.mk (HG.out.upto (k' := 40) (by omega))
        clear HG
        have HOK := Aside0.mk (HG4.out.ok (by decide))
        have HNA := Aside0.mk HG4.out.named
        have HRI := Aside0.mk HG4.out.rise
        go_upto_region 10 with (first | (go_at_call 16; refine (list_at gd B _ S _ Hd.out HOK.out.fl).mono ?_; rintro e w5 ⟨v, rfl, hv, hb⟩; have hno := fun k h => Hd.out.new_no k h; have n_HW := Aside0.mk (below_step HW.out hb); have n_Hd := Aside0.mk (Hd.out.below hb); clear HW Hd; have HW := n_HW; have Hd := n_Hd; clear n_HW n_Hd; obtain ⟨An, cn, hv2, hnln, hst⟩ := Stays.names hv hno; rw [List.length_map] at hv2 hnln; subst hv2; have Nn := Aside0.mk hst; clear hv hb hno hst))
        rename World => wz
        go_upto_region 11 with (fail)
        go_loopw [56] (fun v56 wr => ∃ i : Nat, i ≤ S.files.length ∧ v56 = .int .i64 i ∧ Aside0 (Below wz.heap.size wz wr)) (fun v56 _ => S.files.length - (intOf v56).toNat)
        case atStart => exact ⟨0, Nat.zero_le _, rfl, ⟨Below.refl _ _⟩⟩
        case round =>
          obtain ⟨i, hi, rfl, HBQ⟩ := hrel
          rename World => wq
          by_cases hlt : i < S.files.length
          · by_cases h0 : i = 0
            · have f0 : decide (0 < i) = false := decide_eq_false (by omega)
              have d0 : decide ((i : Int) > 0) = false := decide_eq_false (by omega)
              have e0 : decide ((0 : Int) < (i : Int)) = false := decide_eq_false (by omega)
              go_upto_region 13 with (fail)
              go_quiet (fail)
              go_wp2
              go_roundw
              case rel => exact ⟨i + 1, by omega, by go_num, ⟨pw_below_drewN HBQ.out _⟩⟩
              case measure => simp [intOf]; omega
            · have f0 : decide (0 < i) = true := decide_eq_true (by omega)
              have d0 : decide ((i : Int) > 0) = true := decide_eq_true (by omega)
              have e0 : decide ((0 : Int) < (i : Int)) = true := decide_eq_true (by omega)
              obtain ⟨k, hk⟩ : ∃ k, i = k + 1 := ⟨i - 1, by omega⟩
              have hsub : IntKind.i64.wrap ((i : Int) - 1) = (k : Int) := by rw [IntWalk.i64_in _ (by omega)]; omega
              have hk0 : (0 : Int) ≤ (k : Int) := Int.natCast_nonneg _
              have hk1 : (k : Int) < (S.files.length : Int) := by omega
              obtain ⟨a1, ha1⟩ : ∃ a, (S.files.map Prod.fst).getD k [] = a := ⟨_, rfl⟩
              obtain ⟨a2, ha2⟩ : ∃ a, (S.files.map Prod.fst).getD i [] = a := ⟨_, rfl⟩
              have hlt12 : a1 < a2 := by
                have h1 := HRI.out
                unfold Rising at h1
                have h2 := List.pairwise_iff_getElem.1 h1 k i (by omega) hlt (by omega)
                rw [← ha1, ← ha2, List.getD_eq_getElem?_getD, List.getD_eq_getElem?_getD, List.getElem?_map, List.getElem?_map, List.getElem?_eq_getElem hlt, List.getElem?_eq_getElem (show k < S.files.length by omega)]
                exact h2
              have hbl := bytes_lt hlt12
              obtain ⟨ad, e1, hc1⟩ := Nn.out.self k (by rw [List.length_map]; omega)
              obtain ⟨ad2, e2, hc2⟩ := Nn.out.self i (by rw [List.length_map]; omega)
              subst e1
              obtain rfl : ad = ad2 := Option.some.inj e2
              rw [ha1] at hc1
              rw [ha2] at hc2
              replace hc1 := (HBQ.out.cell (World.block_lt_of_cell? wz _ hc1)).trans hc1
              replace hc2 := (HBQ.out.cell (World.block_lt_of_cell? wz _ hc2)).trans hc2
              clear e2 ha1 ha2 hlt12 h0 hk
              go_upto_region 13 with (fail)
              go_quiet (fail)
              clear hsub
              go_wp2
              go_roundw
              case rel => exact ⟨i + 1, by omega, by go_num, ⟨pw_below_drewN HBQ.out _⟩⟩
              case measure => simp [intOf]; omega
          · obtain rfl : i = S.files.length := by omega
            clear hlt hi
            have hb := HBQ.out
            have n_HW := Aside0.mk (below_step HW.out hb); have n_Hd := Aside0.mk (Hd.out.below hb); have n_Nn := Aside0.mk (Nn.out.below hb); clear HW Hd Nn; have HW := n_HW; have Hd := n_Hd; have Nn := n_Nn; clear n_HW n_Hd n_Nn
            clear hb HBQ Nn
            go_upto_region 17 with (first | (go_at_call 14; refine (files_at gd B _ S _ Hd.out HOK.out HNA.out).mono ?_; rintro e w5 ⟨m1, n_m1, rfl, ho, hm, hb, hnb⟩; have hno := Hd.out.new_no m1 hm; have n_HW := Aside0.mk (below_step HW.out hb); have n_Hd := Aside0.mk (Hd.out.below hb); clear HW Hd; have HW := n_HW; have Hd := n_Hd; clear n_HW n_Hd; have Mm1 := Aside0.mk (Stays.owns ho hno); have Km1 := Aside0.mk hnb; clear ho hm hb hno hnb))
            rename World => wy
            have hl1 := run_lookF2 HRI.out Mm1.out.self o HO6.out
            obtain ⟨isb, hisb⟩ : ∃ b, (get S.files o).isSome = b := ⟨_, rfl⟩
            rw [hisb] at hl1
            have HIS := Aside0.mk hisb
            clear hisb
            obtain ⟨fs, fl, hv1⟩ := lookF_form S.files o
            rw [hv1] at hl1
            have HV1 := Aside0.mk hv1
            clear hv1
            go_upto_region 18 with (first | ((with_reducible refine gate_dst (N := 15) rfl ?_); refine box_event ?hg (N := 15) ?hd (cs := #[.string ByteArray.empty, .int .i64 0]) (t := 42) ?hr ?_; (case hd => rfl); (case hg => rfl); (case hr => first | (go_simp; done) | (go_simp; rfl)); intro g15 hg w3 hbox hb; have BX := Aside0.mk hbox; have HX := Aside0.mk hb; have HGE := Aside0.mk hg; have bc0 := (blk_cell hbox 0).trans (show _ = some (.string ByteArray.empty) from rfl); have bc1 := (blk_cell hbox 1).trans (show _ = some (.int .i64 0) from rfl); have bz := fun j => blk_frozen hbox j; clear hbox hb hg))
            have hge := Nat.le_of_eq HGE.out.symm
            have s0 := blk_put (cs' := #[.string fs, .int .i64 fl]) (blk_put (cs' := #[.string fs, .int .i64 0]) BX.out 0 (.string fs) rfl) 1 (.int .i64 fl) rfl
            have h1 := below_set (j := 1) (v := .int .i64 fl) (below_set (j := 0) (v := .string fs) HX.out hge) hge
            generalize World.setCell (World.setCell w3 ⟨g15, 0, none⟩ (.string fs)) ⟨g15, 1, none⟩ (.int .i64 fl) = w8 at s0 h1 ⊢
            have hno := Hd.out.new_no g15 hge
            have hb := h1
            have n_HW := Aside0.mk (below_step HW.out hb); have n_Hd := Aside0.mk (Hd.out.below hb); have n_Mm1 := Aside0.mk (Mm1.out.below hb); clear HW Hd Mm1; have HW := n_HW; have Hd := n_Hd; have Mm1 := n_Mm1; clear n_HW n_Hd n_Mm1
            have V15 := Aside0.mk (Stays.mk' (P := fun W => W.heap[g15]? = some (.cells #[.string fs, .int .i64 fl] 42 (0, 0))) (fun k => k = g15) (fun k hk => by subst hk; exact ⟨blk_lt s0, hno⟩) (fun W hW => (hW g15 rfl).trans s0))
            clear s0 h1 hb hno hge BX HX HGE bc0 bc1 bz
            clear hl1
            clear Mm1
            go_upto_region 19 with (first | (go_at_call 26; refine (rename_at gd B _ S o n _ Hd.out HOK.out.small HO6.out HN6.out).mono ?_; rintro e w5 ⟨r, rfl, hr, φ', hd, hs⟩; have HE := Aside0.mk hr; clear hr; have n_HW := Aside0.mk (step_all HW.out HBd.out Hd.out hs); have n_V15 := Aside0.mk (V15.out.step hs); clear HW V15; have HW := n_HW; have V15 := n_V15; clear n_HW n_V15; clear Hd; have Hd := Aside0.mk hd; clear hd hs))
            have HGR := Aside0.mk (HG4.out.rename o n)
            have HFR : Aside0 ((renameP S o n).1.fails = []) := ⟨by have h := doesP_fails S 3 o n [] []; exact h.trans HFE.out⟩
            obtain ⟨RR, hRR⟩ : ∃ RR, renameP S o n = RR := ⟨_, rfl⟩
            rw [hRR] at Hd HE HGR HFR
            have HRR := Aside0.mk hRR
            clear hRR
            obtain rfl : r = RR.2 := HE.out
            have HOKR := Aside0.mk (HGR.out.ok (by decide))
            have HNAR := Aside0.mk HGR.out.named
            clear HE
            go_upto_region 20 with (first | (go_at_call 14; refine (files_at gd B _ RR.1 _ Hd.out HOKR.out HNAR.out).mono ?_; rintro e w5 ⟨m2, n_m2, rfl, ho, hm, hb, hnb⟩; have hno := Hd.out.new_no m2 hm; have n_HW := Aside0.mk (below_step HW.out hb); have n_Hd := Aside0.mk (Hd.out.below hb); have n_V15 := Aside0.mk (V15.out.below hb); clear HW Hd V15; have HW := n_HW; have Hd := n_Hd; have V15 := n_V15; clear n_HW n_Hd n_V15; have Mm2 := Aside0.mk (Stays.owns ho hno); have Km2 := Aside0.mk hnb; clear ho hm hb hno hnb))
            rename World => w9
            obtain ⟨re, hre⟩ : ∃ re, RR.2 = re := ⟨_, rfl⟩
            have HRE := Aside0.mk hre
            rw [hre]
            clear hre
            go_upto_if 89 with (fail)
            go_cut [] (fun wx => Aside0 (Below w9.heap.size w9 wx))
            case first =>
              have b15 := V15.out.self
              have k15a := (blk_cell b15 0).trans (show _ = some (.string fs) from rfl)
              have k15b := (blk_cell b15 1).trans (show _ = some (.int .i64 fl) from rfl)
              clear b15
              cases hgo : get S.files o with
              | none =>
                obtain rfl : isb = false := by rw [← HIS.out, hgo]; rfl
                obtain ⟨e, h1, h2⟩ := ren_none (S := S) (o := o) (n := n) hgo
                have he : re = e := by rw [← HRE.out, ← HRR.out, h1]
                subst he
                clear h1 hgo
                rcases h2 with rfl | rfl
                · go_wp2
                  go_meet
                  case rel => exact ⟨Below.refl _ _⟩
                · go_wp2
                  go_meet
                  case rel => exact ⟨Below.refl _ _⟩
              | some f =>
                cases hv : vN n with
                | false =>
                  obtain rfl : isb = true := by rw [← HIS.out, hgo]; rfl
                  have h1 := ren_bad (S := S) (o := o) hv
                  have he : re = 2 := by rw [← HRE.out, ← HRR.out, h1]
                  subst he
                  clear h1
                  rcases vN_false hv with hn | hn
                  · have t1 : ((str n).toList == (ByteArray.mk #[]).toList) = true := by rw [hn, toList_str, ByteArray.toList_eq]; rfl
                    have t4 : (str n).toList = [] := by rw [hn, toList_str]
                    have t5 : (str n).toList.isEmpty = true := by rw [t4]; rfl
                    clear hn hv hgo
                    go_wp2
                    go_meet
                    case rel => exact ⟨Below.refl _ _⟩
                  · have t1 : ((str n).toList == (ByteArray.mk #[]).toList) = false := by rw [toList_str, ByteArray.toList_eq]; cases n with
                      | nil => simp at hn
                      | cons a t => rfl
                    have t4 : ¬ (str n).toList = [] := by rw [toList_str]; intro e; rw [e] at hn; simp at hn
                    have t5 : (str n).toList.isEmpty = false := by rw [List.isEmpty_eq_false_iff]; exact t4
                    have q40 : (40 : Int) < ((str n).size : Int) := by have := HZN.out; omega
                    have q41 : ¬ ((str n).size : Int) ≤ 40 := by have := HZN.out; omega
                    have g40 : decide ((40 : Int) < ((str n).size : Int)) = true := decide_eq_true (by have := HZN.out; omega)
                    have g41 : decide (((str n).size : Int) ≤ 40) = false := decide_eq_false (by have := HZN.out; omega)
                    have g42 : decide (((str n).size : Int) > 40) = true := decide_eq_true (by have := HZN.out; omega)
                    clear hn hv hgo
                    go_wp2
                    go_meet
                    case rel => exact ⟨Below.refl _ _⟩
                | true =>
                  obtain rfl : isb = true := by rw [← HIS.out, hgo]; rfl
                  have hvo : vN o = true := HNA.out _ (get_mem hgo)
                  have h1 := ren_ok (n := n) HFE.out hvo hv hgo
                  have he : re = 0 := by rw [← HRE.out, ← HRR.out, h1]
                  subst he
                  have hvn := vN_true hv
                  have hv1 : lookF S.files o = fval f := by unfold lookF; rw [hgo]; rfl
                  have hgn : get RR.1.files n = some f := by rw [← HRR.out, h1]; exact (get_put (del_rising HRI.out o) n n f).trans (if_pos rfl)
                  have hgo2 : o ≠ n → get RR.1.files o = none := fun hne => by rw [← HRR.out, h1]; exact ((get_put (del_rising HRI.out o) n o f).trans (if_neg hne)).trans ((get_del HRI.out o o).trans (if_pos rfl))
                  have hv2 : lookF RR.1.files n = fval f := by unfold lookF; rw [hgn]; rfl
                  have hv3 := HV1.out
                  rw [hv1] at hv3
                  rw [hv3] at hv2
                  have hl2 := run_lookF HGR.out.rise Mm2.out.self n HN6.out
                  rw [hv2] at hl2
                  have t1 : ((str n).toList == (ByteArray.mk #[]).toList) = false := by rw [toList_str, ByteArray.toList_eq]; cases n with
                    | nil => exact absurd rfl hvn.1
                    | cons a t => rfl
                  have t4 : ¬ (str n).toList = [] := by rw [toList_str]; exact hvn.1
                  have t5 : (str n).toList.isEmpty = false := by rw [List.isEmpty_eq_false_iff]; exact t4
                  have q40 : ¬ (40 : Int) < ((str n).size : Int) := by have := HZN.out; omega
                  have q41 : ((str n).size : Int) ≤ 40 := by have := HZN.out; omega
                  have g40 : decide ((40 : Int) < ((str n).size : Int)) = false := decide_eq_false (by have := HZN.out; omega)
                  have g41 : decide (((str n).size : Int) ≤ 40) = true := decide_eq_true (by have := HZN.out; omega)
                  have g42 : decide (((str n).size : Int) > 40) = false := decide_eq_false (by have := HZN.out; omega)
                  clear hvo h1 hvn hv1 hgn hv2 hv3 hv hgo
                  by_cases hon : o = n
                  · have t3 : ((str o).toList == (str n).toList) = true := by rw [hon]; exact beq_self_eq_true _
                    have t6 : (str o).toList = (str n).toList := by rw [hon]
                    clear hgo2 hon
                    go_wp2
                    go_meet
                    case rel => exact ⟨Below.refl _ _⟩
                  · have t3 : ((str o).toList == (str n).toList) = false := by rw [toList_str, toList_str]; exact beq_eq_false_iff_ne.2 hon
                    have t6 : ¬ (str o).toList = (str n).toList := by rw [toList_str, toList_str]; exact hon
                    have hl3 := run_lookF2 HGR.out.rise Mm2.out.self o HO6.out
                    obtain ⟨fs3, fl3, hv3⟩ := lookF_form RR.1.files o
                    rw [hv3, hgo2 hon] at hl3
                    replace hl3 : (Instr.lookup 35 (.map (some m2)) (.string (str o)) true).run Try.prog w9 = .ok (.tuple #[.agg #[.string fs3, .int .i64 fl3], .bool false]) w9 := hl3
                    clear hgo2 hon hv3
                    go_upto_region 25 with (first | ((with_reducible refine gate_dst (N := 19) rfl ?_); refine box_event ?hg (N := 19) ?hd (cs := #[.string ByteArray.empty, .int .i64 0]) (t := 42) ?hr ?_; (case hd => rfl); (case hg => rfl); (case hr => first | (go_simp; done) | (go_simp; rfl)); intro g19 hg w3 hbox hb; have BX := Aside0.mk hbox; have HX := Aside0.mk hb; have HGE := Aside0.mk hg; have bc0 := (blk_cell hbox 0).trans (show _ = some (.string ByteArray.empty) from rfl); have bc1 := (blk_cell hbox 1).trans (show _ = some (.int .i64 0) from rfl); have bz := fun j => blk_frozen hbox j; clear hbox hb hg))
                    have hge := Nat.le_of_eq HGE.out.symm
                    have h1 := below_set (j := 1) (v := .int .i64 fl3) (below_set (j := 0) (v := .string fs3) HX.out hge) hge
                    generalize World.setCell (World.setCell w3 ⟨g19, 0, none⟩ (.string fs3)) ⟨g19, 1, none⟩ (.int .i64 fl3) = wv at h1 ⊢
                    clear bc0 bc1 bz BX HX HGE hge
                    go_wp2
                    go_meet
                    case rel => exact ⟨h1⟩
            case rest =>
              rename World => wt
              have hb := hcut.out
              clear V15 hcut
              have n_HW := Aside0.mk (below_step HW.out hb); have n_Hd := Aside0.mk (Hd.out.below hb); have n_Mm2 := Aside0.mk (Mm2.out.below hb); clear HW Hd Mm2; have HW := n_HW; have Hd := n_Hd; have Mm2 := n_Mm2; clear n_HW n_Hd n_Mm2
              clear hb Mm2 HRE
              obtain ⟨S1, hS1⟩ : ∃ S1, RR.1 = S1 := ⟨_, rfl⟩
              rw [hS1] at Hd HGR HFR HOKR HNAR
              clear hS1 HRR HV1
              by_cases hq : vN n = true ∧ (get S1.files n).isSome = true
              rotate_left
              · have hq2 : vN n = false ∨ get S1.files n = none := by
                  cases hv : vN n with
                  | false => exact .inl rfl
                  | true =>
                    refine .inr ?_
                    cases hg : get S1.files n with
                    | none => rfl
                    | some f => exact absurd ⟨hv, by rw [hg]; rfl⟩ hq
                obtain ⟨e, h1, h2⟩ := rem_no hq2
                have HQ := Aside0.mk h1
                clear hq hq2 h1
                rcases h2 with rfl | rfl
                · go_wp2_with (first | (go_at_call 27; refine (remove_at gd B _ S1 n _ Hd.out HOKR.out.small HN6.out).mono ?_; rintro e w5 ⟨r, rfl, hr, φ', hd, hs⟩; have hr2 : r = 2 := hr.trans (congrArg Prod.snd HQ.out); subst hr2; clear hr; have n_HW := Aside0.mk (step_all HW.out HBd.out Hd.out hs); clear HW; have HW := n_HW; clear n_HW; clear Hd; have Hd := Aside0.mk hd; clear hd hs) | (go_at_call 11; refine (awake_at _).mono ?_; rintro e w5 ⟨rfl, hb⟩; have n_HW := Aside0.mk (below_step HW.out hb); have n_Hd := Aside0.mk (Hd.out.below hb); clear HW Hd; have HW := n_HW; have Hd := n_Hd; clear n_HW n_Hd; clear hb))
                  go_ret
                  exact ⟨rfl, HW.out⟩
                · go_wp2_with (first | (go_at_call 27; refine (remove_at gd B _ S1 n _ Hd.out HOKR.out.small HN6.out).mono ?_; rintro e w5 ⟨r, rfl, hr, φ', hd, hs⟩; have hr2 : r = 10 := hr.trans (congrArg Prod.snd HQ.out); subst hr2; clear hr; have n_HW := Aside0.mk (step_all HW.out HBd.out Hd.out hs); clear HW; have HW := n_HW; clear n_HW; clear Hd; have Hd := Aside0.mk hd; clear hd hs) | (go_at_call 11; refine (awake_at _).mono ?_; rintro e w5 ⟨rfl, hb⟩; have n_HW := Aside0.mk (below_step HW.out hb); have n_Hd := Aside0.mk (Hd.out.below hb); clear HW Hd; have HW := n_HW; have Hd := n_Hd; clear n_HW n_Hd; clear hb))
                  go_ret
                  exact ⟨rfl, HW.out⟩
              · obtain ⟨hv, hs⟩ := hq
                obtain ⟨f2, hg⟩ := Option.isSome_iff_exists.1 hs
                have HV := Aside0.mk hv
                have HQ := Aside0.mk (rem_ok HFR.out hv hg)
                clear hs hg hv
                have hrem := HGR.out.remove n
                rw [show (removeP S1 n).1 = ({ cnt S1 with files := del n S1.files } : DA) from congrArg Prod.fst HQ.out] at hrem
                have HG2 := Aside0.mk hrem
                clear hrem
                have HOK2 := Aside0.mk (HG2.out.ok (by decide))
                have HNA2 := Aside0.mk HG2.out.named
                go_upto_region 30 with (first | (go_at_call 27; refine (remove_at gd B _ S1 n _ Hd.out HOKR.out.small HN6.out).mono ?_; rintro e w5 ⟨r, rfl, hr, φ', hd, hs⟩; have hr2 : r = 0 := hr.trans (congrArg Prod.snd HQ.out); subst hr2; clear hr; rw [show (removeP S1 n).1 = ({ cnt S1 with files := del n S1.files } : DA) from congrArg Prod.fst HQ.out] at hd; have n_HW := Aside0.mk (step_all HW.out HBd.out Hd.out hs); clear HW; have HW := n_HW; clear n_HW; clear Hd; have Hd := Aside0.mk hd; clear hd hs))
                have hgn2 : get ({ cnt S1 with files := del n S1.files } : DA).files n = none := (get_del HGR.out.rise n n).trans (if_pos rfl)
                have HGN := Aside0.mk hgn2
                clear hgn2
                go_upto_region 31 with (first | (go_at_call 14; refine (files_at gd B _ ({ cnt S1 with files := del n S1.files } : DA) _ Hd.out HOK2.out HNA2.out).mono ?_; rintro e w5 ⟨m3, n_m3, rfl, ho, hm, hb, hnb⟩; have hno := Hd.out.new_no m3 hm; have n_HW := Aside0.mk (below_step HW.out hb); have n_Hd := Aside0.mk (Hd.out.below hb); clear HW Hd; have HW := n_HW; have Hd := n_Hd; clear n_HW n_Hd; have Mm3 := Aside0.mk (Stays.owns ho hno); have Km3 := Aside0.mk hnb; have hl3 := run_lookF2 HG2.out.rise Mm3.out.self n HN6.out; rw [show (get ({ cnt S1 with files := del n S1.files } : DA).files n).isSome = false by rw [HGN.out]; rfl, show lookF ({ cnt S1 with files := del n S1.files } : DA).files n = .agg #[.string ByteArray.empty, .int .i64 0] by unfold lookF; rw [HGN.out]; rfl] at hl3; clear ho hm hb hno hnb) | ((with_reducible refine gate_dst (N := 21) rfl ?_); refine box_event ?hg (N := 21) ?hd (cs := #[.string ByteArray.empty, .int .i64 0]) (t := 42) ?hr ?_; (case hd => rfl); (case hg => rfl); (case hr => first | (go_simp; done) | (go_simp; rfl)); intro g21 hg w3 hbox hb; have BX := Aside0.mk hbox; have HX := Aside0.mk hb; have HGE := Aside0.mk hg; have bc0 := (blk_cell hbox 0).trans (show _ = some (.string ByteArray.empty) from rfl); have bc1 := (blk_cell hbox 1).trans (show _ = some (.int .i64 0) from rfl); have bz := fun j => blk_frozen hbox j; clear hbox hb hg))
                have hge := Nat.le_of_eq HGE.out.symm
                have s0 := blk_put (cs' := #[.string ByteArray.empty, .int .i64 0]) (blk_put (cs' := #[.string ByteArray.empty, .int .i64 0]) BX.out 0 (.string ByteArray.empty) rfl) 1 (.int .i64 0) rfl
                have h1 := below_set (j := 1) (v := .int .i64 0) (below_set (j := 0) (v := .string ByteArray.empty) HX.out hge) hge
                generalize World.setCell (World.setCell w3 ⟨g21, 0, none⟩ (.string ByteArray.empty)) ⟨g21, 1, none⟩ (.int .i64 0) = wv at s0 h1 ⊢
                have hno := Hd.out.new_no g21 hge
                have hb := h1
                have n_HW := Aside0.mk (below_step HW.out hb); have n_Hd := Aside0.mk (Hd.out.below hb); have n_Mm3 := Aside0.mk (Mm3.out.below hb); clear HW Hd Mm3; have HW := n_HW; have Hd := n_Hd; have Mm3 := n_Mm3; clear n_HW n_Hd n_Mm3
                clear s0 h1 hb hno hge BX HX HGE bc0 bc1 bz
                clear hl3 Mm3
                have HC := Aside0.mk (cre_ok (S := ({ cnt S1 with files := del n S1.files } : DA)) HFR.out HV.out HGN.out)
                have hcre := HG2.out.create n
                rw [show (createP ({ cnt S1 with files := del n S1.files } : DA) n).1 = ({ cnt ({ cnt S1 with files := del n S1.files } : DA) with files := put n ⟨[], 0⟩ ({ cnt S1 with files := del n S1.files } : DA).files } : DA) from congrArg Prod.fst HC.out] at hcre
                have HG3 := Aside0.mk hcre
                clear hcre
                have HOK3 := Aside0.mk (HG3.out.ok (by decide))
                have HGN3 : Aside0 (get ({ cnt ({ cnt S1 with files := del n S1.files } : DA) with files := put n ⟨[], 0⟩ ({ cnt S1 with files := del n S1.files } : DA).files } : DA).files n = some ⟨[], 0⟩) := ⟨(get_put HG2.out.rise n n ⟨[], 0⟩).trans (if_pos rfl)⟩
                obtain ⟨S3, hS3⟩ : ∃ S3, ({ cnt ({ cnt S1 with files := del n S1.files } : DA) with files := put n ⟨[], 0⟩ ({ cnt S1 with files := del n S1.files } : DA).files } : DA) = S3 := ⟨_, rfl⟩
                rw [hS3] at HC HG3 HOK3 HGN3
                go_upto_region 33 with (first | (go_at_call 28; refine (create_at gd B _ ({ cnt S1 with files := del n S1.files } : DA) n _ Hd.out HOK2.out.small HN6.out).mono ?_; rintro e w5 ⟨r, rfl, hr, φ', hd, hs⟩; have hr2 : r = 0 := hr.trans (congrArg Prod.snd HC.out); subst hr2; clear hr; rw [show (createP ({ cnt S1 with files := del n S1.files } : DA) n).1 = S3 from congrArg Prod.fst HC.out] at hd; have n_HW := Aside0.mk (step_all HW.out HBd.out Hd.out hs); clear HW; have HW := n_HW; clear n_HW; clear Hd; have Hd := Aside0.mk hd; clear hd hs))
                clear HC hS3 HQ HG2 HOK2 HNA2 HGN
                have hfp : findP S3 n = (⟨[], 0⟩, 0) := findP_of HG3.out.rise (get_mem HGN3.out) HV.out
                have HFP := Aside0.mk hfp
                clear hfp
                have HC3 := Aside0.mk (cre_there HV.out HGN3.out)
                go_upto_region 34 with (first | (go_at_call 25; refine (size_at gd B _ S3 n _ Hd.out HN6.out).mono ?_; rw [HFP.out]; rintro e w5 ⟨rfl, hb⟩; have n_HW := Aside0.mk (below_step HW.out hb); have n_Hd := Aside0.mk (Hd.out.below hb); clear HW Hd; have HW := n_HW; have Hd := n_Hd; clear n_HW n_Hd; clear hb))
                go_wp2_with (first | (go_at_call 28; refine (create_at gd B _ S3 n _ Hd.out HOK3.out.small HN6.out).mono ?_; rintro e w5 ⟨r, rfl, hr, φ', hd, hs⟩; have hr2 : r = 11 := hr.trans (congrArg Prod.snd HC3.out); subst hr2; clear hr; have n_HW := Aside0.mk (step_all HW.out HBd.out Hd.out hs); clear HW; have HW := n_HW; clear n_HW; clear Hd; have Hd := Aside0.mk hd; clear hd hs) | (go_at_call 11; refine (awake_at _).mono ?_; rintro e w5 ⟨rfl, hb⟩; have n_HW := Aside0.mk (below_step HW.out hb); have n_Hd := Aside0.mk (Hd.out.below hb); clear HW Hd; have HW := n_HW; have Hd := n_Hd; clear n_HW n_Hd; clear hb))
                go_ret
                exact ⟨rfl, HW.out⟩
theorem names_walk2 (cap : Int) (A1 : Option Addr) (c1 : Nat) (l : List S32) (s t : ByteArray) (w : World) (hcap : cap ≤ 9223372036854775807) (hr1 : Kd.C k32 w A1 l.length l) (hc1 : l.length ≤ c1) (hl : l.length ≤ 9223372036854775807) (hop : ∀ o ∈ l, 0 ≤ o.f0 ∧ o.f0 ≤ 255) :
    Calls Try.prog 6 #[.int .i64 cap, .slice A1 l.length c1, .string s, .string t] w fun e w' => e = .returned (.bool true) ∧ Below w.heap.size w w' := by
  have h := names_walk cap A1 c1 l s.data.toList t.data.toList w hcap hr1 hc1 hl hop
  rw [str_of, str_of] at h
  exact h
end Go.Proofs.Yteibdmpjlpcgbaa.XDisk
