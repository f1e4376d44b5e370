/- DiskPlan: just the calls whose numbers the plan has are refused. -/
import Derived.Test.YteibdmpjlpcgbaaHTwo
namespace Go.Proofs.Yteibdmpjlpcgbaa.XDisk
open Go Go.RowKit Go.Proofs.YteibdmpjlpcgbaaW.PrintWords Go.Proofs.YteibdmpjlpcgbaaW.PrintLast Go.Proofs.YteibdmpjlpcgbaaW.PrintMore
open Go.Proofs.Yteibdmpjlpcgbaa
set_option linter.unusedVariables false
set_option linter.unusedSimpArgs false
def r7_9.T : Bool × List (List Nat × List Nat) := (true, [([], []), ([], []), ([0, 1], [0, 1]), ([], []), ([], []), ([3, 4, 2], [3, 4]), ([2, 5, 0, 1, 2], [2]), ([5, 6, 0, 1, 2, 3, 4, 5, 6], [5])])
def r7_9.B : List Nat := [0, 0, 3, 0, 0, 31, 63, 127]
theorem r7_9.tab : rtab .any (opsOf Try.f7 9) = r7_9.T := by kernel_rfl
theorem r7_9.bits : waitsOk r7_9.T.2 r7_9.B = true := by kernel_rfl
set_option maxHeartbeats 16000000 in
set_option maxRecDepth 100000 in
theorem plan_walk (cap : Int) (A1 : Option Addr) (c1 : Nat) (fs : List Int) (A2 : Option Addr) (c2 : Nat) (l : List S32) (w : World) (hcap : cap ≤ 9223372036854775807) (hr1 : Kd.C (Kd.int .i64) w A1 fs.length fs) (hc1 : fs.length ≤ c1) (hr2 : Kd.C k32 w A2 l.length l) (hc2 : l.length ≤ c2) (hl : l.length ≤ 9223372036854775807) (hop : ∀ o ∈ l, 0 ≤ o.f0 ∧ o.f0 ≤ 255) :
    Calls Try.prog 7 #[.int .i64 cap, .slice A1 fs.length c1, .slice A2 l.length c2] w fun e w' => e = .returned (.bool true) ∧ Below w.heap.size w w' := by
  have HF0 := Aside0.mk hr1
  have HL := Aside0.mk hr2
  have HC0 := Aside0.mk hc1
  have HLC := Aside0.mk hc2
  have HLM : Aside0 (l.length ≤ 9223372036854775807) := ⟨hl⟩
  have hfm : fs.length ≤ 9223372036854775807 := hr1.2.1
  have HCAP := Aside0.mk hcap
  have HOA := Aside0.mk hop
  have HW := Aside0.mk (Below.refl w.heap.size w)
  clear hr1 hr2 hc1 hc2 hcap hop
  obtain ⟨fb, hfb⟩ : ∃ fb, fewP l 60 = fb := ⟨_, rfl⟩
  have HFB := Aside0.mk hfb
  cases fb with
  | false =>
    clear hfb
    go_enter Try.func7, Try.ntmps7
    go_wp2_with (first | (go_at_call 10; refine (few_at A2 c2 l 60 _ (Kd.C_below HL.out HW.out) HLC.out HLM.out).mono ?_; rw [HFB.out]; rintro e w5 ⟨rfl, hb⟩; have n_HW := Aside0.mk (below_step HW.out hb); clear HW; have HW := n_HW; clear n_HW; clear hb) | (go_at_call 11; refine (awake_at _).mono ?_; rintro e w5 ⟨rfl, hb⟩; have n_HW := Aside0.mk (below_step HW.out hb); clear HW; have HW := n_HW; clear n_HW; clear hb))
    go_ret
    exact ⟨rfl, HW.out⟩
  | true =>
    by_cases h0 : fs.length ≤ 60
    rotate_left
    · have d0 : decide ((fs.length : Int) > 60) = true := decide_eq_true (by omega)
      have e0 : decide ((60 : Int) < (fs.length : Int)) = true := decide_eq_true (by omega)
      clear hfb
      go_enter Try.func7, Try.ntmps7
      go_wp2_with (first | (go_at_call 10; refine (few_at A2 c2 l 60 _ (Kd.C_below HL.out HW.out) HLC.out HLM.out).mono ?_; rw [HFB.out]; rintro e w5 ⟨rfl, hb⟩; have n_HW := Aside0.mk (below_step HW.out hb); clear HW; have HW := n_HW; clear n_HW; clear hb) | (go_at_call 11; refine (awake_at _).mono ?_; rintro e w5 ⟨rfl, hb⟩; have n_HW := Aside0.mk (below_step HW.out hb); clear HW; have HW := n_HW; clear n_HW; clear hb))
      go_ret
      exact ⟨rfl, HW.out⟩
    have d0 : decide ((fs.length : Int) > 60) = false := decide_eq_false (by omega)
    have e0 : decide ((60 : Int) < (fs.length : Int)) = false := decide_eq_false (by omega)
    obtain ⟨hsm, hl60⟩ := few_all hfb
    have HOKHL : Aside0 (∀ o ∈ l, OpOk o) := ⟨fun o ho => ⟨(HOA.out o ho).1, (HOA.out o ho).2, (hsm o ho).1, (hsm o ho).2.1, (hsm o ho).2.2.1, (hsm o ho).2.2.2⟩⟩
    clear hsm hfb
    have HH0 := Aside0.mk h0
    have HN1 : Aside0 True := ⟨trivial⟩
    clear h0
    go_enter Try.func7, Try.ntmps7
    go_upto_region 3 with (first | (go_at_call 10; refine (few_at A2 c2 l 60 _ (Kd.C_below HL.out HW.out) HLC.out HLM.out).mono ?_; rw [HFB.out]; rintro e w5 ⟨rfl, hb⟩; have n_HW := Aside0.mk (below_step HW.out hb); clear HW; have HW := n_HW; clear n_HW; clear hb))
    go_upto_region 4 with (first | (go_at_call 12; have hn1 := HN1.out; refine (new_at2 cap A1 c1 fs none 0 [] _ (Kd.C_below HF0.out HW.out) HC0.out HH0.out (Kd.R_reads' (Kd.R_nil (Kd.int .i64) 3 _ 0 (fun _ => True))).2.2 (Nat.le_refl _) (by decide)).mono ?_; rintro e w5 ⟨gd, φ, B, rfl, hB, hd, hb⟩; have HBd := Aside0.mk (Nat.le_trans (below_size HW.out) hB); have n_HW := Aside0.mk (below_step HW.out hb); clear HW HN1 hn1; have HW := n_HW; clear n_HW; have Hd := Aside0.mk hd; have HG := Aside0.mk (Good.new (cap := cap) (fs := fs) (ps := []) HCAP.out HH0.out (by decide)); clear hd hB hb) | (go_at_call 12; refine (new_at2 cap none 0 [] none 0 [] _ (Kd.R_reads' (Kd.R_nil (Kd.int .i64) 3 _ 0 (fun _ => True))).2.2 (Nat.le_refl _) (by decide) (Kd.R_reads' (Kd.R_nil (Kd.int .i64) 3 _ 0 (fun _ => True))).2.2 (Nat.le_refl _) (by decide)).mono ?_; rintro e w6 ⟨gf, ψ, Bf, rfl, hB, hd, hb⟩; have HBf := Aside0.mk (Nat.le_trans (below_size HW.out) hB); have AP := Aside0.mk (Apart.fresh Hd.out hd hB); have n_HW := Aside0.mk (below_step HW.out hb); have n_Hd := Aside0.mk (Hd.out.below hb); clear HW Hd; have HW := n_HW; have Hd := n_Hd; clear n_HW n_Hd; have Hf := Aside0.mk hd; have HGF := Aside0.mk (Good.new (cap := cap) (fs := []) (ps := []) HCAP.out (by decide) (by decide)); clear hd hB hb))
    clear d0 e0
    go_upto_region 5 with (fail)
    go_loopw [8, 35] (fun v8 v35 wr => ∃ (i gf Bf : Nat) (S F : DA) (φ ψ : Nat → Tg), i ≤ l.length ∧ v8 = .pointer (some ⟨gf, 0, none⟩) ∧ v35 = .int .i64 i ∧ Aside0 (DAt wr φ B gd S) ∧ Aside0 (DAt wr ψ Bf gf F) ∧ Aside0 (Apart φ ψ) ∧ Aside0 (Good i S) ∧ Aside0 (Good i F) ∧ Aside0 (PlanInv fs S F) ∧ Aside0 (w.heap.size ≤ Bf) ∧ Aside0 (Below w.heap.size w wr)) (fun v8 v35 _ => l.length - (intOf v35).toNat)
    case atStart => exact ⟨0, gf, Bf, _, _, _, _, Nat.zero_le _, rfl, rfl, Hd, Hf, AP, HG, HGF, ⟨⟨rfl, rfl, rfl, rfl, rfl⟩⟩, HBf, HW⟩
    case round =>
      clear Hd Hf AP HG HGF HBf HW
      skip
      obtain ⟨i, gf, Bf, S, F, φ, ψ, hi, rfl, rfl, Hd, Hf, AP, HG, HGF, HPI, HBf, HW⟩ := hrel
      rename World => wr
      by_cases hlt : i < l.length
      · obtain ⟨ad, A3, c3, A4, c4, e0, x0, x1, x2, x3, x4, l3, g3, l4, g4⟩ := at_T32 HL.out (i : Int) (by omega) (by omega)
        subst e0
        have hmem : rd_T32 l (i : Int) ∈ l := by rw [rd32 l i hlt]; exact List.getElem_mem hlt
        simp only [Int.toNat_natCast] at x0 x1 x2 x3 x4
        have hoo := HOKHL.out _ hmem
        obtain ⟨o, ho⟩ : ∃ o, rd_T32 l (i : Int) = o := ⟨_, rfl⟩
        rw [ho] at x0 x1 x2 x3 x4 l3 g3 l4 g4 hoo hmem
        replace x0 := (HW.out.cell (World.block_lt_of_cell? w _ x0)).trans x0
        replace x1 := (HW.out.cell (World.block_lt_of_cell? w _ x1)).trans x1
        replace x2 := (HW.out.cell (World.block_lt_of_cell? w _ x2)).trans x2
        replace x3 := (HW.out.cell (World.block_lt_of_cell? w _ x3)).trans x3
        replace x4 := (HW.out.cell (World.block_lt_of_cell? w _ x4)).trans x4
        have HOO := Aside0.mk hoo
        have HO3 := Aside0.mk l3
        have HG3 := Aside0.mk g3
        have HG4 := Aside0.mk g4
        have HOE := Aside0.mk ho
        clear hoo l3 g3 l4 g4 hmem ho
        have HOK := Aside0.mk (HG.out.ok (by omega))
        have HOKF := Aside0.mk (HGF.out.ok (by omega))
        go_upto_region 7 with (first | ((with_reducible refine gate_dst (N := 10) rfl ?_); refine box_event ?hg (N := 10) ?hd (cs := #[.int .u8 0, .string ByteArray.empty, .string ByteArray.empty, .slice none 0 0, .slice none 0 0]) (t := 32) ?hr ?_; (case hd => rfl); (case hg => rfl); (case hr => first | (go_simp; done) | (go_simp; rfl)); intro g10 hg w3 hbox hb; have HGE := Aside0.mk hg; have BX := Aside0.mk hbox; have HX := Aside0.mk hb; have bz := fun j => blk_frozen hbox j; have bc0 := (blk_cell hbox 0).trans (show _ = some (.int .u8 0) from rfl); have bc1 := (blk_cell hbox 1).trans (show _ = some (.string ByteArray.empty) from rfl); have bc2 := (blk_cell hbox 2).trans (show _ = some (.string ByteArray.empty) from rfl); have bc3 := (blk_cell hbox 3).trans (show _ = some (.slice none 0 0) from rfl); have bc4 := (blk_cell hbox 4).trans (show _ = some (.slice none 0 0) from rfl); clear hbox hb hg))
        have hge := Nat.le_of_eq HGE.out.symm
        have s0 := blk_put (cs' := #[.int .u8 o.f0, .string ByteArray.empty, .string ByteArray.empty, .slice none 0 0, .slice none 0 0]) BX.out 0 (.int .u8 o.f0) rfl
        have h0 := below_set (j := 0) (v := .int .u8 o.f0) HX.out hge
        have s1 := blk_put (cs' := #[.int .u8 o.f0, .string o.f1, .string ByteArray.empty, .slice none 0 0, .slice none 0 0]) s0 1 (.string o.f1) rfl
        have h1 := below_set (j := 1) (v := .string o.f1) h0 hge
        have s2 := blk_put (cs' := #[.int .u8 o.f0, .string o.f1, .string o.f2, .slice none 0 0, .slice none 0 0]) s1 2 (.string o.f2) rfl
        have h2 := below_set (j := 2) (v := .string o.f2) h1 hge
        have s3 := blk_put (cs' := #[.int .u8 o.f0, .string o.f1, .string o.f2, .slice A3 o.f3.length c3, .slice none 0 0]) s2 3 (.slice A3 o.f3.length c3) rfl
        have h3 := below_set (j := 3) (v := .slice A3 o.f3.length c3) h2 hge
        have s4 := blk_put (cs' := #[.int .u8 o.f0, .string o.f1, .string o.f2, .slice A3 o.f3.length c3, .slice A4 o.f4.length c4]) s3 4 (.slice A4 o.f4.length c4) rfl
        have h4 := below_set (j := 4) (v := .slice A4 o.f4.length c4) h3 hge
        generalize (World.setCell (World.setCell (World.setCell (World.setCell (World.setCell w3 ⟨g10, 0, none⟩ (.int .u8 o.f0)) ⟨g10, 1, none⟩ (.string o.f1)) ⟨g10, 2, none⟩ (.string o.f2)) ⟨g10, 3, none⟩ (.slice A3 o.f3.length c3)) ⟨g10, 4, none⟩ (.slice A4 o.f4.length c4)) = w7 at s4 h4 ⊢
        have hno := Hd.out.new_no g10 hge
        clear s0 s1 s2 s3 h0 h1 h2 h3 hge bz bc0 bc1 bc2 bc3 bc4 BX HX HGE
        have o0 := (blk_cell s4 0).trans (show _ = some (.int .u8 o.f0) from rfl)
        have o1 := (blk_cell s4 1).trans (show _ = some (.string o.f1) from rfl)
        have o2 := (blk_cell s4 2).trans (show _ = some (.string o.f2) from rfl)
        have o3 := (blk_cell s4 3).trans (show _ = some (.slice A3 o.f3.length c3) from rfl)
        have o4 := (blk_cell s4 4).trans (show _ = some (.slice A4 o.f4.length c4) from rfl)
        have hb := h4
        have n_HW := Aside0.mk (below_step HW.out hb); have n_Hd := Aside0.mk (Hd.out.below hb); have n_Hf := Aside0.mk (Hf.out.below hb); clear HW Hd Hf; have HW := n_HW; have Hd := n_Hd; have Hf := n_Hf; clear n_HW n_Hd n_Hf
        have VO := Aside0.mk (Stays.mk' (P := fun W => W.heap[g10]? = some (.cells #[.int .u8 o.f0, .string o.f1, .string o.f2, .slice A3 o.f3.length c3, .slice A4 o.f4.length c4] 32 (0, 0))) (fun k => k = g10) (fun k hk => by subst hk; exact ⟨blk_lt s4, hno⟩) (fun W hW => (hW g10 rfl).trans s4))
        clear hno
        clear h4 hb s4
        have HIL : Aside0 (i < l.length ∧ l.length ≤ 60) := ⟨by omega⟩
        obtain ⟨a0, a1⟩ : 0 ≤ o.f0 ∧ o.f0 ≤ 255 := ⟨HOO.out.a0, HOO.out.a1⟩
        by_cases h7 : o.f0 % 7 ≤ 4
        rotate_left
        · have d7 : decide (o.f0 % 7 > 4) = true := decide_eq_true (by omega)
          have e7 : decide (4 < o.f0 % 7) = true := decide_eq_true (by omega)
          clear h7
          go_wp2
          go_roundw
          case rel => exact ⟨i + 1, gf, Bf, _, _, _, _, by omega, rfl, by go_num, Hd, Hf, AP, ⟨HG.out.upto (Nat.le_succ _)⟩, ⟨HGF.out.upto (Nat.le_succ _)⟩, HPI, HBf, HW⟩
          case measure => simp [intOf]; omega
        have d7 : decide (o.f0 % 7 > 4) = false := decide_eq_false (by omega)
        have e7 : decide (4 < o.f0 % 7) = false := decide_eq_false (by omega)
        have H7 := Aside0.mk h7
        clear h7
        go_upto_region 8 with (fail)
        clear d7 e7 o0 o1 o2 o3 o4 a0 a1 hi
        go_upto_region 9 with (first | (go_at_call 29; refine (copy_at gf Bf _ F _ Hf.out HOKF.out.small HOKF.out.fits HOKF.out.nl).mono ?_; rintro e w5 ⟨gn, χ, rfl, hn, hb⟩; have APdn := Aside0.mk (Apart.fresh Hd.out hn (Nat.le_refl _)); have APfn := Aside0.mk (Apart.fresh Hf.out hn (Nat.le_refl _)); have HBn := Aside0.mk (below_size HW.out); have n_HW := Aside0.mk (below_step HW.out hb); have n_Hd := Aside0.mk (Hd.out.below hb); have n_Hf := Aside0.mk (Hf.out.below hb); have n_VO := Aside0.mk (VO.out.below hb); clear HW Hd Hf VO; have HW := n_HW; have Hd := n_Hd; have Hf := n_Hf; have VO := n_VO; clear n_HW n_Hd n_Hf n_VO; have Hn := Aside0.mk hn; clear hn hb))
        rename World => w8
        refine start_ (n := 8) (S := fun w' => w'.heap[g10]? = some (.cells #[.int .u8 o.f0, .string o.f1, .string o.f2, .slice A3 o.f3.length c3, .slice A4 o.f4.length c4] 32 (0, 0))) (ds := [5]) #[false, false, false, false, false, false, false, false] (by kernel_rfl) rfl rfl (VO.out.self) (fun hHeld => ?_)
        refine with_tabW r7_9.tab r7_9.bits (fun HT_ HW_ => ?_)
        refine take_ (i := 0) (N := some 45) (v := ?_) (a' := ?_) #[true, false, false, false, false, false, false, false] rfl rfl (take_ofW HT_.out HW_.out (by kernel_rfl)) (fun _ _ _ h => h) (Or.inl ⟨by rfl, ?_⟩) hHeld ?_ ?_
        rotate_left
        · rintro w' hbq
          have o0 := (blk_cell hbq 0).trans (show _ = some (.int .u8 o.f0) from rfl)
          have o1 := (blk_cell hbq 1).trans (show _ = some (.string o.f1) from rfl)
          have o2 := (blk_cell hbq 2).trans (show _ = some (.string o.f2) from rfl)
          have o3 := (blk_cell hbq 3).trans (show _ = some (.slice A3 o.f3.length c3) from rfl)
          have o4 := (blk_cell hbq 4).trans (show _ = some (.slice A4 o.f4.length c4) from rfl)
          go_simp
          with_reducible rfl
        rotate_left
        · simp only [Act.put, List.setIfInBounds_toArray, List.set_cons_zero, List.set_cons_succ, i64_w, i32_w]
          rfl
        refine pure_ (i := 1) (N := some 46) (v := ?_) (a' := ?_) #[true, true, false, false, false, false, false, false] rfl rfl (any_of HT_.out (by kernel_rfl)) (fun _ _ _ h => h) (Or.inl ⟨by rfl, ?_⟩) ?_ ?_
        rotate_left
        · intro w'
          go_simp
          with_reducible rfl
        rotate_left
        · simp only [Act.put, List.setIfInBounds_toArray, List.set_cons_zero, List.set_cons_succ, i64_w, i32_w]
          rfl
        refine take_ (i := 3) (N := some 48) (v := ?_) (a' := ?_) #[true, true, false, true, false, false, false, false] rfl rfl (take_ofW HT_.out HW_.out (by kernel_rfl)) (fun _ _ _ h => h) (Or.inl ⟨by rfl, ?_⟩) hHeld ?_ ?_
        rotate_left
        · rintro w' hbq
          have o0 := (blk_cell hbq 0).trans (show _ = some (.int .u8 o.f0) from rfl)
          have o1 := (blk_cell hbq 1).trans (show _ = some (.string o.f1) from rfl)
          have o2 := (blk_cell hbq 2).trans (show _ = some (.string o.f2) from rfl)
          have o3 := (blk_cell hbq 3).trans (show _ = some (.slice A3 o.f3.length c3) from rfl)
          have o4 := (blk_cell hbq 4).trans (show _ = some (.slice A4 o.f4.length c4) from rfl)
          go_simp
          with_reducible rfl
        rotate_left
        · simp only [Act.put, List.setIfInBounds_toArray, List.set_cons_zero, List.set_cons_succ, i64_w, i32_w]
          rfl
        refine pure_ (i := 4) (N := some 49) (v := ?_) (a' := ?_) #[true, true, false, true, true, false, false, false] rfl rfl (any_of HT_.out (by kernel_rfl)) (fun _ _ _ h => h) (Or.inl ⟨by rfl, ?_⟩) ?_ ?_
        rotate_left
        · intro w'
          go_simp
          with_reducible rfl
        rotate_left
        · simp only [Act.put, List.setIfInBounds_toArray, List.set_cons_zero, List.set_cons_succ, i64_w, i32_w]
          rfl
        refine one_ (i := 2) (N := some 47) #[true, true, true, true, true, false, false, false] rfl rfl (one_of HT_.out (by kernel_rfl)) (by decide) (fun K hK => ?_)
        refine goes_ Try.func13 (by kernel_rfl) rfl #[.agg #[.int .u8 o.f0, .string o.f1, .string o.f2, .slice A3 o.f3.length c3, .slice A4 o.f4.length c4], .pointer (some ⟨gd, 0, none⟩)] (by rfl) rfl rfl (by first | done | rfl | (simp only [List.map_toArray, List.map_cons, List.map_nil]; rfl)) ?_
        refine (does_op gd B _ S o A3 c3 A4 c4 _ (Hd.out.drewN 1) HOK.out HOO.out HO3.out w (below_drew HW.out) HBd.out HG3.out HG4.out).mono ?_
        rintro e0 w5 ⟨φ', rfl, hd, hs⟩
        refine ⟨_, rfl, ?_⟩
        have n_Hf := Aside0.mk ((Hf.out.drewN 1).beside AP.out hs)
        have n_Hn := Aside0.mk ((Hn.out.drewN 1).beside APdn.out hs)
        have n_AP := Aside0.mk (AP.out.step hs (Hf.out.drewN 1))
        have n_APdn := Aside0.mk (APdn.out.step hs (Hn.out.drewN 1))
        have n_HW := Aside0.mk (step_all (below_drew HW.out) HBd.out (Hd.out.drewN 1) hs)
        have n_VO := ((VO.out.below (below_drew (Below.refl _ _))).step hs).self
        clear Hf Hn AP APdn HW Hd VO
        have Hf := n_Hf
        have Hn := n_Hn
        have AP := n_AP
        have APdn := n_APdn
        have HW := n_HW
        have Hd := Aside0.mk hd
        clear n_Hf n_Hn n_AP n_APdn n_HW hd hs hHeld
        refine hK.out _ _ n_VO (fun hHeld => ?_)
        clear hK K n_VO
        refine norm_ (a' := ?_) ?_ ?_
        rotate_left
        · show Act.put _ (some 47) _ = _
          simp only [Act.put, List.setIfInBounds_toArray, List.set_cons_zero, List.set_cons_succ, i64_w, i32_w]
          rfl
        refine last_ (i := 5) (N := some 50) #[true, true, true, true, true, true, false, false] rfl rfl (one_of HT_.out (by kernel_rfl)) (by decide) (fun K hK => ?_)
        refine goes_ Try.func13 (by kernel_rfl) rfl #[.agg #[.int .u8 o.f0, .string o.f1, .string o.f2, .slice A3 o.f3.length c3, .slice A4 o.f4.length c4], .pointer (some ⟨gn, 0, none⟩)] (by rfl) rfl rfl (by first | done | rfl | (simp only [List.map_toArray, List.map_cons, List.map_nil]; rfl)) ?_
        refine (does_op gn _ _ F o A3 c3 A4 c4 _ Hn.out HOKF.out HOO.out HO3.out w HW.out HBn.out HG3.out HG4.out).mono ?_
        rintro e0 w6 ⟨χ', rfl, hd, hs⟩
        refine ⟨_, rfl, ?_⟩
        have n_Hf := Aside0.mk (Hf.out.beside APfn.out.symm hs)
        have n_Hd := Aside0.mk (Hd.out.beside APdn.out.symm hs)
        have n_APdn := Aside0.mk (APdn.out.symm.step hs Hd.out).symm
        have n_HW := Aside0.mk (step_all HW.out HBn.out Hn.out hs)
        clear Hf Hn Hd APdn APfn HW
        have Hf := n_Hf
        have Hd := n_Hd
        have APdn := n_APdn
        have HW := n_HW
        have Hn := Aside0.mk hd
        clear n_Hf n_Hd n_APdn n_HW hd hs hHeld
        refine hK.out _ _ ?_
        clear hK K
        refine norm_ (a' := ?_) ?_ ?_
        rotate_left
        · show Act.put _ (some 50) _ = _
          simp only [Act.put, List.setIfInBounds_toArray, List.set_cons_zero, List.set_cons_succ, i64_w, i32_w]
          rfl
        refine pure_ (i := 6) (N := some 12) (v := ?_) (a' := ?_) #[true, true, true, true, true, true, true, false] rfl rfl (any_of HT_.out (by kernel_rfl)) (fun _ _ _ h => h) (Or.inl ⟨by rfl, ?_⟩) ?_ ?_
        rotate_left
        · intro w'
          go_simp
          with_reducible rfl
        rotate_left
        · simp only [Act.put, List.setIfInBounds_toArray, List.set_cons_zero, List.set_cons_succ, i64_w, i32_w]
          rfl
        refine pure_ (i := 7) (N := some 13) (v := ?_) (a' := ?_) #[true, true, true, true, true, true, true, true] rfl rfl (any_of HT_.out (by kernel_rfl)) (fun _ _ _ h => h) (Or.inl ⟨by rfl, ?_⟩) ?_ ?_
        rotate_left
        · intro w'
          go_simp
          with_reducible rfl
        rotate_left
        · simp only [Act.put, List.setIfInBounds_toArray, List.set_cons_zero, List.set_cons_succ, i64_w, i32_w]
          rfl
        refine done_ (done_of HT_.out (by kernel_rfl)) ?_
        have HPS := Aside0.mk (plan_step HG.out.rise HPI.out.files HPI.out.room HG.out.fit HPI.out.free HPI.out.parts H7.out HOO.out.a0)
        have HG' := Aside0.mk (HG.out.doesO HOO.out)
        have HGN := Aside0.mk (HGF.out.doesO HOO.out)
        have HRF : Aside0 (fs.any (fun x => x == (doesO S o).1.calls) = isRef S) := ⟨by rw [isRef_any, HPI.out.fails, doesO_calls' S o H7.out HOO.out.a0]⟩
        have HPI2 : Aside0 ((doesO S o).1.fails = fs ∧ (doesO S o).1.parts = [] ∧ (doesO F o).1.fails = [] ∧ (doesO S o).1.room = F.room ∧ (doesO F o).1.room = F.room) := ⟨⟨(doesO_fails S o).trans HPI.out.fails, (doesO_parts S o).trans HPI.out.parts, (doesO_fails F o).trans HPI.out.free, (doesO_room' S o).trans HPI.out.room, doesO_room' F o⟩⟩
        obtain ⟨e1, he1⟩ : ∃ e1, (doesO S o).2 = e1 := ⟨_, rfl⟩
        obtain ⟨f1, hf1⟩ : ∃ f1, (doesO F o).2 = f1 := ⟨_, rfl⟩
        obtain ⟨S', hS'⟩ : ∃ S', (doesO S o).1 = S' := ⟨_, rfl⟩
        obtain ⟨N', hN'⟩ : ∃ N', (doesO F o).1 = N' := ⟨_, rfl⟩
        rw [he1, hf1, hS', hN'] at HPS
        rw [hS'] at HG' Hd HRF HPI2
        rw [hN'] at HGN Hn HPI2
        rw [he1, hf1]
        clear he1 hf1 hS' hN'
        have HOK' := Aside0.mk (HG'.out.ok (by have := HIL.out; omega))
        have HOKN := Aside0.mk (HGN.out.ok (by have := HIL.out; omega))
        go_upto_region 12 with (fail)
        rename World => w9
        obtain ⟨c, hc⟩ : ∃ c, S'.calls = c := ⟨_, rfl⟩
        have HCC := Aside0.mk hc
        rw [hc] at HRF
        clear hc
        go_loopw [14, 53] (fun v14 v53 wx => ∃ j : Nat, j ≤ fs.length ∧ v14 = .bool ((fs.take j).any (fun x => x == c)) ∧ v53 = .int .i64 j ∧ w9 = wx) (fun v14 v53 _ => fs.length - (intOf v53).toNat)
        case atStart => exact ⟨0, Nat.zero_le _, rfl, rfl, rfl⟩
        case round =>
          obtain ⟨j, hj, rfl, rfl, rfl⟩ := hrel
          by_cases hltj : j < fs.length
          · have hat := any_take (fun x => x == c) fs j hltj
            obtain ⟨pb, hpb⟩ : ∃ pb, (fs.take j).any (fun x => x == c) = pb := ⟨_, rfl⟩
            rw [hpb] at hat ⊢
            have HAT := Aside0.mk hat
            clear hat hpb
            have hc3 := Kd.C_below HF0.out HW.out
            obtain ⟨ad4, e4, hk4⟩ := Kd.at_int hc3 (j : Int) (by omega) (by omega)
            subst e4
            have hrd : rd fs (j : Int) = fs.getD j 0 := by unfold rd; rw [Int.toNat_natCast]
            rw [hrd] at hk4
            simp only [Int.toNat_natCast] at hk4
            obtain ⟨kv, hkv⟩ : ∃ kv, fs.getD j 0 = kv := ⟨_, rfl⟩
            rw [hkv] at hk4 HAT
            clear hc3 hrd hkv
            cases pb with
            | true =>
              go_wp2
              go_roundw
              case rel => exact ⟨j + 1, by omega, by rw [HAT.out, Bool.true_or], by go_num, by first | rfl | trivial⟩
              case measure => simp [intOf]; omega
            | false =>
              obtain ⟨kb, hkb⟩ : ∃ kb, (kv == c) = kb := ⟨_, rfl⟩
              rw [Bool.false_or, hkb] at HAT
              go_wp2_with (first | (go_at_call 15; refine (calls_at gd B _ S' _ Hd.out).mono ?_; rw [HCC.out]; rintro e w5 ⟨rfl, rfl⟩))
              go_roundw
              case rel => exact ⟨j + 1, by omega, by rw [HAT.out], by go_num, by first | rfl | trivial⟩
              case measure => simp [intOf]; omega
          · obtain rfl : j = fs.length := by omega
            rw [List.take_length, HRF.out]
            clear hltj hj HRF
            obtain ⟨pl, hpl⟩ : ∃ pl, isRef S = pl := ⟨_, rfl⟩
            rw [hpl] at HPS ⊢
            clear hpl
            by_cases he : e1 = 12
            · subst he
              obtain ⟨hp1, hp2, hp3⟩ := HPS.out.1 rfl
              subst hp1
              have HFE : Aside0 (S'.files = F.files) := ⟨hp3.trans HPI.out.files⟩
              have HQ1 : Aside0 True := ⟨trivial⟩
              clear Hn HGN HOKN APdn HPS hp3 HG HOK
              rcases hp2 with rfl | rfl
              · go_wp2_with (first | (go_at_call 14; have hq := HQ1.out; refine (files_at gd B _ S' _ Hd.out HOK'.out HG'.out.named).mono ?_; rintro e w5 ⟨m1, n_m1, rfl, ho, hm, hb, hnb⟩; have M1 := Aside0.mk ho; have n_HW := Aside0.mk (below_step HW.out hb); have n_Hd := Aside0.mk (Hd.out.below hb); have n_Hx := Aside0.mk (Hf.out.below hb); clear HW Hd Hf HQ1; have HW := n_HW; have Hd := n_Hd; have Hf := n_Hx; clear n_HW n_Hd n_Hx ho hm hb hnb hq) | (go_at_call 14; refine (files_at gf Bf _ F _ Hf.out HOKF.out HGF.out.named).mono ?_; rintro e w5 ⟨m2, n_m2, rfl, ho, hm, hb, hnb⟩; have M2 := Aside0.mk ho; have n_HW := Aside0.mk (below_step HW.out hb); have n_Hd := Aside0.mk (Hd.out.below hb); have n_Hx := Aside0.mk (Hf.out.below hb); have n_M1 := Aside0.mk (M1.out.move (hb.block m1 M1.out.lt)); clear HW Hd Hf M1; have HW := n_HW; have Hd := n_Hd; have Hf := n_Hx; have M1 := n_M1; clear n_HW n_Hd n_Hx n_M1 ho hm hb hnb) | (go_at_call 18; refine (same_at m1 m2 _ _ _ _ _ M1.out M2.out (by rw [HFE.out]) (filesOf_vals _)).mono ?_; rintro e w5 ⟨rfl, hb⟩; have n_HW := Aside0.mk (below_step HW.out hb); have n_Hd := Aside0.mk (Hd.out.below hb); have n_Hx := Aside0.mk (Hf.out.below hb); clear HW Hd Hf; have HW := n_HW; have Hd := n_Hd; have Hf := n_Hx; clear n_HW n_Hd n_Hx hb))
                go_roundw
                case rel => exact ⟨i + 1, gf, Bf, S', F, _, _, by have := HIL.out; omega, rfl, by go_num, Hd, Hf, AP, HG', ⟨HGF.out.upto (Nat.le_succ _)⟩, ⟨⟨HPI2.out.1, HPI2.out.2.1, HPI.out.free, HFE.out, HPI2.out.2.2.2.1⟩⟩, HBf, HW⟩
                case measure => have := HIL.out; simp [intOf]; omega
              · go_wp2_with (first | (go_at_call 14; have hq := HQ1.out; refine (files_at gd B _ S' _ Hd.out HOK'.out HG'.out.named).mono ?_; rintro e w5 ⟨m1, n_m1, rfl, ho, hm, hb, hnb⟩; have M1 := Aside0.mk ho; have n_HW := Aside0.mk (below_step HW.out hb); have n_Hd := Aside0.mk (Hd.out.below hb); have n_Hx := Aside0.mk (Hf.out.below hb); clear HW Hd Hf HQ1; have HW := n_HW; have Hd := n_Hd; have Hf := n_Hx; clear n_HW n_Hd n_Hx ho hm hb hnb hq) | (go_at_call 14; refine (files_at gf Bf _ F _ Hf.out HOKF.out HGF.out.named).mono ?_; rintro e w5 ⟨m2, n_m2, rfl, ho, hm, hb, hnb⟩; have M2 := Aside0.mk ho; have n_HW := Aside0.mk (below_step HW.out hb); have n_Hd := Aside0.mk (Hd.out.below hb); have n_Hx := Aside0.mk (Hf.out.below hb); have n_M1 := Aside0.mk (M1.out.move (hb.block m1 M1.out.lt)); clear HW Hd Hf M1; have HW := n_HW; have Hd := n_Hd; have Hf := n_Hx; have M1 := n_M1; clear n_HW n_Hd n_Hx n_M1 ho hm hb hnb) | (go_at_call 18; refine (same_at m1 m2 _ _ _ _ _ M1.out M2.out (by rw [HFE.out]) (filesOf_vals _)).mono ?_; rintro e w5 ⟨rfl, hb⟩; have n_HW := Aside0.mk (below_step HW.out hb); have n_Hd := Aside0.mk (Hd.out.below hb); have n_Hx := Aside0.mk (Hf.out.below hb); clear HW Hd Hf; have HW := n_HW; have Hd := n_Hd; have Hf := n_Hx; clear n_HW n_Hd n_Hx hb))
                go_roundw
                case rel => exact ⟨i + 1, gf, Bf, S', F, _, _, by have := HIL.out; omega, rfl, by go_num, Hd, Hf, AP, HG', ⟨HGF.out.upto (Nat.le_succ _)⟩, ⟨⟨HPI2.out.1, HPI2.out.2.1, HPI.out.free, HFE.out, HPI2.out.2.2.2.1⟩⟩, HBf, HW⟩
                case measure => have := HIL.out; simp [intOf]; omega
            · obtain ⟨hp1, hp2, hp3⟩ := HPS.out.2.1 he
              subst hp1
              have HFE : Aside0 (S'.files = N'.files) := ⟨hp3⟩
              have HQ1 : Aside0 True := ⟨trivial⟩
              have x12 : (e1 == 12) = false := beq_eq_false_iff_ne.2 he
              clear Hf HGF HOKF AP HPS hp3 he HG HOK HBf
              cases pl with
              | false =>
                clear hp2
                go_wp2_with (first | (go_at_call 14; have hq := HQ1.out; refine (files_at gd B _ S' _ Hd.out HOK'.out HG'.out.named).mono ?_; rintro e w5 ⟨m1, n_m1, rfl, ho, hm, hb, hnb⟩; have M1 := Aside0.mk ho; have n_HW := Aside0.mk (below_step HW.out hb); have n_Hd := Aside0.mk (Hd.out.below hb); have n_Hx := Aside0.mk (Hn.out.below hb); clear HW Hd Hn HQ1; have HW := n_HW; have Hd := n_Hd; have Hn := n_Hx; clear n_HW n_Hd n_Hx ho hm hb hnb hq) | (go_at_call 14; refine (files_at gn _ _ N' _ Hn.out HOKN.out HGN.out.named).mono ?_; rintro e w5 ⟨m2, n_m2, rfl, ho, hm, hb, hnb⟩; have M2 := Aside0.mk ho; have n_HW := Aside0.mk (below_step HW.out hb); have n_Hd := Aside0.mk (Hd.out.below hb); have n_Hx := Aside0.mk (Hn.out.below hb); have n_M1 := Aside0.mk (M1.out.move (hb.block m1 M1.out.lt)); clear HW Hd Hn M1; have HW := n_HW; have Hd := n_Hd; have Hn := n_Hx; have M1 := n_M1; clear n_HW n_Hd n_Hx n_M1 ho hm hb hnb) | (go_at_call 18; refine (same_at m1 m2 _ _ _ _ _ M1.out M2.out (by rw [HFE.out]) (filesOf_vals _)).mono ?_; rintro e w5 ⟨rfl, hb⟩; have n_HW := Aside0.mk (below_step HW.out hb); have n_Hd := Aside0.mk (Hd.out.below hb); have n_Hx := Aside0.mk (Hn.out.below hb); clear HW Hd Hn; have HW := n_HW; have Hd := n_Hd; have Hn := n_Hx; clear n_HW n_Hd n_Hx hb))
                go_roundw
                case rel => exact ⟨i + 1, gn, _, S', N', _, _, by have := HIL.out; omega, rfl, by go_num, Hd, Hn, APdn, HG', HGN, ⟨⟨HPI2.out.1, HPI2.out.2.1, HPI2.out.2.2.1, HFE.out, HPI2.out.2.2.2.1.trans HPI2.out.2.2.2.2.symm⟩⟩, HBn, HW⟩
                case measure => have := HIL.out; simp [intOf]; omega
              | true =>
                obtain ⟨q1, q2⟩ := hp2 rfl
                have x0 : (e1 == 0) = false := beq_eq_false_iff_ne.2 q1
                have x13 : (e1 == 13) = false := beq_eq_false_iff_ne.2 q2
                clear hp2 q1 q2
                go_wp2_with (first | (go_at_call 14; have hq := HQ1.out; refine (files_at gd B _ S' _ Hd.out HOK'.out HG'.out.named).mono ?_; rintro e w5 ⟨m1, n_m1, rfl, ho, hm, hb, hnb⟩; have M1 := Aside0.mk ho; have n_HW := Aside0.mk (below_step HW.out hb); have n_Hd := Aside0.mk (Hd.out.below hb); have n_Hx := Aside0.mk (Hn.out.below hb); clear HW Hd Hn HQ1; have HW := n_HW; have Hd := n_Hd; have Hn := n_Hx; clear n_HW n_Hd n_Hx ho hm hb hnb hq) | (go_at_call 14; refine (files_at gn _ _ N' _ Hn.out HOKN.out HGN.out.named).mono ?_; rintro e w5 ⟨m2, n_m2, rfl, ho, hm, hb, hnb⟩; have M2 := Aside0.mk ho; have n_HW := Aside0.mk (below_step HW.out hb); have n_Hd := Aside0.mk (Hd.out.below hb); have n_Hx := Aside0.mk (Hn.out.below hb); have n_M1 := Aside0.mk (M1.out.move (hb.block m1 M1.out.lt)); clear HW Hd Hn M1; have HW := n_HW; have Hd := n_Hd; have Hn := n_Hx; have M1 := n_M1; clear n_HW n_Hd n_Hx n_M1 ho hm hb hnb) | (go_at_call 18; refine (same_at m1 m2 _ _ _ _ _ M1.out M2.out (by rw [HFE.out]) (filesOf_vals _)).mono ?_; rintro e w5 ⟨rfl, hb⟩; have n_HW := Aside0.mk (below_step HW.out hb); have n_Hd := Aside0.mk (Hd.out.below hb); have n_Hx := Aside0.mk (Hn.out.below hb); clear HW Hd Hn; have HW := n_HW; have Hd := n_Hd; have Hn := n_Hx; clear n_HW n_Hd n_Hx hb))
                go_roundw
                case rel => exact ⟨i + 1, gn, _, S', N', _, _, by have := HIL.out; omega, rfl, by go_num, Hd, Hn, APdn, HG', HGN, ⟨⟨HPI2.out.1, HPI2.out.2.1, HPI2.out.2.2.1, HFE.out, HPI2.out.2.2.2.1.trans HPI2.out.2.2.2.2.symm⟩⟩, HBn, HW⟩
                case measure => have := HIL.out; simp [intOf]; omega
      · obtain rfl : i = l.length := by omega
        go_wp2_with (first | (go_at_call 11; refine (awake_at _).mono ?_; rintro e w5 ⟨rfl, hb⟩; have n_HW := Aside0.mk (below_step HW.out hb); clear HW; have HW := n_HW; clear n_HW; clear hb))
        go_ret
        exact ⟨rfl, HW.out⟩
end Go.Proofs.Yteibdmpjlpcgbaa.XDisk
