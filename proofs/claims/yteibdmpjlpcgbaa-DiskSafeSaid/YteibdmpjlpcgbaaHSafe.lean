/- DiskSafe: what is synced is there behind any crash. -/
import Derived.Test.YteibdmpjlpcgbaaHLaw
namespace Go.Proofs.Yteibdmpjlpcgbaa.XDisk
open Go Go.RowKit Go.Proofs.YteibdmpjlpcgbaaW.PrintWords Go.Proofs.YteibdmpjlpcgbaaW.PrintLast Go.Proofs.YteibdmpjlpcgbaaW.PrintMore
open Go.Proofs.Yteibdmpjlpcgbaa
set_option linter.unusedVariables false
set_option linter.unusedSimpArgs false
/-- A crash of what has no loose bytes. -/
def Tight (l : List (Nm × FA)) : Prop := ∀ p ∈ l, p.2.safe = p.2.b.length
theorem crashN_tight : ∀ (m : Nat) (ks : List Int) (l : List (Nm × FA)), Sane l → l.length ≤ m → Tight (crashN ks m l)
  | 0, ks, l, _, h => by
    obtain rfl : l = [] := List.eq_nil_of_length_eq_zero (by omega)
    intro p hp
    cases hp
  | m + 1, ks, [], _, _ => fun p hp => by cases hp
  | m + 1, ks, q :: l, hs, h => by
    intro p hp
    rcases List.mem_cons.1 hp with rfl | hp
    · have := crashF_len (ks.headD 0) (hs q List.mem_cons_self)
      exact this.1.symm
    · exact crashN_tight m ks.tail l (fun r hr => hs r (List.mem_cons_of_mem _ hr)) (by simp at h; omega) p hp
theorem crashN_nil : ∀ (m : Nat) (l : List (Nm × FA)), Tight l → crashN [] m l = l
  | 0, _, _ => rfl
  | _ + 1, [], _ => rfl
  | m + 1, p :: l, h => by
    have h1 := h p List.mem_cons_self
    have h2 : crashF 0 p.2 = p.2 := by
      obtain ⟨n, ⟨b, s⟩⟩ := p
      have h1 : s = b.length := h1
      subst h1
      unfold crashF keepN
      simp
    show (p.1, crashF 0 p.2) :: crashN [] m l = p :: l
    rw [h2, crashN_nil m l (fun q hq => h q (List.mem_cons_of_mem _ hq))]
theorem crash_twice {k : Nat} {S : DA} (h : Good k S) (ks : List Int) : crashP (crashP S ks) [] = crashP S ks := by
  have h1 := crashN_tight S.files.length ks S.files h.sane (Nat.le_refl _)
  have h2 := len_of_names (crashN_names S.files.length ks S.files)
  unfold crashP
  simp only
  rw [crashN_nil _ _ h1]
theorem extract_nums (xs : List Int) (k : Nat) (hk : k ≤ xs.length) : (strOfNums xs).extract 0 k = strOfNums (xs.take k) := by
  refine ByteArray.ext ?_
  rw [ByteArray.data_extract]
  unfold strOfNums
  refine Array.ext' ?_
  simp [List.map_take]
def r3_18.T : Bool × List (List Nat × List Nat) := (true, [([], []), ([], []), ([0, 1], [0, 1]), ([], []), ([], []), ([3, 4], [3, 4]), ([], []), ([], []), ([6, 2, 0, 1, 2, 6, 7], [2, 6]), ([7, 5, 8, 0, 1, 2, 3, 4, 5, 6, 7, 8], [5, 7])])
def r3_18.B : List Nat := [0, 0, 3, 0, 0, 24, 0, 0, 199, 511]
theorem r3_18.tab : rtab .any (opsOf Try.f3 18) = r3_18.T := by kernel_rfl
theorem r3_18.bits : waitsOk r3_18.T.2 r3_18.B = true := by kernel_rfl
attribute [local go_sem] max_run min_run
set_option maxHeartbeats 16000000 in
set_option maxRecDepth 100000 in
theorem safe_walk (cap : Int) (A0 : Option Addr) (c0 : Nat) (fs : List Int) (A1 : Option Addr) (c1 : Nat) (ps : List Int) (A2 : Option Addr) (c2 : Nat) (l : List S32) (A3 : Option Addr) (c3 : Nat) (ks : List Int) (w : World) (hcap : cap ≤ 9223372036854775807) (hr0 : Kd.C (Kd.int .i64) w A0 fs.length fs) (hc0 : fs.length ≤ c0) (hr1 : Kd.C (Kd.int .i64) w A1 ps.length ps) (hc1 : ps.length ≤ c1) (hr2 : Kd.C k32 w A2 l.length l) (hc2 : l.length ≤ c2) (hl : l.length ≤ 9223372036854775807) (hop : ∀ o ∈ l, 0 ≤ o.f0 ∧ o.f0 ≤ 255) (hr3 : Kd.C (Kd.int .i64) w A3 ks.length ks) :
    Calls Try.prog 3 #[.int .i64 cap, .agg #[.slice A0 fs.length c0, .slice A1 ps.length c1], .slice A2 l.length c2, .slice A3 ks.length c3] w fun e w' => e = .returned (.bool true) ∧ Below w.heap.size w w' := by
  have HF0 := Aside0.mk hr0
  have HF1 := Aside0.mk hr1
  have HL := Aside0.mk hr2
  have HK := Aside0.mk hr3
  have HC0 := Aside0.mk hc0
  have HC1 := Aside0.mk hc1
  have HLC := Aside0.mk hc2
  have HLM : Aside0 (l.length ≤ 9223372036854775807) := ⟨hl⟩
  have hkm : ks.length ≤ 9223372036854775807 := hr3.2.1
  have hfm : fs.length ≤ 9223372036854775807 := hr0.2.1
  have hpm : ps.length ≤ 9223372036854775807 := hr1.2.1
  have HCAP := Aside0.mk hcap
  have HOA := Aside0.mk hop
  have HW := Aside0.mk (Below.refl w.heap.size w)
  clear hr0 hr1 hr2 hr3 hc0 hc1 hc2 hcap hop
  obtain ⟨fb, hfb⟩ : ∃ fb, fewP l 60 = fb := ⟨_, rfl⟩
  have HFB := Aside0.mk hfb
  cases fb with
  | false =>
    clear hfb
    go_enter Try.func3, Try.ntmps3
    go_wp2_with (first | ((with_reducible refine gate_dst (N := 5) rfl ?_); refine box_event ?hg (N := 5) ?hd (cs := #[.slice A0 fs.length c0, .slice A1 ps.length c1]) (t := 24) ?hr ?_; (case hd => rfl); (case hg => rfl); (case hr => first | (go_simp; done) | (go_simp; rfl)); intro gp hg w3 hbox hb; have BP := Aside0.mk hbox; have kp0 := blk_c' hbox 0 rfl; have kp1 := blk_c' hbox 1 rfl; have n_HW := Aside0.mk (below_step HW.out hb); clear HW; have HW := n_HW; clear n_HW; clear hg hbox hb) | (go_at_call 10; refine (few_at A2 c2 l 60 _ (Kd.C_below HL.out HW.out) HLC.out HLM.out).mono ?_; rw [HFB.out]; rintro e w5 ⟨rfl, hb⟩; have n_HW := Aside0.mk (below_step HW.out hb); have n_BP := Aside0.mk (blk_below BP.out hb); clear HW BP; have HW := n_HW; have BP := n_BP; clear n_HW n_BP; clear hb; clear kp0 kp1; have kp0 := blk_c' BP.out 0 rfl; have kp1 := blk_c' BP.out 1 rfl) | (go_at_call 11; refine (awake_at _).mono ?_; rintro e w5 ⟨rfl, hb⟩; have n_HW := Aside0.mk (below_step HW.out hb); have n_BP := Aside0.mk (blk_below BP.out hb); clear HW BP; have HW := n_HW; have BP := n_BP; clear n_HW n_BP; clear hb))
    go_ret
    exact ⟨rfl, HW.out⟩
  | true =>
    by_cases h0 : fs.length ≤ 60
    rotate_left
    · have d0 : decide ((fs.length : Int) > 60) = true := decide_eq_true (by omega)
      have e0 : decide ((60 : Int) < (fs.length : Int)) = true := decide_eq_true (by omega)
      clear hfb
      go_enter Try.func3, Try.ntmps3
      go_wp2_with (first | ((with_reducible refine gate_dst (N := 5) rfl ?_); refine box_event ?hg (N := 5) ?hd (cs := #[.slice A0 fs.length c0, .slice A1 ps.length c1]) (t := 24) ?hr ?_; (case hd => rfl); (case hg => rfl); (case hr => first | (go_simp; done) | (go_simp; rfl)); intro gp hg w3 hbox hb; have BP := Aside0.mk hbox; have kp0 := blk_c' hbox 0 rfl; have kp1 := blk_c' hbox 1 rfl; have n_HW := Aside0.mk (below_step HW.out hb); clear HW; have HW := n_HW; clear n_HW; clear hg hbox hb) | (go_at_call 10; refine (few_at A2 c2 l 60 _ (Kd.C_below HL.out HW.out) HLC.out HLM.out).mono ?_; rw [HFB.out]; rintro e w5 ⟨rfl, hb⟩; have n_HW := Aside0.mk (below_step HW.out hb); have n_BP := Aside0.mk (blk_below BP.out hb); clear HW BP; have HW := n_HW; have BP := n_BP; clear n_HW n_BP; clear hb; clear kp0 kp1; have kp0 := blk_c' BP.out 0 rfl; have kp1 := blk_c' BP.out 1 rfl) | (go_at_call 11; refine (awake_at _).mono ?_; rintro e w5 ⟨rfl, hb⟩; have n_HW := Aside0.mk (below_step HW.out hb); have n_BP := Aside0.mk (blk_below BP.out hb); clear HW BP; have HW := n_HW; have BP := n_BP; clear n_HW n_BP; clear hb))
      go_ret
      exact ⟨rfl, HW.out⟩
    have d0 : decide ((fs.length : Int) > 60) = false := decide_eq_false (by omega)
    have e0 : decide ((60 : Int) < (fs.length : Int)) = false := decide_eq_false (by omega)
    by_cases h1 : ps.length ≤ 60
    rotate_left
    · have d1 : decide ((ps.length : Int) > 60) = true := decide_eq_true (by omega)
      have e1 : decide ((60 : Int) < (ps.length : Int)) = true := decide_eq_true (by omega)
      clear hfb
      go_enter Try.func3, Try.ntmps3
      go_wp2_with (first | ((with_reducible refine gate_dst (N := 5) rfl ?_); refine box_event ?hg (N := 5) ?hd (cs := #[.slice A0 fs.length c0, .slice A1 ps.length c1]) (t := 24) ?hr ?_; (case hd => rfl); (case hg => rfl); (case hr => first | (go_simp; done) | (go_simp; rfl)); intro gp hg w3 hbox hb; have BP := Aside0.mk hbox; have kp0 := blk_c' hbox 0 rfl; have kp1 := blk_c' hbox 1 rfl; have n_HW := Aside0.mk (below_step HW.out hb); clear HW; have HW := n_HW; clear n_HW; clear hg hbox hb) | (go_at_call 10; refine (few_at A2 c2 l 60 _ (Kd.C_below HL.out HW.out) HLC.out HLM.out).mono ?_; rw [HFB.out]; rintro e w5 ⟨rfl, hb⟩; have n_HW := Aside0.mk (below_step HW.out hb); have n_BP := Aside0.mk (blk_below BP.out hb); clear HW BP; have HW := n_HW; have BP := n_BP; clear n_HW n_BP; clear hb; clear kp0 kp1; have kp0 := blk_c' BP.out 0 rfl; have kp1 := blk_c' BP.out 1 rfl) | (go_at_call 11; refine (awake_at _).mono ?_; rintro e w5 ⟨rfl, hb⟩; have n_HW := Aside0.mk (below_step HW.out hb); have n_BP := Aside0.mk (blk_below BP.out hb); clear HW BP; have HW := n_HW; have BP := n_BP; clear n_HW n_BP; clear hb))
      go_ret
      exact ⟨rfl, HW.out⟩
    have d1 : decide ((ps.length : Int) > 60) = false := decide_eq_false (by omega)
    have e1 : decide ((60 : Int) < (ps.length : Int)) = false := decide_eq_false (by omega)
    by_cases h3 : ks.length ≤ 60
    rotate_left
    · have d3 : decide ((ks.length : Int) > 60) = true := decide_eq_true (by omega)
      have e3 : decide ((60 : Int) < (ks.length : Int)) = true := decide_eq_true (by omega)
      clear hfb
      go_enter Try.func3, Try.ntmps3
      go_wp2_with (first | ((with_reducible refine gate_dst (N := 5) rfl ?_); refine box_event ?hg (N := 5) ?hd (cs := #[.slice A0 fs.length c0, .slice A1 ps.length c1]) (t := 24) ?hr ?_; (case hd => rfl); (case hg => rfl); (case hr => first | (go_simp; done) | (go_simp; rfl)); intro gp hg w3 hbox hb; have BP := Aside0.mk hbox; have kp0 := blk_c' hbox 0 rfl; have kp1 := blk_c' hbox 1 rfl; have n_HW := Aside0.mk (below_step HW.out hb); clear HW; have HW := n_HW; clear n_HW; clear hg hbox hb) | (go_at_call 10; refine (few_at A2 c2 l 60 _ (Kd.C_below HL.out HW.out) HLC.out HLM.out).mono ?_; rw [HFB.out]; rintro e w5 ⟨rfl, hb⟩; have n_HW := Aside0.mk (below_step HW.out hb); have n_BP := Aside0.mk (blk_below BP.out hb); clear HW BP; have HW := n_HW; have BP := n_BP; clear n_HW n_BP; clear hb; clear kp0 kp1; have kp0 := blk_c' BP.out 0 rfl; have kp1 := blk_c' BP.out 1 rfl) | (go_at_call 11; refine (awake_at _).mono ?_; rintro e w5 ⟨rfl, hb⟩; have n_HW := Aside0.mk (below_step HW.out hb); have n_BP := Aside0.mk (blk_below BP.out hb); clear HW BP; have HW := n_HW; have BP := n_BP; clear n_HW n_BP; clear hb))
      go_ret
      exact ⟨rfl, HW.out⟩
    have d3 : decide ((ks.length : Int) > 60) = false := decide_eq_false (by omega)
    have e3 : decide ((60 : Int) < (ks.length : Int)) = false := decide_eq_false (by omega)
    obtain ⟨hsm, hl60⟩ := few_all hfb
    have HOKHL : Aside0 (∀ o ∈ l, OpOk o) := ⟨fun o ho => ⟨(HOA.out o ho).1, (HOA.out o ho).2, (hsm o ho).1, (hsm o ho).2.1, (hsm o ho).2.2.1, (hsm o ho).2.2.2⟩⟩
    clear hsm hfb
    have HH0 := Aside0.mk h0
    have HH1 := Aside0.mk h1
    clear h0 h1 hfm hpm
    go_enter Try.func3, Try.ntmps3
    go_upto_region 3 with (first | ((with_reducible refine gate_dst (N := 5) rfl ?_); refine box_event ?hg (N := 5) ?hd (cs := #[.slice A0 fs.length c0, .slice A1 ps.length c1]) (t := 24) ?hr ?_; (case hd => rfl); (case hg => rfl); (case hr => first | (go_simp; done) | (go_simp; rfl)); intro gp hg w3 hbox hb; have BP := Aside0.mk hbox; have kp0 := blk_c' hbox 0 rfl; have kp1 := blk_c' hbox 1 rfl; have n_HW := Aside0.mk (below_step HW.out hb); clear HW; have HW := n_HW; clear n_HW; clear hg hbox hb) | (go_at_call 10; refine (few_at A2 c2 l 60 _ (Kd.C_below HL.out HW.out) HLC.out HLM.out).mono ?_; rw [HFB.out]; rintro e w5 ⟨rfl, hb⟩; have n_HW := Aside0.mk (below_step HW.out hb); have n_BP := Aside0.mk (blk_below BP.out hb); clear HW BP; have HW := n_HW; have BP := n_BP; clear n_HW n_BP; clear hb; clear kp0 kp1; have kp0 := blk_c' BP.out 0 rfl; have kp1 := blk_c' BP.out 1 rfl))
    go_upto_region 4 with (go_at_call 12; refine (new_at2 cap A0 c0 fs A1 c1 ps _ (Kd.C_below HF0.out HW.out) HC0.out HH0.out (Kd.C_below HF1.out HW.out) HC1.out HH1.out).mono ?_; rintro e w5 ⟨gd, φ, B, rfl, hB, hd, hb⟩; have HBd := Aside0.mk (Nat.le_trans (below_size HW.out) hB); have n_HW := Aside0.mk (below_step HW.out hb); clear HW; have HW := n_HW; clear n_HW; have Hd := Aside0.mk hd; have HG := Aside0.mk (Good.new HCAP.out HH0.out HH1.out); clear hd hB hb)
    clear BP kp0 kp1 d0 d1 d3 e0 e1 e3
    rename World => w4
    go_upto_region 5 with (fail)
    go_loopw [47] (fun v47 wr => ∃ (i : Nat) (S : DA) (φ : Nat → Tg), i ≤ l.length ∧ v47 = .int .i64 i ∧ Aside0 (DAt wr φ B gd S) ∧ Aside0 (Good i S) ∧ Aside0 (Below w.heap.size w wr)) (fun v47 _ => l.length - (intOf v47).toNat)
    case atStart => exact ⟨0, _, _, Nat.zero_le _, rfl, Hd, HG, HW⟩
    case round =>
      clear Hd HG HW
      obtain ⟨i, S, φ, hi, rfl, Hd, HG, HW⟩ := hrel
      rename World => wr
      by_cases hlt : i < l.length
      · obtain ⟨ad, A3, c3, A4, c4, e0, x0, x1, x2, x3, x4, l3, g3, l4, g4⟩ := at_T32 HL.out (i : Int) (by omega) (by omega)
        subst e0
        have hmem : rd_T32 l (i : Int) ∈ l := by rw [rd32 l i hlt]; exact List.getElem_mem hlt
        simp only [Int.toNat_natCast] at x0 x1 x2 x3 x4
        have hoo := HOKHL.out _ hmem
        obtain ⟨o, ho⟩ : ∃ o, rd_T32 l (i : Int) = o := ⟨_, rfl⟩
        rw [ho] at x0 x1 x2 x3 x4 l3 g3 l4 g4 hoo hmem
        replace x0 := (HW.out.cell (World.block_lt_of_cell? w _ x0)).trans x0
        replace x1 := (HW.out.cell (World.block_lt_of_cell? w _ x1)).trans x1
        replace x2 := (HW.out.cell (World.block_lt_of_cell? w _ x2)).trans x2
        replace x3 := (HW.out.cell (World.block_lt_of_cell? w _ x3)).trans x3
        replace x4 := (HW.out.cell (World.block_lt_of_cell? w _ x4)).trans x4
        have HOO := Aside0.mk hoo
        have HO3 := Aside0.mk l3
        have HG3 := Aside0.mk g3
        have HG4 := Aside0.mk g4
        have HOE := Aside0.mk ho
        clear hoo l3 g3 l4 g4 hmem ho
        have HOK := Aside0.mk (HG.out.ok (by omega))
        go_upto_region 7 with (first | ((with_reducible refine gate_dst (N := 11) rfl ?_); refine box_event ?hg (N := 11) ?hd (cs := #[.int .u8 0, .string ByteArray.empty, .string ByteArray.empty, .slice none 0 0, .slice none 0 0]) (t := 32) ?hr ?_; (case hd => rfl); (case hg => rfl); (case hr => first | (go_simp; done) | (go_simp; rfl)); intro g11 hg w3 hbox hb; have HGE := Aside0.mk hg; have BX := Aside0.mk hbox; have HX := Aside0.mk hb; have bz := fun j => blk_frozen hbox j; have bc0 := (blk_cell hbox 0).trans (show _ = some (.int .u8 0) from rfl); have bc1 := (blk_cell hbox 1).trans (show _ = some (.string ByteArray.empty) from rfl); have bc2 := (blk_cell hbox 2).trans (show _ = some (.string ByteArray.empty) from rfl); have bc3 := (blk_cell hbox 3).trans (show _ = some (.slice none 0 0) from rfl); have bc4 := (blk_cell hbox 4).trans (show _ = some (.slice none 0 0) from rfl); clear hbox hb hg))
        have hge := Nat.le_of_eq HGE.out.symm
        have s0 := blk_put (cs' := #[.int .u8 o.f0, .string ByteArray.empty, .string ByteArray.empty, .slice none 0 0, .slice none 0 0]) BX.out 0 (.int .u8 o.f0) rfl
        have h0 := below_set (j := 0) (v := .int .u8 o.f0) HX.out hge
        have s1 := blk_put (cs' := #[.int .u8 o.f0, .string o.f1, .string ByteArray.empty, .slice none 0 0, .slice none 0 0]) s0 1 (.string o.f1) rfl
        have h1 := below_set (j := 1) (v := .string o.f1) h0 hge
        have s2 := blk_put (cs' := #[.int .u8 o.f0, .string o.f1, .string o.f2, .slice none 0 0, .slice none 0 0]) s1 2 (.string o.f2) rfl
        have h2 := below_set (j := 2) (v := .string o.f2) h1 hge
        have s3 := blk_put (cs' := #[.int .u8 o.f0, .string o.f1, .string o.f2, .slice A3 o.f3.length c3, .slice none 0 0]) s2 3 (.slice A3 o.f3.length c3) rfl
        have h3 := below_set (j := 3) (v := .slice A3 o.f3.length c3) h2 hge
        have s4 := blk_put (cs' := #[.int .u8 o.f0, .string o.f1, .string o.f2, .slice A3 o.f3.length c3, .slice A4 o.f4.length c4]) s3 4 (.slice A4 o.f4.length c4) rfl
        have h4 := below_set (j := 4) (v := .slice A4 o.f4.length c4) h3 hge
        generalize (World.setCell (World.setCell (World.setCell (World.setCell (World.setCell w3 ⟨g11, 0, none⟩ (.int .u8 o.f0)) ⟨g11, 1, none⟩ (.string o.f1)) ⟨g11, 2, none⟩ (.string o.f2)) ⟨g11, 3, none⟩ (.slice A3 o.f3.length c3)) ⟨g11, 4, none⟩ (.slice A4 o.f4.length c4)) = w7 at s4 h4 ⊢
        clear s0 s1 s2 s3 h0 h1 h2 h3 hge bz bc0 bc1 bc2 bc3 bc4 BX HX HGE
        have o0 := (blk_cell s4 0).trans (show _ = some (.int .u8 o.f0) from rfl)
        have o1 := (blk_cell s4 1).trans (show _ = some (.string o.f1) from rfl)
        have o2 := (blk_cell s4 2).trans (show _ = some (.string o.f2) from rfl)
        have o3 := (blk_cell s4 3).trans (show _ = some (.slice A3 o.f3.length c3) from rfl)
        have o4 := (blk_cell s4 4).trans (show _ = some (.slice A4 o.f4.length c4) from rfl)
        have hb := h4
        have n_HW := Aside0.mk (below_step HW.out hb); have n_Hd := Aside0.mk (Hd.out.below hb); clear HW Hd; have HW := n_HW; have Hd := n_Hd; clear n_HW n_Hd
        clear h4 hb s4
        go_wp2_with (first | (go_at_call 13; refine (does_op gd B _ S o A3 c3 A4 c4 _ Hd.out HOK.out HOO.out HO3.out w HW.out HBd.out HG3.out HG4.out).mono ?_; rintro e w5 ⟨φ', rfl, hd, hs⟩; have n_HW := Aside0.mk (step_all HW.out HBd.out Hd.out hs); clear HW; have HW := n_HW; clear n_HW; clear Hd; have Hd := Aside0.mk hd; clear hd hs))
        go_roundw
        case rel => exact ⟨i + 1, _, _, by omega, by go_num, Hd, ⟨HG.out.doesO HOO.out⟩, HW⟩
        case measure => simp [intOf]; omega
      · obtain rfl : i = l.length := by omega
        clear hlt hi
        have HG6 := Aside0.mk (HG.out.upto (k' := 60) (by omega))
        clear HG
        have HOK := Aside0.mk (HG6.out.ok (by decide))
        have HOK1 := Aside0.mk ((HG6.out.crash ks).ok (by decide))
        have HNA := Aside0.mk HG6.out.named
        have HNA1 := Aside0.mk (HG6.out.crash ks).named
        go_upto_region 10 with (first | (go_at_call 14; refine (files_at gd B _ S _ Hd.out HOK.out HNA.out).mono ?_; rintro e w5 ⟨m1, n_m1, rfl, ho, hm, hb⟩; have hno := Hd.out.new_no m1 hm; have n_HW := Aside0.mk (below_step HW.out hb); have n_Hd := Aside0.mk (Hd.out.below hb); clear HW Hd; have HW := n_HW; have Hd := n_Hd; clear n_HW n_Hd; have Mm1 := Aside0.mk (Stays.owns ho hno); clear ho hm hb hno) | (go_at_call 15; refine (calls_at gd B _ S _ Hd.out).mono ?_; rintro e w5 ⟨rfl, rfl⟩))
        go_upto_region 11 with (first | (go_at_call 16; refine (list_at gd B _ S _ Hd.out HOK.out.fl).mono ?_; rintro e w5 ⟨v, rfl, hv, hb⟩; have hno := fun k h => Hd.out.new_no k h; have n_HW := Aside0.mk (below_step HW.out hb); have n_Hd := Aside0.mk (Hd.out.below hb); have n_Mm1 := Aside0.mk (Mm1.out.below hb); clear HW Hd Mm1; have HW := n_HW; have Hd := n_Hd; have Mm1 := n_Mm1; clear n_HW n_Hd n_Mm1; obtain ⟨An, cn, hv2, hnln, hst⟩ := Stays.names hv hno; rw [List.length_map] at hv2 hnln; subst hv2; have Nn := Aside0.mk hst; clear hv hb hno hst))
        have HKS := Aside0.mk (Stays.arg HK.out HW.out HBd.out Hd.out)
        go_upto_region 12 with (first | (go_at_call 17; refine (crash_at gd B _ S ks A3 c3 _ Hd.out (HOK.out).sane (HOK.out).small.len (HOK.out).nl (HOK.out).fl HKS.out).mono ?_; rintro e w5 ⟨rfl, hd, hs⟩; have n_HW := Aside0.mk (step_all HW.out HBd.out Hd.out hs); have n_Mm1 := Aside0.mk (Mm1.out.step hs); have n_Nn := Aside0.mk (Nn.out.step hs); clear HW Mm1 Nn; have HW := n_HW; have Mm1 := n_Mm1; have Nn := n_Nn; clear n_HW n_Mm1 n_Nn; clear Hd; have Hd := Aside0.mk hd; clear hd hs))
        clear HKS
        go_upto_region 13 with (first | (go_at_call 14; refine (files_at gd B _ (crashP S ks) _ Hd.out HOK1.out HNA1.out).mono ?_; rintro e w5 ⟨m2, n_m2, rfl, ho, hm, hb⟩; have hno := Hd.out.new_no m2 hm; have n_HW := Aside0.mk (below_step HW.out hb); have n_Hd := Aside0.mk (Hd.out.below hb); have n_Mm1 := Aside0.mk (Mm1.out.below hb); have n_Nn := Aside0.mk (Nn.out.below hb); clear HW Hd Mm1 Nn; have HW := n_HW; have Hd := n_Hd; have Mm1 := n_Mm1; have Nn := n_Nn; clear n_HW n_Hd n_Mm1 n_Nn; have Mm2 := Aside0.mk (Stays.owns ho hno); clear ho hm hb hno))
        rename World => wz
        have hl2 : (crashP S ks).files.length = S.files.length := len_of_names (crashN_names _ _ _)
        have q1 := fun ty => HStrMap.run_len m35 Mm1.out.self ty
        have q2 := fun ty => HStrMap.run_len m35 Mm2.out.self ty
        simp only [filesOf_len, hl2] at q1 q2
        go_upto_region 15 with (first | (go_at_call 15; refine (calls_at gd B _ (crashP S ks) _ Hd.out).mono ?_; rintro e w5 ⟨rfl, rfl⟩; rw [show (crashP S ks).calls = S.calls from rfl]))
        clear q1 q2
        go_upto_region 16 with (fail)
        have HW0 := HW
        go_loopw [86] (fun v86 wr => ∃ i : Nat, i ≤ S.files.length ∧ v86 = .int .i64 i ∧ Aside0 (Below wz.heap.size wz wr)) (fun v86 _ => S.files.length - (intOf v86).toNat)
        case atStart => exact ⟨0, Nat.zero_le _, rfl, ⟨Below.refl _ _⟩⟩
        case round =>
          obtain ⟨i, hi, rfl, HBQ⟩ := hrel
          rename World => wq
          by_cases hlt : i < S.files.length
          · obtain ⟨p, hp⟩ : ∃ p, S.files[i]? = some p := ⟨_, List.getElem?_eq_getElem hlt⟩
            have hnm : (S.files.map Prod.fst).getD i [] = p.1 := by rw [List.getD_eq_getElem?_getD, List.getElem?_map, hp]; rfl
            obtain ⟨ad, e0, hnc⟩ := Nn.out.self i (by rw [List.length_map]; exact hlt)
            subst e0
            rw [hnm] at hnc
            replace hnc := (HBQ.out.cell (World.block_lt_of_cell? wz _ hnc)).trans hnc
            have hpm : p ∈ S.files := List.mem_of_getElem? hp
            have hpc : (p.1, crashF (ks.getD i 0) p.2) ∈ (crashP S ks).files := crashN_full _ ks S.files i p hp hlt
            have hsn := HG6.out.sane p hpm
            have hcl := crashF_len (ks.getD i 0) hsn
            have hkb := keepN_bound (ks.getD i 0) hsn
            have hll := HOK.out.small.len p hpm
            have hsz : (str p.1).size ≤ maxLen := by have := vN_len (HNA.out p hpm); rw [str_size]; unfold maxLen; omega
            have hlk1 := look_files Mm1.out.self hpm
            have hlk2 := look_files Mm2.out.self hpc
            obtain ⟨ss, hss⟩ : ∃ ss, strOfNums p.2.b = ss := ⟨_, rfl⟩
            obtain ⟨gs, hgs⟩ : ∃ gs, strOfNums (crashF (ks.getD i 0) p.2).b = gs := ⟨_, rfl⟩
            have e1 : fval p.2 = .agg #[.string ss, .int .i64 ((p.2.b.length : Int) - p.2.safe)] := by unfold fval; rw [hss]
            have e2 : fval (crashF (ks.getD i 0) p.2) = .agg #[.string gs, .int .i64 0] := by unfold fval; rw [hgs, hcl.1, Int.sub_self]
            rw [e1] at hlk1
            rw [show ((p.1, crashF (ks.getD i 0) p.2) : Nm × FA).2 = crashF (ks.getD i 0) p.2 from rfl, e2] at hlk2
            have HLK1 : Aside0 (∀ W, Below wq.heap.size wq W → (Instr.lookup 35 (.map (some m1)) (.string (str p.1)) false).run Try.prog W = .ok (.agg #[.string ss, .int .i64 ((p.2.b.length : Int) - p.2.safe)]) W) := ⟨fun W hb => by have h1 := HStrMap.run_look m35 ((Mm1.out.below (below_step HBQ.out hb)).self) hsz; rw [hlk1] at h1; exact h1⟩
            have HLK2 : Aside0 (∀ W, Below wq.heap.size wq W → (Instr.lookup 35 (.map (some m2)) (.string (str p.1)) false).run Try.prog W = .ok (.agg #[.string gs, .int .i64 0]) W) := ⟨fun W hb => by have h1 := HStrMap.run_look m35 ((Mm2.out.below (below_step HBQ.out hb)).self) hsz; rw [hlk2] at h1; exact h1⟩
            have hsss : (ss.size : Int) = p.2.b.length := by rw [← hss, str_size_nums]
            obtain ⟨fl, hfl⟩ : ∃ fl, (p.2.b.length : Int) - p.2.safe = fl := ⟨_, rfl⟩
            obtain ⟨nn, hnn⟩ : ∃ nn, keepN (ks.getD i 0) p.2 = nn := ⟨_, rfl⟩
            have hgss : (gs.size : Int) = (ss.size : Int) - fl + nn := by rw [← hgs, str_size_nums, hcl.1, hsss, ← hfl, ← hnn]; unfold crashF; simp only; omega
            have hext : ss.extract 0 gs.size = gs := by
              have h1 : gs.size = (p.2.safe + keepN (ks.getD i 0) p.2).toNat := by have h2 := hgss; have := hsss; omega
              rw [← hss, h1, extract_nums _ _ (by omega), ← hgs]
              rfl
            have hge0 : (gs.size : Int) ≤ ss.size := by omega
            have hsub : IntKind.i64.wrap ((ss.size : Int) - fl) = (ss.size : Int) - fl := IntWalk.i64_in _ (by omega)
            have hadd : IntKind.i64.wrap ((ss.size : Int) - fl + nn) = (ss.size : Int) - fl + nn := IntWalk.i64_in _ (by omega)
            have HSL : Aside0 (∀ W, (Instr.slice 9 (.string ss) none (some (.int .i64 (gs.size : Int))) none).run Try.prog W = .ok (.string gs) W) := ⟨fun W => by rw [run_slice_string_h W 9 ss Try.underlying9 .i64 _ (Int.natCast_nonneg _) hge0, Int.toNat_natCast, hext]⟩
            have HKN : Aside0 (nn = min (max (ks.getD i 0) 0) fl) := ⟨by rw [← hnn, ← hfl]; rfl⟩
            have hne1 : ((gs.size : Int) != ((ss.size : Int) - fl + nn)) = false := by rw [hgss]; simp
            rw [hfl] at HLK1
            have hss0 : (ss.size : Int) ≤ 1000000 := by omega
            have HSU := Aside0.mk hsub
            have HAD := Aside0.mk hadd
            have HN1 := Aside0.mk hne1
            have HFL : Aside0 (0 ≤ fl ∧ fl ≤ 1000000 ∧ 0 ≤ nn ∧ nn ≤ 1000000) := ⟨by omega⟩
            have HKD : Aside0 (¬ i < ks.length → nn = 0) := ⟨fun hq => by rw [HKN.out, List.getD_eq_getElem?_getD, List.getElem?_eq_none (by omega)]; show min (max (0 : Int) 0) fl = 0; omega⟩
            clear hnm hpm hpc hp hsn hcl hkb hll hsz hlk1 hlk2 hss hgs e1 e2 hsss hfl hnn hgss hext hge0 hsub hadd hne1 hss0
            go_upto_region 18 with (fail)
            refine start_ (n := 10) (S := fun w' => Below wq.heap.size wq w') (ds := [9]) #[false, false, false, false, false, false, false, false, false, false] (by kernel_rfl) rfl rfl (below_drew (Below.refl _ _)) (fun hHeld => ?_)
            refine with_tabW r3_18.tab r3_18.bits (fun HT_ HW_ => ?_)
            generalize wq.drew = wd at hHeld ⊢
            refine pure_ (i := 0) (N := some 91) (v := ?_) (a' := ?_) #[true, false, false, false, false, false, false, false, false, false] rfl rfl (any_of HT_.out (by kernel_rfl)) (fun _ _ _ h => h) (Or.inl ⟨by rfl, ?_⟩) ?_ ?_
            rotate_left
            · intro w'
              go_simp
              with_reducible rfl
            rotate_left
            · simp only [Act.put, List.setIfInBounds_toArray, List.set_cons_zero, List.set_cons_succ, i64_w, i32_w]
              rfl
            refine pure_ (i := 1) (N := some 92) (v := ?_) (a' := ?_) #[true, true, false, false, false, false, false, false, false, false] rfl rfl (any_of HT_.out (by kernel_rfl)) (fun _ _ _ h => h) (Or.inl ⟨by rfl, ?_⟩) ?_ ?_
            rotate_left
            · intro w'
              go_simp
              with_reducible rfl
            rotate_left
            · simp only [Act.put, List.setIfInBounds_toArray, List.set_cons_zero, List.set_cons_succ, i64_w, i32_w]
              rfl
            refine take_ (i := 2) (N := some 93) (v := ?_) (a' := ?_) #[true, true, true, false, false, false, false, false, false, false] rfl rfl (take_ofW HT_.out HW_.out (by kernel_rfl)) (fun _ _ _ h => h) (Or.inl ⟨by rfl, ?_⟩) hHeld ?_ ?_
            rotate_left
            · rintro w' hbq
              have hlk := HLK1.out w' hbq
              go_simp
              with_reducible rfl
            rotate_left
            · simp only [Act.put, List.setIfInBounds_toArray, List.set_cons_zero, List.set_cons_succ, i64_w, i32_w]
              rfl
            refine pure_ (i := 3) (N := some 94) (v := ?_) (a' := ?_) #[true, true, true, true, false, false, false, false, false, false] rfl rfl (any_of HT_.out (by kernel_rfl)) (fun _ _ _ h => h) (Or.inl ⟨by rfl, ?_⟩) ?_ ?_
            rotate_left
            · intro w'
              go_simp
              with_reducible rfl
            rotate_left
            · simp only [Act.put, List.setIfInBounds_toArray, List.set_cons_zero, List.set_cons_succ, i64_w, i32_w]
              rfl
            refine pure_ (i := 4) (N := some 95) (v := ?_) (a' := ?_) #[true, true, true, true, true, false, false, false, false, false] rfl rfl (any_of HT_.out (by kernel_rfl)) (fun _ _ _ h => h) (Or.inl ⟨by rfl, ?_⟩) ?_ ?_
            rotate_left
            · intro w'
              go_simp
              with_reducible rfl
            rotate_left
            · simp only [Act.put, List.setIfInBounds_toArray, List.set_cons_zero, List.set_cons_succ, i64_w, i32_w]
              rfl
            refine take_ (i := 5) (N := some 96) (v := ?_) (a' := ?_) #[true, true, true, true, true, true, false, false, false, false] rfl rfl (take_ofW HT_.out HW_.out (by kernel_rfl)) (fun _ _ _ h => h) (Or.inl ⟨by rfl, ?_⟩) hHeld ?_ ?_
            rotate_left
            · rintro w' hbq
              have hlk := HLK2.out w' hbq
              go_simp
              with_reducible rfl
            rotate_left
            · simp only [Act.put, List.setIfInBounds_toArray, List.set_cons_zero, List.set_cons_succ, i64_w, i32_w]
              rfl
            refine joinX (ι := Nat × Nat) 2 #[true, true, true, true, true, true, true, true, false, false] (fun i => [(18, .pointer (some ⟨i.1, 0, none⟩)), (19, .pointer (some ⟨i.2, 0, none⟩))]) (fun i wx => Aside0 (Below wq.heap.size wq wx) ∧ Aside0 (wx.heap[i.1]? = some (.cells #[.string ByteArray.empty, .int .i64 0] 42 (0, 0))) ∧ Aside0 (wx.heap[i.2]? = some (.cells #[.string ByteArray.empty, .int .i64 0] 42 (0, 0))) ∧ Aside0 (wq.heap.size ≤ i.1) ∧ Aside0 (wq.heap.size ≤ i.2) ∧ Aside0 (i.1 ≠ i.2)) ?_ (fun JJ => ?_)
            rotate_left
            · refine two_ (i := 6) (j := 7) (Ni := some 18) (Nj := some 19) #[true, true, true, true, true, true, true, false, false, false] #[true, true, true, true, true, true, false, true, false, false] rfl rfl rfl rfl (two_of HT_.out (by kernel_rfl)) (by decide) (by decide) (fun K hK => ?_) (fun K hK => ?_)
              · refine box_step (N := 18) (cs := #[.string ByteArray.empty, .int .i64 0]) (t := 42) (by rfl) rfl (by first | (go_simp; done) | (go_simp; rfl)) ?_
                intro ga hg w5 hbox hb
                have Xga := Aside0.mk hbox
                have Yga : Aside0 (wq.heap.size ≤ ga) := ⟨by rw [hg]; exact below_size hHeld⟩
                have HX := Aside0.mk (below_step hHeld hb)
                refine hK.out _ _ HX.out (fun hHeld => ?_)
                clear hK K hbox hb hg
                refine norm_ (a' := ?_) ?_ ?_
                rotate_left
                · show Act.put _ (some 18) _ = _
                  simp only [Act.put, List.setIfInBounds_toArray, List.set_cons_zero, List.set_cons_succ, i64_w, i32_w]
                  rfl
                refine one_ (i := 7) (N := some 19) #[true, true, true, true, true, true, true, true, false, false] rfl rfl (one_of HT_.out (by kernel_rfl)) (by decide) (fun K hK => ?_)
                refine box_step (N := 19) (cs := #[.string ByteArray.empty, .int .i64 0]) (t := 42) (by rfl) rfl (by first | (go_simp; done) | (go_simp; rfl)) ?_
                intro gb hg w5 hbox hb
                have Xgb := Aside0.mk hbox
                have Ygb : Aside0 (wq.heap.size ≤ gb) := ⟨by rw [hg]; exact below_size hHeld⟩
                have NE : Aside0 (ga ≠ gb) := ⟨by rw [hg]; exact Nat.ne_of_lt (blk_lt Xga.out)⟩
                have X2 := Aside0.mk (blk_below Xga.out hb)
                refine hK.out _ _ (below_step hHeld hb) (fun hHeld => ?_)
                clear hK K hbox hb hg
                refine norm_ ?_ (JJ.out (ga, gb) _ ⟨⟨hHeld⟩, X2, Xgb, Yga, Ygb, ⟨NE.out⟩⟩)
                show Act.put _ (some 19) _ = _
                simp only [putAll, Act.put, List.setIfInBounds_toArray, List.set_cons_zero, List.set_cons_succ]
              · refine box_step (N := 19) (cs := #[.string ByteArray.empty, .int .i64 0]) (t := 42) (by rfl) rfl (by first | (go_simp; done) | (go_simp; rfl)) ?_
                intro gb hg w5 hbox hb
                have Xgb := Aside0.mk hbox
                have Ygb : Aside0 (wq.heap.size ≤ gb) := ⟨by rw [hg]; exact below_size hHeld⟩
                have HX := Aside0.mk (below_step hHeld hb)
                refine hK.out _ _ HX.out (fun hHeld => ?_)
                clear hK K hbox hb hg
                refine norm_ (a' := ?_) ?_ ?_
                rotate_left
                · show Act.put _ (some 19) _ = _
                  simp only [Act.put, List.setIfInBounds_toArray, List.set_cons_zero, List.set_cons_succ, i64_w, i32_w]
                  rfl
                refine one_ (i := 6) (N := some 18) #[true, true, true, true, true, true, true, true, false, false] rfl rfl (one_of HT_.out (by kernel_rfl)) (by decide) (fun K hK => ?_)
                refine box_step (N := 18) (cs := #[.string ByteArray.empty, .int .i64 0]) (t := 42) (by rfl) rfl (by first | (go_simp; done) | (go_simp; rfl)) ?_
                intro ga hg w5 hbox hb
                have Xga := Aside0.mk hbox
                have Yga : Aside0 (wq.heap.size ≤ ga) := ⟨by rw [hg]; exact below_size hHeld⟩
                have NE : Aside0 (gb ≠ ga) := ⟨by rw [hg]; exact Nat.ne_of_lt (blk_lt Xgb.out)⟩
                have X2 := Aside0.mk (blk_below Xgb.out hb)
                refine hK.out _ _ (below_step hHeld hb) (fun hHeld => ?_)
                clear hK K hbox hb hg
                refine norm_ ?_ (JJ.out (ga, gb) _ ⟨⟨hHeld⟩, Xga, X2, Yga, Ygb, ⟨NE.out.symm⟩⟩)
                show Act.put _ (some 18) _ = _
                simp only [putAll, Act.put, List.setIfInBounds_toArray, List.set_cons_zero, List.set_cons_succ]
            rintro ⟨ga, gb⟩ wx ⟨HHX, XA, XB, YA, YB, NE⟩
            dsimp only at XA XB YA YB NE ⊢
            simp only [putAll, Act.put, List.setIfInBounds_toArray, List.set_cons_zero, List.set_cons_succ]
            clear hHeld
            refine one_ (i := 8) (N := none) #[true, true, true, true, true, true, true, true, true, false] rfl rfl (one_of HT_.out (by kernel_rfl)) (by decide) (fun K hK => ?_)
            have za0 := (blk_cell XA.out 0).trans (show _ = some (.string ByteArray.empty) from rfl)
            have za1 := (blk_cell XA.out 1).trans (show _ = some (.int .i64 0) from rfl)
            have zaf := fun j => blk_frozen XA.out j
            have sh := (HHX.out.setCell (p := ⟨ga, 0, none⟩) YA.out (.string ss)).setCell (p := ⟨ga, 1, none⟩) YA.out (.int .i64 fl)
            refine skip_ (w1 := ?_) (by rfl) rfl ?_ ?_
            rotate_left
            · go_simp
              rfl
            refine hK.out _ _ sh (fun hHeld => ?_)
            clear hK K za0 za1 zaf hHeld
            have sa := blk_put (cs' := #[.string ss, .int .i64 fl]) (blk_put (cs' := #[.string ss, .int .i64 0]) XA.out 0 (.string ss) rfl) 1 (.int .i64 fl) rfl
            have sb := blk_far (blk_far XB.out (p := ⟨ga, 0, none⟩) (fun e => NE.out e.symm) (.string ss)) (p := ⟨ga, 1, none⟩) (fun e => NE.out e.symm) (.int .i64 fl)
            generalize World.setCell (World.setCell wx ⟨ga, 0, none⟩ (.string ss)) ⟨ga, 1, none⟩ (.int .i64 fl) = wy at sa sb sh ⊢
            have za0 := (blk_cell sb 0).trans (show _ = some (.string ByteArray.empty) from rfl)
            have za1 := (blk_cell sb 1).trans (show _ = some (.int .i64 0) from rfl)
            have zaf := fun j => blk_frozen sb j
            have SA := Aside0.mk sa
            have SB := Aside0.mk sb
            have SH := Aside0.mk sh
            clear sa sb sh HHX XA XB
            refine last_ (i := 9) (N := none) #[true, true, true, true, true, true, true, true, true, true] rfl rfl (one_of HT_.out (by kernel_rfl)) (by decide) (fun K hK => ?_)
            refine skip_ (w1 := ?_) (by rfl) rfl ?_ ?_
            rotate_left
            · go_simp
              rfl
            refine hK.out _ _ ?_
            clear hK K za0 za1 zaf
            refine done_ (done_of HT_.out (by kernel_rfl)) ?_
            have sa := blk_far (blk_far SA.out (p := ⟨gb, 0, none⟩) NE.out (.string gs)) (p := ⟨gb, 1, none⟩) NE.out (.int .i64 0)
            have sb := blk_put (cs' := #[.string gs, .int .i64 0]) (blk_put (cs' := #[.string gs, .int .i64 0]) SB.out 0 (.string gs) rfl) 1 (.int .i64 0) rfl
            have sh := (SH.out.setCell (p := ⟨gb, 0, none⟩) YB.out (.string gs)).setCell (p := ⟨gb, 1, none⟩) YB.out (.int .i64 0)
            generalize World.setCell (World.setCell wy ⟨gb, 0, none⟩ (.string gs)) ⟨gb, 1, none⟩ (.int .i64 0) = wv at sa sb sh ⊢
            have ka0 := (blk_cell sa 0).trans (show _ = some (.string ss) from rfl)
            have ka1 := (blk_cell sa 1).trans (show _ = some (.int .i64 fl) from rfl)
            have kb0 := (blk_cell sb 0).trans (show _ = some (.string gs) from rfl)
            have kb1 := (blk_cell sb 1).trans (show _ = some (.int .i64 0) from rfl)
            have SH2 := Aside0.mk sh
            clear sa sb sh SA SB SH YA YB NE HLK1 HLK2 hnc
            obtain ⟨hf0, hf1, hf2, hf3⟩ := HFL.out
            by_cases hki : i < ks.length
            · have hc3 : Kd.C (Kd.int .i64) wv A3 ks.length ks := Kd.C_below HK.out (below_step (below_step HW0.out HBQ.out) SH2.out)
              obtain ⟨ad4, e4, hk4⟩ := Kd.at_int hc3 (i : Int) (by omega) (by omega)
              subst e4
              have hrd : rd ks (i : Int) = ks.getD i 0 := by unfold rd; rw [Int.toNat_natCast]
              rw [hrd] at hk4
              simp only [Int.toNat_natCast] at hk4
              obtain ⟨kv, hkv⟩ : ∃ kv, ks.getD i 0 = kv := ⟨_, rfl⟩
              have hkn : nn = min (max kv 0) fl := by rw [← hkv]; exact HKN.out
              rw [hkv] at hk4
              have HKV := Aside0.mk hkn
              clear hc3 hkn hkv hrd
              go_upto_region 21 with (fail)
              go_quiet (fail)
              rw [← HKV.out]
              clear hk4
              have hsub := HSU.out
              have hadd := HAD.out
              have hne1 := HN1.out
              have hsl := HSL.out
              go_upto_region 22 with (fail)
              go_quiet (fail)
              clear hsub hadd hne1 hsl
              go_wp2
              go_roundw
              case rel => exact ⟨i + 1, by omega, by go_num, ⟨below_step HBQ.out (pw_below_drewN SH2.out _)⟩⟩
              case measure => simp [intOf]; omega
            · have hn0 := HKD.out hki
              subst hn0
              have hsub := HSU.out
              have hadd := hsub
              have hne1 := HN1.out; rw [Int.add_zero] at hne1
              have hsl := HSL.out
              go_upto_region 22 with (fail)
              go_quiet (fail)
              clear hsub hadd hne1 hsl
              go_wp2
              go_roundw
              case rel => exact ⟨i + 1, by omega, by go_num, ⟨below_step HBQ.out (pw_below_drewN SH2.out _)⟩⟩
              case measure => simp [intOf]; omega
          · obtain rfl : i = S.files.length := by omega
            clear hlt hi
            have hb := HBQ.out
            have n_HW := Aside0.mk (below_step HW.out hb); have n_Hd := Aside0.mk (Hd.out.below hb); have n_Mm1 := Aside0.mk (Mm1.out.below hb); have n_Nn := Aside0.mk (Nn.out.below hb); have n_Mm2 := Aside0.mk (Mm2.out.below hb); clear HW Hd Mm1 Nn Mm2; have HW := n_HW; have Hd := n_Hd; have Mm1 := n_Mm1; have Nn := n_Nn; have Mm2 := n_Mm2; clear n_HW n_Hd n_Mm1 n_Nn n_Mm2
            clear hb HBQ HW0
            have e2 := crash_twice HG6.out ks
            have CT := Aside0.mk e2
            clear e2
            go_upto_region 26 with (first | (go_at_call 17; refine (crash_at gd B _ (crashP S ks) [] none 0 _ Hd.out (HOK1.out).sane (HOK1.out).small.len (HOK1.out).nl (HOK1.out).fl (fun W _ _ => (Kd.R_reads' (Kd.R_nil (Kd.int .i64) 3 W 0 (fun _ => True))).2.2)).mono ?_; rintro e w5 ⟨rfl, hd, hs⟩; rw [CT.out] at hd; have n_HW := Aside0.mk (step_all HW.out HBd.out Hd.out hs); have n_Mm1 := Aside0.mk (Mm1.out.step hs); have n_Nn := Aside0.mk (Nn.out.step hs); have n_Mm2 := Aside0.mk (Mm2.out.step hs); clear HW Mm1 Nn Mm2; have HW := n_HW; have Mm1 := n_Mm1; have Nn := n_Nn; have Mm2 := n_Mm2; clear n_HW n_Mm1 n_Nn n_Mm2; clear Hd; have Hd := Aside0.mk hd; clear hd hs))
            go_wp2_with (first | (go_at_call 14; refine (files_at gd B _ (crashP S ks) _ Hd.out HOK1.out HNA1.out).mono ?_; rintro e w5 ⟨m3, n_m3, rfl, ho, hm, hb⟩; have hno := Hd.out.new_no m3 hm; have n_HW := Aside0.mk (below_step HW.out hb); have n_Hd := Aside0.mk (Hd.out.below hb); have n_Mm1 := Aside0.mk (Mm1.out.below hb); have n_Nn := Aside0.mk (Nn.out.below hb); have n_Mm2 := Aside0.mk (Mm2.out.below hb); clear HW Hd Mm1 Nn Mm2; have HW := n_HW; have Hd := n_Hd; have Mm1 := n_Mm1; have Nn := n_Nn; have Mm2 := n_Mm2; clear n_HW n_Hd n_Mm1 n_Nn n_Mm2; have Mm3 := Aside0.mk (Stays.owns ho hno); clear ho hm hb hno) | (go_at_call 18; refine (same_at m3 m2 _ _ _ _ _ Mm3.out.self Mm2.out.self (List.Perm.refl _) (filesOf_vals _)).mono ?_; rintro e w5 ⟨rfl, hb⟩; have n_HW := Aside0.mk (below_step HW.out hb); have n_Hd := Aside0.mk (Hd.out.below hb); have n_Mm1 := Aside0.mk (Mm1.out.below hb); have n_Nn := Aside0.mk (Nn.out.below hb); have n_Mm2 := Aside0.mk (Mm2.out.below hb); have n_Mm3 := Aside0.mk (Mm3.out.below hb); clear HW Hd Mm1 Nn Mm2 Mm3; have HW := n_HW; have Hd := n_Hd; have Mm1 := n_Mm1; have Nn := n_Nn; have Mm2 := n_Mm2; have Mm3 := n_Mm3; clear n_HW n_Hd n_Mm1 n_Nn n_Mm2 n_Mm3; clear hb) | (go_at_call 11; refine (awake_at _).mono ?_; rintro e w5 ⟨rfl, hb⟩; have n_HW := Aside0.mk (below_step HW.out hb); have n_Hd := Aside0.mk (Hd.out.below hb); have n_Mm1 := Aside0.mk (Mm1.out.below hb); have n_Nn := Aside0.mk (Nn.out.below hb); have n_Mm2 := Aside0.mk (Mm2.out.below hb); have n_Mm3 := Aside0.mk (Mm3.out.below hb); clear HW Hd Mm1 Nn Mm2 Mm3; have HW := n_HW; have Hd := n_Hd; have Mm1 := n_Mm1; have Nn := n_Nn; have Mm2 := n_Mm2; have Mm3 := n_Mm3; clear n_HW n_Hd n_Mm1 n_Nn n_Mm2 n_Mm3; clear hb))
            go_ret
            exact ⟨rfl, HW.out⟩
end Go.Proofs.Yteibdmpjlpcgbaa.XDisk
