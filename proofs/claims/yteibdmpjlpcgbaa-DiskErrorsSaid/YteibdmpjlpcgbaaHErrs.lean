/- DiskErrors: a call that has an error changes nothing. -/
import Derived.Test.YteibdmpjlpcgbaaHLook
namespace Go.Proofs.Yteibdmpjlpcgbaa.XDisk
open Go Go.RowKit Go.Proofs.YteibdmpjlpcgbaaW.PrintWords Go.Proofs.YteibdmpjlpcgbaaW.PrintLast Go.Proofs.YteibdmpjlpcgbaaW.PrintMore
open Go.Proofs.Yteibdmpjlpcgbaa
set_option linter.unusedVariables false
set_option linter.unusedSimpArgs false
theorem doesO_calls (S : DA) (o : S32) (h : o.f0 % 7 ≤ 4) (h0 : 0 ≤ o.f0) : (doesO S o).1.calls = S.calls + 1 := by
  unfold doesO doesP createP appendP syncP renameP removeP cnt
  repeat' split
  all_goals first | rfl | omega
theorem doesO_room (S : DA) (o : S32) : (doesO S o).1.room = S.room := by
  unfold doesO doesP createP appendP syncP renameP removeP crashP cnt
  repeat' split
  all_goals rfl
theorem put_same {l : List (Nm × FA)} (hr : Rising l) {n : Nm} {f : FA} (hg : get l n = some f) : put n f l = l :=
  rising_ext (put_rising hr n f) hr (fun m => by
    rw [get_put hr]
    by_cases e : m = n
    · rw [if_pos e, e, hg]
    · rw [if_neg e])
/-- What has an error changes nothing, but a refused Append. -/
theorem doesO_err {S : DA} (hr : Rising S.files) {o : S32} (h : o.f0 % 7 ≤ 4) (h0 : 0 ≤ o.f0) (he : (doesO S o).2 ≠ 0) (hn : ¬ ((doesO S o).2 = 12 ∧ o.f0 % 7 = 1)) : (doesO S o).1.files = S.files := by
  unfold doesO doesP at *
  split at he
  · rename_i h1
    rw [if_pos h1]
    unfold createP at *
    repeat' split
    all_goals first | rfl | (simp_all; done)
  · rename_i h1
    rw [if_neg h1]
    rw [if_neg h1] at hn
    split at he
    · rename_i h2
      rw [if_pos h2]
      rw [if_pos h2] at hn
      unfold appendP at *
      split
      · rfl
      · rename_i hv
        rw [if_neg hv] at he hn
        split
        · rfl
        · rename_i f hg
          rw [hg] at he hn
          simp only at he hn ⊢
          unfold appX at *
          split
          · rename_i hb
            rw [if_pos hb] at hn
            exact absurd ⟨rfl, h2⟩ hn
          · rename_i hb
            rw [if_neg hb] at he
            split
            · simp only [List.take_zero, List.append_nil]
              exact put_same hr hg
            · rename_i hb2
              rw [if_neg hb2] at he
              exact absurd rfl he
    · rename_i h2
      rw [if_neg h2]
      split at he
      · rename_i h3
        rw [if_pos h3]
        unfold syncP at *
        repeat' split
        all_goals first | rfl | (simp_all; done)
      · rename_i h3
        rw [if_neg h3]
        split at he
        · rename_i h4
          rw [if_pos h4]
          unfold renameP at *
          repeat' split
          all_goals first | rfl | (simp_all; done)
        · rename_i h4
          rw [if_neg h4]
          split at he
          · rename_i h5
            rw [if_pos h5]
            unfold removeP at *
            repeat' split
            all_goals first | rfl | (simp_all; done)
          · omega
/-- Other files are as they were. -/
theorem doesO_other {S : DA} (hr : Rising S.files) {o : S32} (h : o.f0 % 7 ≤ 4) (h0 : 0 ≤ o.f0) {p : Nm × FA} (hp : get S.files p.1 = some p.2) (h1 : p.1 ≠ o.f1.data.toList) (h2 : ¬ (o.f0 % 7 = 3 ∧ p.1 = o.f2.data.toList)) : get (doesO S o).1.files p.1 = some p.2 := by
  unfold doesO doesP
  split
  · unfold createP
    repeat' split
    all_goals first | exact hp | exact (get_put hr _ _ _).trans ((if_neg h1).trans hp)
  · split
    · unfold appendP
      repeat' split
      all_goals first | exact hp | exact (get_put hr _ _ _).trans ((if_neg h1).trans hp)
    · split
      · unfold syncP
        repeat' split
        all_goals first | exact hp | exact (get_put hr _ _ _).trans ((if_neg h1).trans hp)
      · split
        · rename_i h3
          have h4 : p.1 ≠ o.f2.data.toList := fun e => h2 ⟨h3, e⟩
          unfold renameP
          repeat' split
          all_goals first | exact hp | exact (get_put (del_rising hr _) _ _ _).trans ((if_neg h4).trans ((get_del hr _ _).trans ((if_neg h1).trans hp)))
        · split
          · unfold removeP
            repeat' split
            all_goals first | exact hp | exact (get_del hr _ _).trans ((if_neg h1).trans hp)
          · omega
/-- A refused Append. -/
theorem app_refused {S : DA} {o : S32} (hleft : 0 ≤ left S) (h1 : o.f0 % 7 = 1) (he : (doesO S o).2 = 12) : ∃ f r, get S.files o.f1.data.toList = some f ∧ r ≤ o.f3.length ∧ (doesO S o).1 = { cnt S with files := put o.f1.data.toList ⟨f.b ++ o.f3.take r, f.safe⟩ S.files } := by
  unfold doesO doesP at *
  rw [if_neg (by omega), if_pos h1] at he ⊢
  unfold appendP at *
  split
  · rename_i hv
    rw [if_pos hv] at he
    cases he
  · rename_i hv
    rw [if_neg hv] at he
    cases hg : get S.files o.f1.data.toList with
    | none => rw [hg] at he; cases he
    | some f =>
      refine ⟨f, _, rfl, ?_, rfl⟩
      exact (Good.appX_le hleft (part_nonneg _ _ _)).2
theorem strOfNums_append (a b : List Int) : strOfNums (a ++ b) = strOfNums a ++ strOfNums b := by
  refine ByteArray.ext ?_
  rw [ByteArray.data_append]
  unfold strOfNums
  simp
/-- What a law's second map is, behind its turning of it. -/
def ErrRel (w9 wx : World) (m2 : Nat) (S : DA) (o : S32) (e : Int) : Prop :=
  ∃ L2 k2, Aside0 (HStrMap.Owns m35 wx m2 k2 L2) ∧ Aside0 (e ≠ 0 → (filesOf S.files).Perm L2) ∧ Aside0 (∀ p ∈ S.files, p.1 ≠ o.f1.data.toList → ¬ (o.f0 % 7 = 3 ∧ p.1 = o.f2.data.toList) → HStrMap.look L2 (str p.1) = some (fval p.2)) ∧ Aside0 (∀ q ∈ L2, ∃ s x, q.2 = .agg #[.string s, .int .i64 x]) ∧ Aside0 (w9.grownBy wx (some m2))
def ERel (w10 : World) (m1 rr n1 : Nat) (l : List (ByteArray × Value)) (wq : World) : Prop := ∃ todo cnt, Aside0 (HStrMap.Ranges m35 wq m1 rr n1 l todo cnt) ∧ Aside0 (Below w10.heap.size w10 wq)
theorem look_form {L : List (ByteArray × Value)} (h : ∀ q ∈ L, ∃ s x, q.2 = .agg #[.string s, .int .i64 x]) (s : ByteArray) : ∃ t x, (HStrMap.look L s).getD (.agg #[.string ByteArray.empty, .int .i64 0]) = .agg #[.string t, .int .i64 x] := by
  unfold HStrMap.look
  cases hf : L.find? (fun p => decide (p.1 = s)) with
  | none => exact ⟨_, _, rfl⟩
  | some q =>
    obtain ⟨t, x, e⟩ := h q (List.mem_of_find?_eq_some hf)
    exact ⟨t, x, e⟩
/-- The map, where one is put back. -/
theorem back_perm {l : List (Nm × FA)} (hr : Rising l) {n : Nm} {f g : FA} (hg : get l n = some f) : (filesOf l).Perm ((str n, fval f) :: HStrMap.without (filesOf (put n g l)) (str n)) := by
  have h1 : HStrMap.without (filesOf (put n g l)) (str n) = filesOf (del n (put n g l)) := by
    unfold HStrMap.without filesOf del
    rw [List.filter_map]
    congr 1
    apply List.filter_congr
    intro p _
    simp only [Function.comp]
    by_cases h : p.1 = n
    · simp [h]
    · have : str p.1 ≠ str n := fun e => h (str_inj e)
      simp [h, this]
  have h2 : del n (put n g l) = del n l := rising_ext (del_rising (put_rising hr _ _) _) (del_rising hr _) (fun m => by
    rw [get_del (put_rising hr _ _), get_del hr, get_put hr]
    by_cases e : m = n
    · rw [if_pos e, if_pos e]
    · rw [if_neg e, if_neg e, if_neg e])
  rw [h1, h2]
  have h3 := (split_perm hr hg).map (fun p : Nm × FA => (str p.1, fval p.2))
  exact h3
theorem pw_own2 {w : World} {m n : Nat} {l : List (ByteArray × Value)} (h : HStrMap.Owns m35 w m n l) (k : Nat) : HStrMap.Owns m35 (w.drewN k) m n l := h.move rfl
theorem grown_below {w wv wu : World} {m : Nat} (h : Below w.heap.size w wv) (hg : wv.grownBy wu (some m)) : w.grownBy wu (some m) :=
  ⟨hg.os.trans h.os, hg.tape.trans h.tape, hg.output.trans h.output, Nat.le_trans h.size hg.size, fun k hk hne => (hg.block k (Nat.lt_of_lt_of_le hk h.size) hne).trans (h.block k hk)⟩
def r4_14.T : Bool × List (List Nat × List Nat) := (true, [([], []), ([], []), ([1], [1]), ([0, 2], [0, 2]), ([], []), ([], []), ([5], [5]), ([4, 6], [4, 6]), ([], []), ([], []), ([8, 3, 0, 1, 2, 3, 8, 9], [3, 8]), ([9, 7, 10, 0, 1, 2, 3, 4, 5, 6, 7, 8, 9, 10], [7, 9])])
def r4_14.B : List Nat := [0, 0, 2, 7, 0, 0, 32, 112, 0, 0, 783, 2047]
theorem r4_14.tab : rtab .any (opsOf Try.f4 14) = r4_14.T := by kernel_rfl
theorem r4_14.bits : waitsOk r4_14.T.2 r4_14.B = true := by kernel_rfl
attribute [local go_sem] max_run min_run
set_option maxHeartbeats 16000000 in
set_option maxRecDepth 100000 in
theorem errs_walk (cap : Int) (A0 : Option Addr) (c0 : Nat) (fs : List Int) (A1 : Option Addr) (c1 : Nat) (ps : List Int) (A2 : Option Addr) (c2 : Nat) (l : List S32) (w : World) (hcap : cap ≤ 9223372036854775807) (hr0 : Kd.C (Kd.int .i64) w A0 fs.length fs) (hc0 : fs.length ≤ c0) (hr1 : Kd.C (Kd.int .i64) w A1 ps.length ps) (hc1 : ps.length ≤ c1) (hr2 : Kd.C k32 w A2 l.length l) (hc2 : l.length ≤ c2) (hl : l.length ≤ 9223372036854775807) (hop : ∀ o ∈ l, 0 ≤ o.f0 ∧ o.f0 ≤ 255) :
    Calls Try.prog 4 #[.int .i64 cap, .agg #[.slice A0 fs.length c0, .slice A1 ps.length c1], .slice A2 l.length c2] w fun e w' => e = .returned (.bool true) ∧ Below w.heap.size w w' := by
  have HF0 := Aside0.mk hr0
  have HF1 := Aside0.mk hr1
  have HL := Aside0.mk hr2
  have HC0 := Aside0.mk hc0
  have HC1 := Aside0.mk hc1
  have HLC := Aside0.mk hc2
  have HLM : Aside0 (l.length ≤ 9223372036854775807) := ⟨hl⟩
  have hfm : fs.length ≤ 9223372036854775807 := hr0.2.1
  have hpm : ps.length ≤ 9223372036854775807 := hr1.2.1
  have HCAP := Aside0.mk hcap
  have HOA := Aside0.mk hop
  have HW := Aside0.mk (Below.refl w.heap.size w)
  clear hr0 hr1 hr2 hc0 hc1 hc2 hcap hop
  obtain ⟨fb, hfb⟩ : ∃ fb, fewP l 60 = fb := ⟨_, rfl⟩
  have HFB := Aside0.mk hfb
  cases fb with
  | false =>
    clear hfb
    go_enter Try.func4, Try.ntmps4
    go_wp2_with (first | ((with_reducible refine gate_dst (N := 4) rfl ?_); refine box_event ?hg (N := 4) ?hd (cs := #[.slice A0 fs.length c0, .slice A1 ps.length c1]) (t := 24) ?hr ?_; (case hd => rfl); (case hg => rfl); (case hr => first | (go_simp; done) | (go_simp; rfl)); intro gp hg w3 hbox hb; have BP := Aside0.mk hbox; have kp0 := blk_c' hbox 0 rfl; have kp1 := blk_c' hbox 1 rfl; have n_HW := Aside0.mk (below_step HW.out hb); clear HW; have HW := n_HW; clear n_HW; clear hg hbox hb) | (go_at_call 10; refine (few_at A2 c2 l 60 _ (Kd.C_below HL.out HW.out) HLC.out HLM.out).mono ?_; rw [HFB.out]; rintro e w5 ⟨rfl, hb⟩; have n_HW := Aside0.mk (below_step HW.out hb); have n_BP := Aside0.mk (blk_below BP.out hb); clear HW BP; have HW := n_HW; have BP := n_BP; clear n_HW n_BP; clear hb; clear kp0 kp1; have kp0 := blk_c' BP.out 0 rfl; have kp1 := blk_c' BP.out 1 rfl) | (go_at_call 11; refine (awake_at _).mono ?_; rintro e w5 ⟨rfl, hb⟩; have n_HW := Aside0.mk (below_step HW.out hb); have n_BP := Aside0.mk (blk_below BP.out hb); clear HW BP; have HW := n_HW; have BP := n_BP; clear n_HW n_BP; clear hb))
    go_ret
    exact ⟨rfl, HW.out⟩
  | true =>
    by_cases h0 : fs.length ≤ 60
    rotate_left
    · have d0 : decide ((fs.length : Int) > 60) = true := decide_eq_true (by omega)
      have e0 : decide ((60 : Int) < (fs.length : Int)) = true := decide_eq_true (by omega)
      clear hfb
      go_enter Try.func4, Try.ntmps4
      go_wp2_with (first | ((with_reducible refine gate_dst (N := 4) rfl ?_); refine box_event ?hg (N := 4) ?hd (cs := #[.slice A0 fs.length c0, .slice A1 ps.length c1]) (t := 24) ?hr ?_; (case hd => rfl); (case hg => rfl); (case hr => first | (go_simp; done) | (go_simp; rfl)); intro gp hg w3 hbox hb; have BP := Aside0.mk hbox; have kp0 := blk_c' hbox 0 rfl; have kp1 := blk_c' hbox 1 rfl; have n_HW := Aside0.mk (below_step HW.out hb); clear HW; have HW := n_HW; clear n_HW; clear hg hbox hb) | (go_at_call 10; refine (few_at A2 c2 l 60 _ (Kd.C_below HL.out HW.out) HLC.out HLM.out).mono ?_; rw [HFB.out]; rintro e w5 ⟨rfl, hb⟩; have n_HW := Aside0.mk (below_step HW.out hb); have n_BP := Aside0.mk (blk_below BP.out hb); clear HW BP; have HW := n_HW; have BP := n_BP; clear n_HW n_BP; clear hb; clear kp0 kp1; have kp0 := blk_c' BP.out 0 rfl; have kp1 := blk_c' BP.out 1 rfl) | (go_at_call 11; refine (awake_at _).mono ?_; rintro e w5 ⟨rfl, hb⟩; have n_HW := Aside0.mk (below_step HW.out hb); have n_BP := Aside0.mk (blk_below BP.out hb); clear HW BP; have HW := n_HW; have BP := n_BP; clear n_HW n_BP; clear hb))
      go_ret
      exact ⟨rfl, HW.out⟩
    have d0 : decide ((fs.length : Int) > 60) = false := decide_eq_false (by omega)
    have e0 : decide ((60 : Int) < (fs.length : Int)) = false := decide_eq_false (by omega)
    by_cases h1 : ps.length ≤ 60
    rotate_left
    · have d1 : decide ((ps.length : Int) > 60) = true := decide_eq_true (by omega)
      have e1 : decide ((60 : Int) < (ps.length : Int)) = true := decide_eq_true (by omega)
      clear hfb
      go_enter Try.func4, Try.ntmps4
      go_wp2_with (first | ((with_reducible refine gate_dst (N := 4) rfl ?_); refine box_event ?hg (N := 4) ?hd (cs := #[.slice A0 fs.length c0, .slice A1 ps.length c1]) (t := 24) ?hr ?_; (case hd => rfl); (case hg => rfl); (case hr => first | (go_simp; done) | (go_simp; rfl)); intro gp hg w3 hbox hb; have BP := Aside0.mk hbox; have kp0 := blk_c' hbox 0 rfl; have kp1 := blk_c' hbox 1 rfl; have n_HW := Aside0.mk (below_step HW.out hb); clear HW; have HW := n_HW; clear n_HW; clear hg hbox hb) | (go_at_call 10; refine (few_at A2 c2 l 60 _ (Kd.C_below HL.out HW.out) HLC.out HLM.out).mono ?_; rw [HFB.out]; rintro e w5 ⟨rfl, hb⟩; have n_HW := Aside0.mk (below_step HW.out hb); have n_BP := Aside0.mk (blk_below BP.out hb); clear HW BP; have HW := n_HW; have BP := n_BP; clear n_HW n_BP; clear hb; clear kp0 kp1; have kp0 := blk_c' BP.out 0 rfl; have kp1 := blk_c' BP.out 1 rfl) | (go_at_call 11; refine (awake_at _).mono ?_; rintro e w5 ⟨rfl, hb⟩; have n_HW := Aside0.mk (below_step HW.out hb); have n_BP := Aside0.mk (blk_below BP.out hb); clear HW BP; have HW := n_HW; have BP := n_BP; clear n_HW n_BP; clear hb))
      go_ret
      exact ⟨rfl, HW.out⟩
    have d1 : decide ((ps.length : Int) > 60) = false := decide_eq_false (by omega)
    have e1 : decide ((60 : Int) < (ps.length : Int)) = false := decide_eq_false (by omega)
    obtain ⟨hsm, hl60⟩ := few_all hfb
    have HOKHL : Aside0 (∀ o ∈ l, OpOk o) := ⟨fun o ho => ⟨(HOA.out o ho).1, (HOA.out o ho).2, (hsm o ho).1, (hsm o ho).2.1, (hsm o ho).2.2.1, (hsm o ho).2.2.2⟩⟩
    clear hsm hfb
    have HH0 := Aside0.mk h0
    have HH1 := Aside0.mk h1
    clear h0 h1 hfm hpm
    go_enter Try.func4, Try.ntmps4
    go_upto_region 3 with (first | ((with_reducible refine gate_dst (N := 4) rfl ?_); refine box_event ?hg (N := 4) ?hd (cs := #[.slice A0 fs.length c0, .slice A1 ps.length c1]) (t := 24) ?hr ?_; (case hd => rfl); (case hg => rfl); (case hr => first | (go_simp; done) | (go_simp; rfl)); intro gp hg w3 hbox hb; have BP := Aside0.mk hbox; have kp0 := blk_c' hbox 0 rfl; have kp1 := blk_c' hbox 1 rfl; have n_HW := Aside0.mk (below_step HW.out hb); clear HW; have HW := n_HW; clear n_HW; clear hg hbox hb) | (go_at_call 10; refine (few_at A2 c2 l 60 _ (Kd.C_below HL.out HW.out) HLC.out HLM.out).mono ?_; rw [HFB.out]; rintro e w5 ⟨rfl, hb⟩; have n_HW := Aside0.mk (below_step HW.out hb); have n_BP := Aside0.mk (blk_below BP.out hb); clear HW BP; have HW := n_HW; have BP := n_BP; clear n_HW n_BP; clear hb; clear kp0 kp1; have kp0 := blk_c' BP.out 0 rfl; have kp1 := blk_c' BP.out 1 rfl))
    go_upto_region 4 with (go_at_call 12; refine (new_at2 cap A0 c0 fs A1 c1 ps _ (Kd.C_below HF0.out HW.out) HC0.out HH0.out (Kd.C_below HF1.out HW.out) HC1.out HH1.out).mono ?_; rintro e w5 ⟨gd, φ, B, rfl, hB, hd, hb⟩; have HBd := Aside0.mk (Nat.le_trans (below_size HW.out) hB); have n_HW := Aside0.mk (below_step HW.out hb); clear HW; have HW := n_HW; clear n_HW; have Hd := Aside0.mk hd; have HG := Aside0.mk (Good.new HCAP.out HH0.out HH1.out); clear hd hB hb)
    clear BP kp0 kp1 d0 d1 e0 e1
    go_upto_region 5 with (fail)
    go_loopw [42] (fun v42 wr => ∃ (i : Nat) (S : DA) (φ : Nat → Tg), i ≤ l.length ∧ v42 = .int .i64 i ∧ Aside0 (DAt wr φ B gd S) ∧ Aside0 (Good i S) ∧ Aside0 (S.room = max cap 0) ∧ Aside0 (Below w.heap.size w wr)) (fun v42 _ => l.length - (intOf v42).toNat)
    case atStart => exact ⟨0, _, _, Nat.zero_le _, rfl, Hd, HG, ⟨rfl⟩, HW⟩
    case round =>
      clear Hd HG HW
      obtain ⟨i, S, φ, hi, rfl, Hd, HG, HRM, HW⟩ := hrel
      rename World => wr
      by_cases hlt : i < l.length
      · obtain ⟨ad, A3, c3, A4, c4, e0, x0, x1, x2, x3, x4, l3, g3, l4, g4⟩ := at_T32 HL.out (i : Int) (by omega) (by omega)
        subst e0
        have hmem : rd_T32 l (i : Int) ∈ l := by rw [rd32 l i hlt]; exact List.getElem_mem hlt
        simp only [Int.toNat_natCast] at x0 x1 x2 x3 x4
        have hoo := HOKHL.out _ hmem
        obtain ⟨o, ho⟩ : ∃ o, rd_T32 l (i : Int) = o := ⟨_, rfl⟩
        rw [ho] at x0 x1 x2 x3 x4 l3 g3 l4 g4 hoo hmem
        replace x0 := (HW.out.cell (World.block_lt_of_cell? w _ x0)).trans x0
        replace x1 := (HW.out.cell (World.block_lt_of_cell? w _ x1)).trans x1
        replace x2 := (HW.out.cell (World.block_lt_of_cell? w _ x2)).trans x2
        replace x3 := (HW.out.cell (World.block_lt_of_cell? w _ x3)).trans x3
        replace x4 := (HW.out.cell (World.block_lt_of_cell? w _ x4)).trans x4
        have HOO := Aside0.mk hoo
        have HO3 := Aside0.mk l3
        have HG3 := Aside0.mk g3
        have HG4 := Aside0.mk g4
        have HOE := Aside0.mk ho
        clear hoo l3 g3 l4 g4 hmem ho
        have HOK := Aside0.mk (HG.out.ok (by omega))
        have HNA := Aside0.mk HG.out.named
        have HRI := Aside0.mk HG.out.rise
        go_upto_region 7 with (first | ((with_reducible refine gate_dst (N := 9) rfl ?_); refine box_event ?hg (N := 9) ?hd (cs := #[.int .u8 0, .string ByteArray.empty, .string ByteArray.empty, .slice none 0 0, .slice none 0 0]) (t := 32) ?hr ?_; (case hd => rfl); (case hg => rfl); (case hr => first | (go_simp; done) | (go_simp; rfl)); intro g9 hg w3 hbox hb; have HGE := Aside0.mk hg; have BX := Aside0.mk hbox; have HX := Aside0.mk hb; have bz := fun j => blk_frozen hbox j; have bc0 := (blk_cell hbox 0).trans (show _ = some (.int .u8 0) from rfl); have bc1 := (blk_cell hbox 1).trans (show _ = some (.string ByteArray.empty) from rfl); have bc2 := (blk_cell hbox 2).trans (show _ = some (.string ByteArray.empty) from rfl); have bc3 := (blk_cell hbox 3).trans (show _ = some (.slice none 0 0) from rfl); have bc4 := (blk_cell hbox 4).trans (show _ = some (.slice none 0 0) from rfl); clear hbox hb hg))
        have hge := Nat.le_of_eq HGE.out.symm
        have s0 := blk_put (cs' := #[.int .u8 o.f0, .string ByteArray.empty, .string ByteArray.empty, .slice none 0 0, .slice none 0 0]) BX.out 0 (.int .u8 o.f0) rfl
        have h0 := below_set (j := 0) (v := .int .u8 o.f0) HX.out hge
        have s1 := blk_put (cs' := #[.int .u8 o.f0, .string o.f1, .string ByteArray.empty, .slice none 0 0, .slice none 0 0]) s0 1 (.string o.f1) rfl
        have h1 := below_set (j := 1) (v := .string o.f1) h0 hge
        have s2 := blk_put (cs' := #[.int .u8 o.f0, .string o.f1, .string o.f2, .slice none 0 0, .slice none 0 0]) s1 2 (.string o.f2) rfl
        have h2 := below_set (j := 2) (v := .string o.f2) h1 hge
        have s3 := blk_put (cs' := #[.int .u8 o.f0, .string o.f1, .string o.f2, .slice A3 o.f3.length c3, .slice none 0 0]) s2 3 (.slice A3 o.f3.length c3) rfl
        have h3 := below_set (j := 3) (v := .slice A3 o.f3.length c3) h2 hge
        have s4 := blk_put (cs' := #[.int .u8 o.f0, .string o.f1, .string o.f2, .slice A3 o.f3.length c3, .slice A4 o.f4.length c4]) s3 4 (.slice A4 o.f4.length c4) rfl
        have h4 := below_set (j := 4) (v := .slice A4 o.f4.length c4) h3 hge
        generalize (World.setCell (World.setCell (World.setCell (World.setCell (World.setCell w3 ⟨g9, 0, none⟩ (.int .u8 o.f0)) ⟨g9, 1, none⟩ (.string o.f1)) ⟨g9, 2, none⟩ (.string o.f2)) ⟨g9, 3, none⟩ (.slice A3 o.f3.length c3)) ⟨g9, 4, none⟩ (.slice A4 o.f4.length c4)) = w7 at s4 h4 ⊢
        have hno := Hd.out.new_no g9 hge
        clear s0 s1 s2 s3 h0 h1 h2 h3 hge bz bc0 bc1 bc2 bc3 bc4 BX HX HGE
        have o0 := (blk_cell s4 0).trans (show _ = some (.int .u8 o.f0) from rfl)
        have o1 := (blk_cell s4 1).trans (show _ = some (.string o.f1) from rfl)
        have o2 := (blk_cell s4 2).trans (show _ = some (.string o.f2) from rfl)
        have o3 := (blk_cell s4 3).trans (show _ = some (.slice A3 o.f3.length c3) from rfl)
        have o4 := (blk_cell s4 4).trans (show _ = some (.slice A4 o.f4.length c4) from rfl)
        have hb := h4
        have n_HW := Aside0.mk (below_step HW.out hb); have n_Hd := Aside0.mk (Hd.out.below hb); clear HW Hd; have HW := n_HW; have Hd := n_Hd; clear n_HW n_Hd
        have VO := Aside0.mk (Stays.mk' (P := fun W => W.heap[g9]? = some (.cells #[.int .u8 o.f0, .string o.f1, .string o.f2, .slice A3 o.f3.length c3, .slice A4 o.f4.length c4] 32 (0, 0))) (fun k => k = g9) (fun k hk => by subst hk; exact ⟨blk_lt s4, hno⟩) (fun W hW => (hW g9 rfl).trans s4))
        clear hno
        clear h4 hb s4
        have HIL : Aside0 (i < l.length ∧ l.length ≤ 60) := ⟨by omega⟩
        obtain ⟨a0, a1⟩ : 0 ≤ o.f0 ∧ o.f0 ≤ 255 := ⟨HOO.out.a0, HOO.out.a1⟩
        by_cases h7 : o.f0 % 7 ≤ 4
        rotate_left
        · have d7 : decide (o.f0 % 7 > 4) = true := decide_eq_true (by omega)
          have e7 : decide (4 < o.f0 % 7) = true := decide_eq_true (by omega)
          clear h7
          go_wp2
          go_roundw
          case rel => exact ⟨i + 1, _, _, by omega, by go_num, Hd, ⟨HG.out.upto (Nat.le_succ _)⟩, HRM, HW⟩
          case measure => simp [intOf]; omega
        have d7 : decide (o.f0 % 7 > 4) = false := decide_eq_false (by omega)
        have e7 : decide (4 < o.f0 % 7) = false := decide_eq_false (by omega)
        have H7 := Aside0.mk h7
        clear h7
        go_upto_region 8 with (fail)
        clear d7 e7 o0 o1 o2 o3 o4 a0 a1 hi
        go_upto_region 9 with (first | (go_at_call 14; refine (files_at gd B _ S _ Hd.out HOK.out HNA.out).mono ?_; rintro e w5 ⟨m1, n_m1, rfl, ho, hm, hb, hnb⟩; have hno := Hd.out.new_no m1 hm; have n_HW := Aside0.mk (below_step HW.out hb); have n_Hd := Aside0.mk (Hd.out.below hb); have n_VO := Aside0.mk (VO.out.below hb); clear HW Hd VO; have HW := n_HW; have Hd := n_Hd; have VO := n_VO; clear n_HW n_Hd n_VO; have Mm1 := Aside0.mk (Stays.owns ho hno); have Km1 := Aside0.mk hnb; clear ho hm hb hno hnb) | (go_at_call 15; refine (calls_at gd B _ S _ Hd.out).mono ?_; rintro e w5 ⟨rfl, rfl⟩))
        have o0 := (blk_cell (VO.out.self) 0).trans (show _ = some (.int .u8 o.f0) from rfl)
        have o1 := (blk_cell (VO.out.self) 1).trans (show _ = some (.string o.f1) from rfl)
        have o2 := (blk_cell (VO.out.self) 2).trans (show _ = some (.string o.f2) from rfl)
        have o3 := (blk_cell (VO.out.self) 3).trans (show _ = some (.slice A3 o.f3.length c3) from rfl)
        have o4 := (blk_cell (VO.out.self) 4).trans (show _ = some (.slice A4 o.f4.length c4) from rfl)
        have HG' := Aside0.mk (HG.out.doesO HOO.out)
        have HOK' := Aside0.mk (HG'.out.ok (by have := HIL.out; omega))
        have HNA' := Aside0.mk HG'.out.named
        go_upto_region 10 with (first | (go_at_call 13; refine (does_op gd B _ S o A3 c3 A4 c4 _ Hd.out HOK.out HOO.out HO3.out w HW.out HBd.out HG3.out HG4.out).mono ?_; rintro e w5 ⟨φ', rfl, hd, hs⟩; have n_HW := Aside0.mk (step_all HW.out HBd.out Hd.out hs); have n_VO := Aside0.mk (VO.out.step hs); have n_Mm1 := Aside0.mk (Mm1.out.step hs); clear HW VO Mm1; have HW := n_HW; have VO := n_VO; have Mm1 := n_Mm1; clear n_HW n_VO n_Mm1; clear Hd; have Hd := Aside0.mk hd; clear hd hs))
        clear o0 o1 o2 o3 o4
        obtain ⟨re, hre⟩ : ∃ re, (doesO S o).2 = re := ⟨_, rfl⟩
        obtain ⟨S', hS'⟩ : ∃ S', (doesO S o).1 = S' := ⟨_, rfl⟩
        rw [hS'] at Hd HG' HOK' HNA'
        rw [hre]
        have HRE := Aside0.mk hre
        have HSE := Aside0.mk hS'
        clear hre hS'
        go_upto_region 11 with (first | (go_at_call 14; refine (files_at gd B _ S' _ Hd.out HOK'.out HNA'.out).mono ?_; rintro e w5 ⟨m2, n_m2, rfl, ho, hm, hb, hnb⟩; have hno := Hd.out.new_no m2 hm; have NE12 := Aside0.mk (Nat.ne_of_lt (Nat.lt_of_lt_of_le Mm1.out.self.lt hm)); have NE92 := Aside0.mk (Nat.ne_of_lt (Nat.lt_of_lt_of_le (blk_lt VO.out.self) hm)); have HNO2 := Aside0.mk hno; have HM2 := Aside0.mk (Nat.le_trans (below_size HW.out) hm); have n_HW := Aside0.mk (below_step HW.out hb); have n_Hd := Aside0.mk (Hd.out.below hb); have n_VO := Aside0.mk (VO.out.below hb); have n_Mm1 := Aside0.mk (Mm1.out.below hb); clear HW Hd VO Mm1; have HW := n_HW; have Hd := n_Hd; have VO := n_VO; have Mm1 := n_Mm1; clear n_HW n_Hd n_VO n_Mm1; have Mm2 := Aside0.mk (Stays.owns ho hno); have Km2 := Aside0.mk hnb; clear ho hm hb hno hnb))
        obtain ⟨hc0, hc1⟩ : 0 ≤ S.calls ∧ S.calls ≤ 60 := ⟨HG.out.c0, by have := HG.out.c1; have := HIL.out; omega⟩
        have hcl : S'.calls = S.calls + 1 := by rw [← HSE.out]; exact doesO_calls S o H7.out HOO.out.a0
        have hrm : S'.room = max cap 0 := by rw [← HSE.out]; exact (doesO_room S o).trans HRM.out
        have hft := HG'.out.fit
        rw [hrm] at hft
        obtain ⟨u, hu⟩ : ∃ u, used S'.files = u := ⟨_, rfl⟩
        rw [hu] at hft
        have du : decide (u > max cap 0) = false := decide_eq_false (by omega)
        have eu : decide (max cap 0 < u) = false := decide_eq_false (by omega)
        have HU := Aside0.mk hu
        have HCL := Aside0.mk hcl
        have HRM' := Aside0.mk hrm
        clear hu hcl hrm hft
        go_upto_region 13 with (first | (go_at_call 15; refine (calls_at gd B _ S' _ Hd.out).mono ?_; rintro e w5 ⟨rfl, rfl⟩; rw [HCL.out]) | (go_at_call 19; refine (used_at gd B _ S' _ Hd.out HOK'.out.fits.few).mono ?_; rw [HU.out]; rintro e w5 ⟨rfl, hb⟩; have n_HW := Aside0.mk (below_step HW.out hb); have n_Hd := Aside0.mk (Hd.out.below hb); have n_VO := Aside0.mk (VO.out.below hb); have n_Mm1 := Aside0.mk (Mm1.out.below hb); have n_Mm2 := Aside0.mk (Mm2.out.below hb); clear HW Hd VO Mm1 Mm2; have HW := n_HW; have Hd := n_Hd; have VO := n_VO; have Mm1 := n_Mm1; have Mm2 := n_Mm2; clear n_HW n_Hd n_VO n_Mm1 n_Mm2; clear hb))
        clear du eu hc0 hc1
        rename World => w9
        have o0 := (blk_cell (VO.out.self) 0).trans (show _ = some (.int .u8 o.f0) from rfl)
        have o1 := (blk_cell (VO.out.self) 1).trans (show _ = some (.string o.f1) from rfl)
        have o3 := (blk_cell (VO.out.self) 3).trans (show _ = some (.slice A3 o.f3.length c3) from rfl)
        obtain ⟨ap, hap⟩ : ∃ ap, decide (re = 12 ∧ o.f0 % 7 = 1) = ap := ⟨_, rfl⟩
        have HAP := Aside0.mk hap
        clear hap
        obtain ⟨a0, a1⟩ : 0 ≤ o.f0 ∧ o.f0 ≤ 255 := ⟨HOO.out.a0, HOO.out.a1⟩
        go_cut [78] (fun v78 wx => v78 = .bool ap ∧ w9 = wx)
        case first =>
          by_cases he : re = 12
          · by_cases ha : o.f0 % 7 = 1
            · have x1 : (re == 12) = true := by rw [he]; rfl
              have x2 : (o.f0 % 7 == 1) = true := by rw [ha]; rfl
              have hap : true = ap := by rw [← HAP.out]; exact (decide_eq_true ⟨he, ha⟩).symm
              have HAP2 := Aside0.mk hap
              clear he ha hap
              go_wp2
              have hap := HAP2.out
              subst hap
              go_meet
              case rel => exact ⟨rfl, rfl⟩
            · have x1 : (re == 12) = true := by rw [he]; rfl
              have x2 : (o.f0 % 7 == 1) = false := beq_eq_false_iff_ne.2 ha
              have hap : false = ap := by rw [← HAP.out]; exact (decide_eq_false (fun h => ha h.2)).symm
              have HAP2 := Aside0.mk hap
              clear he ha hap
              go_wp2
              have hap := HAP2.out
              subst hap
              go_meet
              case rel => exact ⟨rfl, rfl⟩
          · have x1 : (re == 12) = false := beq_eq_false_iff_ne.2 he
            have hap : false = ap := by rw [← HAP.out]; exact (decide_eq_false (fun h => he h.1)).symm
            have HAP2 := Aside0.mk hap
            clear he hap
            go_wp2
            have hap := HAP2.out
            subst hap
            go_meet
            case rel => exact ⟨rfl, rfl⟩
        case rest =>
          obtain ⟨rfl, rfl⟩ := hcut
          have HRI' := Aside0.mk HG'.out.rise
          go_upto_if 78 with (fail)
          go_cut [] (fun wx => ErrRel w9 wx m2 S o re)
          case first =>
            cases ap with
            | false =>
              clear o0 o1 o3 a0 a1
              have hnap : ¬ (re = 12 ∧ o.f0 % 7 = 1) := of_decide_eq_false HAP.out
              go_wp2
              go_meet
              case rel =>
                refine ⟨filesOf S'.files, n_m2, ⟨Mm2.out.self⟩, ⟨fun he => ?_⟩, ⟨fun p hp h1 h2 => ?_⟩, ⟨filesOf_vals _⟩, ⟨World.grownBy.refl _ _⟩⟩
                · have h1 := doesO_err HRI.out H7.out HOO.out.a0 (by rw [HRE.out]; exact he) (by rw [HRE.out]; exact hnap)
                  rw [HSE.out] at h1
                  rw [h1]
                · have h3 := doesO_other HRI.out H7.out HOO.out.a0 (mem_get HRI.out hp) h1 h2
                  rw [HSE.out] at h3
                  rw [look_filesOf HRI'.out, h3]
                  rfl
            | true =>
              have hapt : re = 12 ∧ o.f0 % 7 = 1 := of_decide_eq_true HAP.out
              obtain ⟨f, r, hgf, hrl, hse⟩ := app_refused (S := S) (o := o) (by have := HG.out.fit; unfold left; omega) hapt.2 (by rw [HRE.out]; exact hapt.1)
              rw [HSE.out] at hse
              obtain ⟨nm, hnm⟩ : ∃ nm, o.f1.data.toList = nm := ⟨_, rfl⟩
              rw [hnm] at hgf hse
              have hon : o.f1 = str nm := by rw [← hnm, str_of]
              rw [hon] at o1
              have hln : nm.length ≤ 1000 := by have h := HOO.out.s1; rw [hon, str_size] at h; omega
              have hg2 : get S'.files nm = some ⟨f.b ++ o.f3.take r, f.safe⟩ := by rw [hse]; exact (get_put HRI.out nm nm _).trans (if_pos rfl)
              obtain ⟨ss, hss⟩ : ∃ ss, strOfNums f.b = ss := ⟨_, rfl⟩
              obtain ⟨bs, hbs⟩ : ∃ bs, strOfNums (o.f3.take r) = bs := ⟨_, rfl⟩
              obtain ⟨fl, hfl⟩ : ∃ fl, (f.b.length : Int) - f.safe = fl := ⟨_, rfl⟩
              have hsn := HG.out.sane _ (get_mem hgf)
              have hll := HOK.out.small.len _ (get_mem hgf)
              simp only at hsn hll
              have htl : (o.f3.take r).length = r := by rw [List.length_take]; omega
              have e1 : lookF S.files nm = .agg #[.string ss, .int .i64 fl] := by unfold lookF fval; rw [hgf]; simp only [Option.map_some, Option.getD_some]; rw [hss, hfl]
              have e2 : lookF S'.files nm = .agg #[.string (ss ++ bs), .int .i64 (fl + r)] := by
                unfold lookF fval
                rw [hg2]
                simp only [Option.map_some, Option.getD_some]
                rw [strOfNums_append, hss, hbs, List.length_append, htl, ← hfl]
                rw [show (((f.b.length + r : Nat) : Int) - f.safe) = (f.b.length : Int) - f.safe + r by omega]
              have HLK1 : Aside0 (∀ W, Below w9.heap.size w9 W → (Instr.lookup 35 (.map (some m1)) (.string (str nm)) false).run Try.prog W = .ok (.agg #[.string ss, .int .i64 fl]) W) := ⟨fun W hb => by have h1 := run_lookF HRI.out (Mm1.out.below hb).self nm hln; rw [e1] at h1; exact h1⟩
              have HLK2 : Aside0 (∀ W, Below w9.heap.size w9 W → (Instr.lookup 35 (.map (some m2)) (.string (str nm)) false).run Try.prog W = .ok (.agg #[.string (ss ++ bs), .int .i64 (fl + r)]) W) := ⟨fun W hb => by have h1 := run_lookF HRI'.out (Mm2.out.below hb).self nm hln; rw [e2] at h1; exact h1⟩
              have hss2 : (ss.size : Int) = f.b.length := by rw [← hss, str_size_nums]
              have hbs2 : (bs.size : Int) = r := by rw [← hbs, str_size_nums, htl]
              have hsb2 : ((ss ++ bs).size : Int) = (ss.size : Int) + r := by rw [ByteArray.size_append]; omega
              have hlb : o.f3.length ≤ 60 := HOO.out.s3
              have HBS := Aside0.mk hbs
              have HGF := Aside0.mk hgf
              have HSE2 := Aside0.mk hse
              have HON := Aside0.mk hon
              have HNM := Aside0.mk hnm
              have HRL := Aside0.mk hrl
              have HLN := Aside0.mk hln
              have HAPT := Aside0.mk hapt
              have HFV : Aside0 (fval f = .agg #[.string ss, .int .i64 fl]) := ⟨by unfold fval; rw [hss, hfl]⟩
              have hwf : IntKind.i64.wrap (fl + r) = fl + r := IntWalk.i64_in _ (by omega)
              have hws : IntKind.i64.wrap ((ss.size : Int) + (bs.size : Int) - (ss.size : Int)) = r := by rw [IntWalk.i64_in _ (by omega)]; omega
              have hwt : wrap64 ((ss.size : Int) + (bs.size : Int) - (ss.size : Int)) = r := by rw [w64' (by omega) (by omega)]; omega
              have HWT := Aside0.mk hwt
              have hcc : ∀ W : World, (binOp .add 9 (.string ss) (.string bs)).run Try.prog W = .ok (.string (ss ++ bs)) W := fun W => by simp [binOp, run_string_add_sum W ss bs (by omega)]
              have hcd : ¬ (9223372036854775807 < ss.size + bs.size) := by omega
              have hce : ss.size + bs.size ≤ 9223372036854775807 := by omega
              have HCC := Aside0.mk (And.intro hcd hce)
              clear hcc hcd hce
              have hwg : wrap64 (fl + r) = fl + r := w64' (by omega) (by omega)
              have HWG := Aside0.mk hwg
              have hd1 : decide ((r : Int) < 0) = false := decide_eq_false (by omega)
              have hd2 : decide ((r : Int) > (o.f3.length : Int)) = false := decide_eq_false (by omega)
              have hd3 : decide ((o.f3.length : Int) < (r : Int)) = false := decide_eq_false (by omega)
              have HWF := Aside0.mk hwf
              have HWS := Aside0.mk hws
              have HD1 := Aside0.mk hd1
              have HD2 := Aside0.mk hd2
              have HD3 := Aside0.mk hd3
              clear hgf hse hnm hon hln hg2 hss hbs hfl hsn hll htl e1 e2 hss2 hbs2 hsb2 hlb hwf hws hwt hwg hd1 hd2 hd3 hapt o0 a0 a1
              go_upto_region 14 with (fail)
              refine start_ (n := 12) (S := fun w' => Below w9.heap.size w9 w') (ds := [11]) #[false, false, false, false, false, false, false, false, false, false, false, false] (by kernel_rfl) rfl rfl (below_drew (Below.refl _ _)) (fun hHeld => ?_)
              refine with_tabW r4_14.tab r4_14.bits (fun HT_ HW_ => ?_)
              generalize w9.drew = wd at hHeld ⊢
              refine pure_ (i := 0) (N := some 79) (v := ?_) (a' := ?_) #[true, false, false, false, false, false, false, false, false, false, false, false] rfl rfl (any_of HT_.out (by kernel_rfl)) (fun _ _ _ h => h) (Or.inl ⟨by rfl, ?_⟩) ?_ ?_
              rotate_left
              · intro w'
                go_simp
                with_reducible rfl
              rotate_left
              · simp only [Act.put, List.setIfInBounds_toArray, List.set_cons_zero, List.set_cons_succ, i64_w, i32_w]
                rfl
              refine pure_ (i := 1) (N := some 80) (v := ?_) (a' := ?_) #[true, true, false, false, false, false, false, false, false, false, false, false] rfl rfl (any_of HT_.out (by kernel_rfl)) (fun _ _ _ h => h) (Or.inl ⟨by rfl, ?_⟩) ?_ ?_
              rotate_left
              · intro w'
                go_simp
                with_reducible rfl
              rotate_left
              · simp only [Act.put, List.setIfInBounds_toArray, List.set_cons_zero, List.set_cons_succ, i64_w, i32_w]
                rfl
              refine take_ (i := 2) (N := some 81) (v := ?_) (a' := ?_) #[true, true, true, false, false, false, false, false, false, false, false, false] rfl rfl (take_ofW HT_.out HW_.out (by kernel_rfl)) (fun _ _ _ h => h) (Or.inl ⟨by rfl, ?_⟩) hHeld ?_ ?_
              rotate_left
              · rintro w' hbq
                have c_o1 := (hbq.cell (World.block_lt_of_cell? w9 _ o1)).trans o1
                go_simp
                with_reducible rfl
              rotate_left
              · simp only [Act.put, List.setIfInBounds_toArray, List.set_cons_zero, List.set_cons_succ, i64_w, i32_w]
                rfl
              refine take_ (i := 3) (N := some 82) (v := ?_) (a' := ?_) #[true, true, true, true, false, false, false, false, false, false, false, false] rfl rfl (take_ofW HT_.out HW_.out (by kernel_rfl)) (fun _ _ _ h => h) (Or.inl ⟨by rfl, ?_⟩) hHeld ?_ ?_
              rotate_left
              · rintro w' hbq
                have hlk := HLK1.out w' hbq
                go_simp
                with_reducible rfl
              rotate_left
              · simp only [Act.put, List.setIfInBounds_toArray, List.set_cons_zero, List.set_cons_succ, i64_w, i32_w]
                rfl
              refine pure_ (i := 4) (N := some 83) (v := ?_) (a' := ?_) #[true, true, true, true, true, false, false, false, false, false, false, false] rfl rfl (any_of HT_.out (by kernel_rfl)) (fun _ _ _ h => h) (Or.inl ⟨by rfl, ?_⟩) ?_ ?_
              rotate_left
              · intro w'
                go_simp
                with_reducible rfl
              rotate_left
              · simp only [Act.put, List.setIfInBounds_toArray, List.set_cons_zero, List.set_cons_succ, i64_w, i32_w]
                rfl
              refine pure_ (i := 5) (N := some 84) (v := ?_) (a' := ?_) #[true, true, true, true, true, true, false, false, false, false, false, false] rfl rfl (any_of HT_.out (by kernel_rfl)) (fun _ _ _ h => h) (Or.inl ⟨by rfl, ?_⟩) ?_ ?_
              rotate_left
              · intro w'
                go_simp
                with_reducible rfl
              rotate_left
              · simp only [Act.put, List.setIfInBounds_toArray, List.set_cons_zero, List.set_cons_succ, i64_w, i32_w]
                rfl
              refine take_ (i := 6) (N := some 85) (v := ?_) (a' := ?_) #[true, true, true, true, true, true, true, false, false, false, false, false] rfl rfl (take_ofW HT_.out HW_.out (by kernel_rfl)) (fun _ _ _ h => h) (Or.inl ⟨by rfl, ?_⟩) hHeld ?_ ?_
              rotate_left
              · rintro w' hbq
                have c_o1 := (hbq.cell (World.block_lt_of_cell? w9 _ o1)).trans o1
                go_simp
                with_reducible rfl
              rotate_left
              · simp only [Act.put, List.setIfInBounds_toArray, List.set_cons_zero, List.set_cons_succ, i64_w, i32_w]
                rfl
              refine take_ (i := 7) (N := some 86) (v := ?_) (a' := ?_) #[true, true, true, true, true, true, true, true, false, false, false, false] rfl rfl (take_ofW HT_.out HW_.out (by kernel_rfl)) (fun _ _ _ h => h) (Or.inl ⟨by rfl, ?_⟩) hHeld ?_ ?_
              rotate_left
              · rintro w' hbq
                have hlk := HLK2.out w' hbq
                go_simp
                with_reducible rfl
              rotate_left
              · simp only [Act.put, List.setIfInBounds_toArray, List.set_cons_zero, List.set_cons_succ, i64_w, i32_w]
                rfl
              refine joinX (ι := Nat × Nat) 2 #[true, true, true, true, true, true, true, true, true, true, false, false] (fun i => [(14, .pointer (some ⟨i.1, 0, none⟩)), (15, .pointer (some ⟨i.2, 0, none⟩))]) (fun i wx => Aside0 (Below w9.heap.size w9 wx) ∧ Aside0 (wx.heap[i.1]? = some (.cells #[.string ByteArray.empty, .int .i64 0] 42 (0, 0))) ∧ Aside0 (wx.heap[i.2]? = some (.cells #[.string ByteArray.empty, .int .i64 0] 42 (0, 0))) ∧ Aside0 (w9.heap.size ≤ i.1) ∧ Aside0 (w9.heap.size ≤ i.2) ∧ Aside0 (i.1 ≠ i.2)) ?_ (fun JJ => ?_)
              rotate_left
              · refine two_ (i := 8) (j := 9) (Ni := some 14) (Nj := some 15) #[true, true, true, true, true, true, true, true, true, false, false, false] #[true, true, true, true, true, true, true, true, false, true, false, false] rfl rfl rfl rfl (two_of HT_.out (by kernel_rfl)) (by decide) (by decide) (fun K hK => ?_) (fun K hK => ?_)
                · refine box_step (N := 14) (cs := #[.string ByteArray.empty, .int .i64 0]) (t := 42) (by rfl) rfl (by first | (go_simp; done) | (go_simp; rfl)) ?_
                  intro ga hg w5 hbox hb
                  have Xga := Aside0.mk hbox
                  have Yga : Aside0 (w9.heap.size ≤ ga) := ⟨by rw [hg]; exact below_size hHeld⟩
                  refine hK.out _ _ (below_step hHeld hb) (fun hHeld => ?_)
                  clear hK K hbox hb hg
                  refine norm_ (a' := ?_) ?_ ?_
                  rotate_left
                  · show Act.put _ (some 14) _ = _
                    simp only [Act.put, List.setIfInBounds_toArray, List.set_cons_zero, List.set_cons_succ, i64_w, i32_w]
                    rfl
                  refine one_ (i := 9) (N := some 15) #[true, true, true, true, true, true, true, true, true, true, false, false] rfl rfl (one_of HT_.out (by kernel_rfl)) (by decide) (fun K hK => ?_)
                  refine box_step (N := 15) (cs := #[.string ByteArray.empty, .int .i64 0]) (t := 42) (by rfl) rfl (by first | (go_simp; done) | (go_simp; rfl)) ?_
                  intro gb hg w5 hbox hb
                  have Xgb := Aside0.mk hbox
                  have Ygb : Aside0 (w9.heap.size ≤ gb) := ⟨by rw [hg]; exact below_size hHeld⟩
                  have NE : Aside0 (ga ≠ gb) := ⟨by rw [hg]; exact Nat.ne_of_lt (blk_lt Xga.out)⟩
                  have X2 := Aside0.mk (blk_below Xga.out hb)
                  refine hK.out _ _ (below_step hHeld hb) (fun hHeld => ?_)
                  clear hK K hbox hb hg
                  refine norm_ ?_ (JJ.out (ga, gb) _ ⟨⟨hHeld⟩, X2, Xgb, Yga, Ygb, ⟨NE.out⟩⟩)
                  show Act.put _ (some 15) _ = _
                  simp only [putAll, Act.put, List.setIfInBounds_toArray, List.set_cons_zero, List.set_cons_succ]
                · refine box_step (N := 15) (cs := #[.string ByteArray.empty, .int .i64 0]) (t := 42) (by rfl) rfl (by first | (go_simp; done) | (go_simp; rfl)) ?_
                  intro gb hg w5 hbox hb
                  have Xgb := Aside0.mk hbox
                  have Ygb : Aside0 (w9.heap.size ≤ gb) := ⟨by rw [hg]; exact below_size hHeld⟩
                  refine hK.out _ _ (below_step hHeld hb) (fun hHeld => ?_)
                  clear hK K hbox hb hg
                  refine norm_ (a' := ?_) ?_ ?_
                  rotate_left
                  · show Act.put _ (some 15) _ = _
                    simp only [Act.put, List.setIfInBounds_toArray, List.set_cons_zero, List.set_cons_succ, i64_w, i32_w]
                    rfl
                  refine one_ (i := 8) (N := some 14) #[true, true, true, true, true, true, true, true, true, true, false, false] rfl rfl (one_of HT_.out (by kernel_rfl)) (by decide) (fun K hK => ?_)
                  refine box_step (N := 14) (cs := #[.string ByteArray.empty, .int .i64 0]) (t := 42) (by rfl) rfl (by first | (go_simp; done) | (go_simp; rfl)) ?_
                  intro ga hg w5 hbox hb
                  have Xga := Aside0.mk hbox
                  have Yga : Aside0 (w9.heap.size ≤ ga) := ⟨by rw [hg]; exact below_size hHeld⟩
                  have NE : Aside0 (gb ≠ ga) := ⟨by rw [hg]; exact Nat.ne_of_lt (blk_lt Xgb.out)⟩
                  have X2 := Aside0.mk (blk_below Xgb.out hb)
                  refine hK.out _ _ (below_step hHeld hb) (fun hHeld => ?_)
                  clear hK K hbox hb hg
                  refine norm_ ?_ (JJ.out (ga, gb) _ ⟨⟨hHeld⟩, Xga, X2, Yga, Ygb, ⟨NE.out.symm⟩⟩)
                  show Act.put _ (some 14) _ = _
                  simp only [putAll, Act.put, List.setIfInBounds_toArray, List.set_cons_zero, List.set_cons_succ]
              rintro ⟨ga, gb⟩ wx ⟨HHX, XA, XB, YA, YB, NE⟩
              dsimp only at XA XB YA YB NE ⊢
              simp only [putAll, Act.put, List.setIfInBounds_toArray, List.set_cons_zero, List.set_cons_succ]
              clear hHeld
              refine one_ (i := 10) (N := none) #[true, true, true, true, true, true, true, true, true, true, true, false] rfl rfl (one_of HT_.out (by kernel_rfl)) (by decide) (fun K hK => ?_)
              have za0 := (blk_cell XA.out 0).trans (show _ = some (.string ByteArray.empty) from rfl)
              have za1 := (blk_cell XA.out 1).trans (show _ = some (.int .i64 0) from rfl)
              have zaf := fun j => blk_frozen XA.out j
              have sh := (HHX.out.setCell (p := ⟨ga, 0, none⟩) YA.out (.string ss)).setCell (p := ⟨ga, 1, none⟩) YA.out (.int .i64 fl)
              refine skip_ (w1 := ?_) (by rfl) rfl ?_ ?_
              rotate_left
              · go_simp
                rfl
              refine hK.out _ _ sh (fun hHeld => ?_)
              clear hK K za0 za1 zaf hHeld
              have sa := blk_put (cs' := #[.string ss, .int .i64 fl]) (blk_put (cs' := #[.string ss, .int .i64 0]) XA.out 0 (.string ss) rfl) 1 (.int .i64 fl) rfl
              have sb := blk_far (blk_far XB.out (p := ⟨ga, 0, none⟩) (fun e => NE.out e.symm) (.string ss)) (p := ⟨ga, 1, none⟩) (fun e => NE.out e.symm) (.int .i64 fl)
              generalize World.setCell (World.setCell wx ⟨ga, 0, none⟩ (.string ss)) ⟨ga, 1, none⟩ (.int .i64 fl) = wy at sa sb sh ⊢
              have SA := Aside0.mk sa
              have SB := Aside0.mk sb
              have SH := Aside0.mk sh
              clear sa sb sh HHX XA XB
              refine last_ (i := 11) (N := none) #[true, true, true, true, true, true, true, true, true, true, true, true] rfl rfl (one_of HT_.out (by kernel_rfl)) (by decide) (fun K hK => ?_)
              have za0 := (blk_cell SB.out 0).trans (show _ = some (.string ByteArray.empty) from rfl)
              have za1 := (blk_cell SB.out 1).trans (show _ = some (.int .i64 0) from rfl)
              have zaf := fun j => blk_frozen SB.out j
              refine skip_ (w1 := ?_) (by rfl) rfl ?_ ?_
              rotate_left
              · go_simp
                rfl
              refine hK.out _ _ ?_
              clear hK K za0 za1 zaf
              refine done_ (done_of HT_.out (by kernel_rfl)) ?_
              have sa := blk_far (blk_far SA.out (p := ⟨gb, 0, none⟩) NE.out (.string (ss ++ bs))) (p := ⟨gb, 1, none⟩) NE.out (.int .i64 (fl + r))
              have sb := blk_put (cs' := #[.string (ss ++ bs), .int .i64 (fl + r)]) (blk_put (cs' := #[.string (ss ++ bs), .int .i64 0]) SB.out 0 (.string (ss ++ bs)) rfl) 1 (.int .i64 (fl + r)) rfl
              have sh := (SH.out.setCell (p := ⟨gb, 0, none⟩) YB.out (.string (ss ++ bs))).setCell (p := ⟨gb, 1, none⟩) YB.out (.int .i64 (fl + r))
              generalize World.setCell (World.setCell wy ⟨gb, 0, none⟩ (.string (ss ++ bs))) ⟨gb, 1, none⟩ (.int .i64 (fl + r)) = wv at sa sb sh ⊢
              have ka0 := (blk_cell sa 0).trans (show _ = some (.string ss) from rfl)
              have ka1 := (blk_cell sa 1).trans (show _ = some (.int .i64 fl) from rfl)
              have kb0 := (blk_cell sb 0).trans (show _ = some (.string (ss ++ bs)) from rfl)
              have kb1 := (blk_cell sb 1).trans (show _ = some (.int .i64 (fl + r)) from rfl)
              have HV := Aside0.mk sh
              have SA2 := Aside0.mk sa
              clear sa sb SA SB SH YA YB NE HLK1 HLK2
              clear o1 o3
              have hb := HV.out
              have o3 := (blk_cell (blk_below VO.out.self hb) 3).trans (show _ = some (.slice A3 o.f3.length c3) from rfl)
              have o1 := (blk_cell (blk_below VO.out.self hb) 1).trans (show _ = some (.string o.f1) from rfl)
              clear hb
              have hws := HWS.out
              have hwt := HWT.out
              go_upto_region 16 with (fail)
              have hwf := HWF.out
              have hwg := HWG.out
              obtain ⟨hcc, hcd⟩ := HCC.out
              have hd1 := HD1.out
              have hd2 := HD2.out
              have hd3 := HD3.out
              have hcut : ∀ W : World, (Instr.slice 30 (.slice A3 o.f3.length c3) none (some (.int .i64 (r : Int))) none).run Try.prog W = .ok (.slice A3 r c3) W := fun W => cut_h W A3 o.f3.length c3 r (Nat.le_trans HRL.out HO3.out)
              have hcv : ∀ W : World, Below w.heap.size w W → (convert 30 9 (.slice A3 r c3)).run Try.prog W = .ok (.string bs) W := fun W hb => by
                have h1 := Kd.C_take (Kd.C_below HG3.out hb) HRL.out
                rw [List.length_take, Nat.min_eq_left HRL.out] at h1
                have h2 := Kd.C_string (P := Try.prog) (c := c3) Try.underlying30 Try.underlying5 Try.underlying9 h1
                rw [HBS.out] at h2
                exact h2
              have hcv0 := hcv wv (below_step HW.out HV.out)
              have hcv1 : ∀ n, (convert 30 9 (.slice A3 r c3)).run Try.prog (wv.drewN n) = .ok (.string bs) (wv.drewN n) := fun n => hcv _ (pw_below_drewN (below_step HW.out HV.out) n)
              have hcv2 : (convert 30 9 (.slice A3 r c3)).run Try.prog wv.drew = .ok (.string bs) wv.drew := hcv1 1
              clear hcv
              go_quiet (fail)
              clear hws hwt hwf hwg hcc hcd hd1 hd2 hd3 hcut hcv0 hcv1 hcv2
              have ho := Mm2.out.below HV.out
              have HOQ := Aside0.mk (pw_own2 ho.self nq)
              clear ho
              rw [HON.out] at o1
              have HSZ : Aside0 ((str nm).size ≤ maxLen) := ⟨by rw [str_size]; have := HLN.out; unfold maxLen; omega⟩
              have HKN : Aside0 (n_m2 < maxLen) := ⟨by have := Km2.out; unfold maxLen; omega⟩
              go_wp2_with (at_mapUpdate; (with_reducible refine HStrMap.wp_store m35 _ rfl (.tmp 125) (.tmp 127) (.tmp 128) rfl m2 n_m2 _ ?g1 HOQ.out HKN.out (str nm) ?g3 HSZ.out (fval f) ?g4 ?_); (case g1 => rfl); (case g3 => rfl); (case g4 => rw [HFV.out]; rfl); intro wu ho9 hg9 hs9; have HO9 := Aside0.mk ho9; have HG9 := Aside0.mk hg9; clear ho9 hg9 hs9)
              go_meet
              case rel =>
                have hpm := back_perm (g := ⟨f.b ++ o.f3.take r, f.safe⟩) HRI.out HGF.out
                have hse := HSE2.out
                have e1 : S'.files = put nm ⟨f.b ++ o.f3.take r, f.safe⟩ S.files := by rw [hse]
                have HO := HO9.out
                rw [e1] at HO
                refine ⟨_, _, ⟨HO⟩, ⟨fun _ => hpm⟩, ⟨fun p hp h1 h2 => ?_⟩, ⟨fun q hq => filesOf_vals S.files q (hpm.mem_iff.2 hq)⟩, ⟨?_⟩⟩
                · exact (HStrMap.look_some HO.nodup).2 (hpm.mem_iff.1 (List.mem_map.2 ⟨p, hp, rfl⟩))
                · exact grown_below (pw_below_drewN HV.out _) HG9.out
          case rest =>
            rename World => wx
            obtain ⟨L2, k2, HL2, HPE, HLO, HVA, HGR⟩ := hcut
            clear o0 o1 o3 a0 a1
            have n_HW := Aside0.mk (pw_below_grown HW.out _ (below_size HW.out) HGR.out (fun k e => by cases e; exact HM2.out))
            have n_Hd := Aside0.mk (Hd.out.move HGR.out.size (fun k hk => HGR.out.block k (Hd.out.dom k hk).2 (fun e => by cases e; exact hk HNO2.out)))
            have ML1 := Aside0.mk (Mm1.out.self.move (HGR.out.block m1 Mm1.out.self.lt (fun e => NE12.out (Option.some.inj e))))
            have BO := Aside0.mk ((HGR.out.block g9 (blk_lt VO.out.self) (fun e => NE92.out (Option.some.inj e))).trans VO.out.self)
            clear HW Hd Mm1 Mm2 VO HGR
            have HW := n_HW
            have Hd := n_Hd
            clear n_HW n_Hd
            go_upto_region 19 with (fail)
            go_cut [136] (fun v136 wx => v136 = .bool false ∧ Aside0 (Below w.heap.size w wx) ∧ Aside0 (DAt wx φ' B gd S') ∧ Aside0 (wx.heap[g9]? = some (.cells #[.int .u8 o.f0, .string o.f1, .string o.f2, .slice A3 o.f3.length c3, .slice A4 o.f4.length c4] 32 (0, 0))) ∧ Aside0 (HStrMap.Owns m35 wx m1 n_m1 (filesOf S.files)) ∧ Aside0 (HStrMap.Owns m35 wx m2 k2 L2))
            case first =>
              by_cases hrn : re = 0
              · have x1 : (re != 0) = false := by rw [hrn]; rfl
                have x2 : (re == 0) = true := by rw [hrn]; rfl
                clear hrn
                go_wp2
                go_meet
                case rel => exact ⟨rfl, HW, Hd, BO, ML1, HL2⟩
              · have x2 : (re == 0) = false := beq_eq_false_iff_ne.2 hrn
                have x1 : (re != 0) = true := by unfold bne; rw [x2]; rfl
                go_wp2_with (first | (go_at_call 18; refine (same_at m1 m2 _ _ _ _ _ ML1.out HL2.out (HPE.out hrn) (filesOf_vals _)).mono ?_; rintro e w5 ⟨rfl, hb⟩; have n_ML1 := Aside0.mk (ML1.out.move (hb.block m1 ML1.out.lt)); have n_HL2 := Aside0.mk (HL2.out.move (hb.block m2 HL2.out.lt)); clear ML1 HL2; have ML1 := n_ML1; have HL2 := n_HL2; clear n_ML1 n_HL2; have n_HW := Aside0.mk (below_step HW.out hb); have n_Hd := Aside0.mk (Hd.out.below hb); have n_BO := Aside0.mk (blk_below BO.out hb); clear HW Hd BO; have HW := n_HW; have Hd := n_Hd; have BO := n_BO; clear n_HW n_Hd n_BO; clear hb))
                go_meet
                case rel => exact ⟨rfl, HW, Hd, BO, ML1, HL2⟩
            case rest =>
              clear HW Hd BO ML1 HL2
              obtain ⟨rfl, HW, Hd, BO, ML1, HL2⟩ := hcut
              rename World => w10
              obtain ⟨rr, hrr0⟩ : ∃ rr, rr = w10.heap.size := ⟨_, rfl⟩
              have HRR := Aside0.mk hrr0
              clear hrr0
              go_upto_region 22 with (at_range; (with_reducible refine HStrMap.wp_range m35 _ rfl (.tmp 137) rfl m1 n_m1 _ ?h1 ML1.out ?_); (case h1 => rfl); intro wg cnt hr9 hg9 hs9; have RG := Aside0.mk hr9; have HBg := Aside0.mk (pw_below_grown (Below.refl w10.heap.size w10) none (Nat.le_refl _) hg9 (fun k e => by cases e)); clear hr9 hg9 hs9)
              rw [← HRR.out]
              rw [← HRR.out] at RG
              go_frame
              go_loopw [17] (fun v17 wq => ERel w10 m1 rr n_m1 (filesOf S.files) wq) (fun v17 wq => wq.rangeLeft m1 rr)
              case atStart => exact ⟨_, cnt, RG, HBg⟩
              case round =>
                obtain ⟨todo, cnt, RQ, HBQ⟩ := hrel
                rename World => wq
                clear RG HBg
                go_wp2_with (at_next; (with_reducible refine HStrMap.wp_next m35 _ rfl (.tmp 138) rfl m1 rr n_m1 cnt _ todo ?h1 RQ.out ?_ ?_); (case h1 => rfl))
                · intro hdone
                  clear hdone
                  have hHd := Hd.out.below HBQ.out
                  go_wp2
                  go_roundw
                  case rel => exact ⟨i + 1, S', _, by have := HIL.out; omega, by go_num, ⟨hHd⟩, HG', HRM', ⟨below_step HW.out HBQ.out⟩⟩
                  case measure => have := HIL.out; simp [intOf]; omega
                · intro sx v todo' wp cnt9 hsz hperm hr9 hlt9 hg9 hs9 hen
                  have RG9 := Aside0.mk hr9
                  have HLT := Aside0.mk hlt9
                  have HB9 := Aside0.mk (pw_below_grown HBQ.out _ (below_size HBQ.out) hg9 (fun k e => by cases e; rw [HRR.out]; exact Nat.le_refl _))
                  have hmem := RQ.out.mem (sx, v) (hperm.mem_iff.2 List.mem_cons_self)
                  obtain ⟨p, hp, hpe⟩ := List.mem_map.1 hmem
                  simp only [Prod.mk.injEq] at hpe
                  obtain ⟨rfl, rfl⟩ := hpe
                  obtain ⟨t, x, hfv⟩ : ∃ t x, fval p.2 = .agg #[.string t, .int .i64 x] := ⟨_, _, rfl⟩
                  obtain ⟨t2, x2, hlf⟩ := look_form HVA.out (str p.1)
                  obtain ⟨is2, his⟩ : ∃ b, (HStrMap.look L2 (str p.1)).isSome = b := ⟨_, rfl⟩
                  have HLK : Aside0 (∀ W, Below wp.heap.size wp W → (Instr.lookup 35 (.map (some m2)) (.string (str p.1)) true).run Try.prog W = .ok (.tuple #[.agg #[.string t2, .int .i64 x2], .bool is2]) W) := ⟨fun W hb => by have h1 := HStrMap.run_look2 m35 (HL2.out.move ((below_step HB9.out hb).block m2 HL2.out.lt)) hsz; rw [his] at h1; rw [show (HStrMap.look L2 (str p.1)).getD m35.z = _ from hlf] at h1; exact h1⟩
                  have HSM : Aside0 (p.1 ≠ o.f1.data.toList → ¬ (o.f0 % 7 = 3 ∧ p.1 = o.f2.data.toList) → is2 = true ∧ t2 = t ∧ x2 = x) := ⟨fun h1 h2 => by
                    have h3 := HLO.out p hp h1 h2
                    rw [h3] at his hlf
                    have h4 := hlf.symm.trans hfv
                    simp only [Value.agg.injEq, Array.mk.injEq, List.cons.injEq, Value.string.injEq, Value.int.injEq, and_true, true_and] at h4
                    exact ⟨his.symm, h4.1, h4.2⟩⟩
                  rw [hfv] at hen
                  have HB0 := Aside0.mk (Below.refl wp.heap.size wp)
                  have BOp := Aside0.mk (blk_below BO.out HB9.out)
                  clear hsz hperm hr9 hlt9 hg9 hs9 hmem hp hlf his hfv
                  go_upto_region 24 with (first | ((with_reducible refine gate_dst (N := 18) rfl ?_); refine box_event ?hg (N := 18) ?hd (cs := #[.string ByteArray.empty, .int .i64 0]) (t := 42) ?hr ?_; (case hd => rfl); (case hg => rfl); (case hr => first | (go_simp; done) | (go_simp; rfl)); intro g18 hg w3 hbox hb; have BX := Aside0.mk hbox; have HX := Aside0.mk hb; have HGE := Aside0.mk hg; have bc0 := (blk_cell hbox 0).trans (show _ = some (.string ByteArray.empty) from rfl); have bc1 := (blk_cell hbox 1).trans (show _ = some (.int .i64 0) from rfl); have bz := fun j => blk_frozen hbox j; clear hbox hb hg))
                  have hge := Nat.le_of_eq HGE.out.symm
                  have s0 := blk_put (cs' := #[.string t, .int .i64 x]) (blk_put (cs' := #[.string t, .int .i64 0]) BX.out 0 (.string t) rfl) 1 (.int .i64 x) rfl
                  have h1 := below_set (j := 1) (v := .int .i64 x) (below_set (j := 0) (v := .string t) HX.out hge) hge
                  generalize World.setCell (World.setCell w3 ⟨g18, 0, none⟩ (.string t)) ⟨g18, 1, none⟩ (.int .i64 x) = w4 at s0 h1 ⊢
                  have S6 := Aside0.mk s0
                  have B6 := Aside0.mk h1
                  have hlk := HLK.out _ B6.out
                  clear s0 h1 hge BX HX HGE bc0 bc1 bz
                  go_upto_region 25 with (first | ((with_reducible refine gate_dst (N := 19) rfl ?_); refine box_event ?hg (N := 19) ?hd (cs := #[.string ByteArray.empty, .int .i64 0]) (t := 42) ?hr ?_; (case hd => rfl); (case hg => rfl); (case hr => first | (go_simp; done) | (go_simp; rfl)); intro g19 hg w3 hbox hb; have BX := Aside0.mk hbox; have HX := Aside0.mk hb; have HGE := Aside0.mk hg; have bc0 := (blk_cell hbox 0).trans (show _ = some (.string ByteArray.empty) from rfl); have bc1 := (blk_cell hbox 1).trans (show _ = some (.int .i64 0) from rfl); have bz := fun j => blk_frozen hbox j; clear hbox hb hg))
                  have hne : g18 ≠ g19 := by rw [HGE.out]; exact Nat.ne_of_lt (blk_lt S6.out)
                  have hge := Nat.le_of_eq HGE.out.symm
                  have s6 := blk_far (blk_far (blk_below S6.out HX.out) (p := ⟨g19, 0, none⟩) hne (.string t2)) (p := ⟨g19, 1, none⟩) hne (.int .i64 x2)
                  have s0 := blk_put (cs' := #[.string t2, .int .i64 x2]) (blk_put (cs' := #[.string t2, .int .i64 0]) BX.out 0 (.string t2) rfl) 1 (.int .i64 x2) rfl
                  have h1 := below_step B6.out (below_set (j := 1) (v := .int .i64 x2) (below_set (j := 0) (v := .string t2) HX.out hge) hge)
                  generalize World.setCell (World.setCell w3 ⟨g19, 0, none⟩ (.string t2)) ⟨g19, 1, none⟩ (.int .i64 x2) = w6 at s0 s6 h1 ⊢
                  have B7 := Aside0.mk h1
                  have c60 := (blk_cell s6 0).trans (show _ = some (.string t) from rfl)
                  have c61 := (blk_cell s6 1).trans (show _ = some (.int .i64 x) from rfl)
                  have c70 := (blk_cell s0 0).trans (show _ = some (.string t2) from rfl)
                  have c71 := (blk_cell s0 1).trans (show _ = some (.int .i64 x2) from rfl)
                  have o0 := (blk_cell (blk_below BOp.out B7.out) 0).trans (show _ = some (.int .u8 o.f0) from rfl)
                  have o1 := (blk_cell (blk_below BOp.out B7.out) 1).trans (show _ = some (.string o.f1) from rfl)
                  have o2 := (blk_cell (blk_below BOp.out B7.out) 2).trans (show _ = some (.string o.f2) from rfl)
                  clear s0 s6 h1 hne hge BX HX HGE bc0 bc1 bz hlk BOp
                  obtain ⟨a0, a1⟩ : 0 ≤ o.f0 ∧ o.f0 ≤ 255 := ⟨HOO.out.a0, HOO.out.a1⟩
                  by_cases hn1 : p.1 = o.f1.data.toList
                  · have y1 : ((str p.1).toList == o.f1.toList) = true := by rw [toList_str, ByteArray.toList_eq, hn1]; exact beq_self_eq_true _
                    clear hn1 HSM
                    go_wp2
                    go_roundw
                    case rel => exact ⟨todo', cnt9, ⟨RG9.out.move (B7.out.block m1 RG9.out.owns.lt) (B7.out.block rr RG9.out.lt)⟩, ⟨below_step HB9.out B7.out⟩⟩
                    case measure => rw [HStrMap.Ranges.left (HStrMap.Ranges.move RG9.out (B7.out.block m1 RG9.out.owns.lt) (B7.out.block rr RG9.out.lt)), HStrMap.Ranges.left RQ.out]; exact HLT.out
                  · have y1 : ((str p.1).toList == o.f1.toList) = false := by rw [toList_str, ByteArray.toList_eq]; exact beq_eq_false_iff_ne.2 hn1
                    by_cases h3 : o.f0 % 7 = 3
                    · have y3 : (o.f0 % 7 == 3) = true := by rw [h3]; rfl
                      by_cases hn2 : p.1 = o.f2.data.toList
                      · have y2 : ((str p.1).toList == o.f2.toList) = true := by rw [toList_str, ByteArray.toList_eq, hn2]; exact beq_self_eq_true _
                        clear hn1 hn2 h3 HSM
                        go_wp2
                        go_roundw
                        case rel => exact ⟨todo', cnt9, ⟨RG9.out.move (B7.out.block m1 RG9.out.owns.lt) (B7.out.block rr RG9.out.lt)⟩, ⟨below_step HB9.out B7.out⟩⟩
                        case measure => rw [HStrMap.Ranges.left (HStrMap.Ranges.move RG9.out (B7.out.block m1 RG9.out.owns.lt) (B7.out.block rr RG9.out.lt)), HStrMap.Ranges.left RQ.out]; exact HLT.out
                      · have y2 : ((str p.1).toList == o.f2.toList) = false := by rw [toList_str, ByteArray.toList_eq]; exact beq_eq_false_iff_ne.2 hn2
                        obtain ⟨rfl, rfl, rfl⟩ := HSM.out hn1 (fun h => hn2 h.2)
                        clear hn1 hn2 h3 HSM
                        go_wp2
                        go_roundw
                        case rel => exact ⟨todo', cnt9, ⟨RG9.out.move (B7.out.block m1 RG9.out.owns.lt) (B7.out.block rr RG9.out.lt)⟩, ⟨below_step HB9.out B7.out⟩⟩
                        case measure => rw [HStrMap.Ranges.left (HStrMap.Ranges.move RG9.out (B7.out.block m1 RG9.out.owns.lt) (B7.out.block rr RG9.out.lt)), HStrMap.Ranges.left RQ.out]; exact HLT.out
                    · have y3 : (o.f0 % 7 == 3) = false := beq_eq_false_iff_ne.2 h3
                      obtain ⟨rfl, rfl, rfl⟩ := HSM.out hn1 (fun h => h3 h.1)
                      clear hn1 h3 HSM
                      go_wp2
                      go_roundw
                      case rel => exact ⟨todo', cnt9, ⟨RG9.out.move (B7.out.block m1 RG9.out.owns.lt) (B7.out.block rr RG9.out.lt)⟩, ⟨below_step HB9.out B7.out⟩⟩
                      case measure => rw [HStrMap.Ranges.left (HStrMap.Ranges.move RG9.out (B7.out.block m1 RG9.out.owns.lt) (B7.out.block rr RG9.out.lt)), HStrMap.Ranges.left RQ.out]; exact HLT.out
      · obtain rfl : i = l.length := by omega
        go_wp2_with (first | (go_at_call 11; refine (awake_at _).mono ?_; rintro e w5 ⟨rfl, hb⟩; have n_HW := Aside0.mk (below_step HW.out hb); have n_Hd := Aside0.mk (Hd.out.below hb); clear HW Hd; have HW := n_HW; have Hd := n_Hd; clear n_HW n_Hd; clear hb))
        go_ret
        exact ⟨rfl, HW.out⟩
end Go.Proofs.Yteibdmpjlpcgbaa.XDisk
