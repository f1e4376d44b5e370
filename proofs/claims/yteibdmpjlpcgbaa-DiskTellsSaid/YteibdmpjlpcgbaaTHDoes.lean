/- Op.Does: what is done with a disk. -/
import Derived.Test.YteibdmpjlpcgbaaTHNew
namespace Go.Proofs.Yteibdmpjlpcgbaa.XDisk
open Go Go.RowKit Go.Proofs.YteibdmpjlpcgbaaW.PrintWords Go.Proofs.YteibdmpjlpcgbaaW.PrintLast Go.Proofs.YteibdmpjlpcgbaaW.PrintMore
open Go.Proofs.Yteibdmpjlpcgbaa
set_option linter.unusedVariables false
set_option linter.unusedSimpArgs false
def doesP (S : DA) (a : Int) (n1 n2 : Nm) (b ks : List Int) : DA × Int :=
  if a % 7 = 0 then createP S n1 else if a % 7 = 1 then appendP S n1 b else if a % 7 = 2 then syncP S n1 else if a % 7 = 3 then renameP S n1 n2 else if a % 7 = 4 then removeP S n1 else if a % 7 = 6 then (crashP S ks, 0) else (S, 0)
/-- A disk within the bounds of the statements. -/
structure Ok (S : DA) : Prop where
  small : Small S
  fits : Fits S
  sane : Sane S.files
  nl : ∀ p ∈ S.files, p.1.length ≤ 1000
  fl : S.files.length ≤ 100000
set_option maxHeartbeats 8000000 in
set_option maxRecDepth 100000 in
theorem does_at (gd B : Nat) (φ : Nat → Tg) (S : DA) (a : Int) (n1 n2 : Nm) (b ks : List Int) (Ab : Option Addr) (cb : Nat) (Ak : Option Addr) (ck : Nat) (w : World) (h : DAt w φ B gd S) (hO : Ok S) (ha0 : 0 ≤ a) (ha1 : a ≤ 255) (hl1 : n1.length ≤ 1000) (hl2 : n2.length ≤ 1000) (hlb : b.length ≤ 1000000) (hcb : b.length ≤ cb) (hb0 : Stays w φ (fun W => Kd.C (Kd.int .u8) W Ab b.length b)) (hk0 : Stays w φ (fun W => Kd.C (Kd.int .i64) W Ak ks.length ks)) :
    Calls Try.prog 13 #[.agg #[.int .u8 a, .string (str n1), .string (str n2), .slice Ab b.length cb, .slice Ak ks.length ck], .pointer (some ⟨gd, 0, none⟩)] w (CallPost (Comes w φ B gd (doesP S a n1 n2 b ks))) := by
  have HD := Aside0.mk h
  have HO := Aside0.mk hO
  have HL1 := Aside0.mk hl1
  have HL2 := Aside0.mk hl2
  have HLB := Aside0.mk hlb
  have HCB := Aside0.mk hcb
  have HKB := Aside0.mk hb0
  have HKK := Aside0.mk hk0
  have HB := Aside0.mk (Below.refl w.heap.size w)
  clear h hO hl1 hl2 hlb hcb hb0 hk0
  have hm7 : a % 7 = 0 ∨ a % 7 = 1 ∨ a % 7 = 2 ∨ a % 7 = 3 ∨ a % 7 = 4 ∨ a % 7 = 5 ∨ a % 7 = 6 := by omega
  rcases hm7 with hm | hm | hm | hm | hm | hm | hm
  · have hP : doesP S a n1 n2 b ks = createP S n1 := by unfold doesP; rw [hm]; rfl
    rw [hP]
    clear hP
    have d0 : (a % 7 == 0) = true := by rw [hm]; rfl
    have d1 : (a % 7 == 1) = false := by rw [hm]; rfl
    have d2 : (a % 7 == 2) = false := by rw [hm]; rfl
    have d3 : (a % 7 == 3) = false := by rw [hm]; rfl
    have d4 : (a % 7 == 4) = false := by rw [hm]; rfl
    have d6 : (a % 7 == 6) = false := by rw [hm]; rfl
    clear hm
    go_enter Try.func13, Try.ntmps13
    go_wp2_with (first | ((with_reducible refine gate_dst (N := 2) rfl ?_); refine box_event ?hg (N := 2) ?hd (cs := #[.int .u8 a, .string (str n1), .string (str n2), .slice Ab b.length cb, .slice Ak ks.length ck]) (t := 32) ?hr ?_; (case hd => rfl); (case hg => rfl); (case hr => first | (go_simp; done) | (go_simp; rfl)); intro gb hgb wN hbox hb; have n_HB := Aside0.mk (below_step HB.out hb); have bk0 := (blk_cell hbox 0).trans (show _ = some (.int .u8 a) from rfl); have bk1 := (blk_cell hbox 1).trans (show _ = some (.string (str n1)) from rfl); have bk2 := (blk_cell hbox 2).trans (show _ = some (.string (str n2)) from rfl); have bk3 := (blk_cell hbox 3).trans (show _ = some (.slice Ab b.length cb) from rfl); have bk4 := (blk_cell hbox 4).trans (show _ = some (.slice Ak ks.length ck) from rfl); clear HB hb hgb hbox; have HB := n_HB; clear n_HB) | (go_at_call 28; refine (create_at gd B φ S n1 _ (HD.out.below HB.out) HO.out.small HL1.out).mono ?_; rintro e w5 ⟨r, rfl, hr, φ', hd, hs⟩; have HR := Aside0.mk hr; have HQ := Aside0.mk hd; have HT := Aside0.mk ((Step.of_below HB.out).trans hs); clear hr hd hs))
    go_ret
    exact ⟨_, rfl, HR.out, φ', HQ.out, HT.out⟩
  · have hP : doesP S a n1 n2 b ks = appendP S n1 b := by unfold doesP; rw [hm]; rfl
    rw [hP]
    clear hP
    have d0 : (a % 7 == 0) = false := by rw [hm]; rfl
    have d1 : (a % 7 == 1) = true := by rw [hm]; rfl
    have d2 : (a % 7 == 2) = false := by rw [hm]; rfl
    have d3 : (a % 7 == 3) = false := by rw [hm]; rfl
    have d4 : (a % 7 == 4) = false := by rw [hm]; rfl
    have d6 : (a % 7 == 6) = false := by rw [hm]; rfl
    clear hm
    go_enter Try.func13, Try.ntmps13
    go_wp2_with (first | ((with_reducible refine gate_dst (N := 2) rfl ?_); refine box_event ?hg (N := 2) ?hd (cs := #[.int .u8 a, .string (str n1), .string (str n2), .slice Ab b.length cb, .slice Ak ks.length ck]) (t := 32) ?hr ?_; (case hd => rfl); (case hg => rfl); (case hr => first | (go_simp; done) | (go_simp; rfl)); intro gb hgb wN hbox hb; have n_HB := Aside0.mk (below_step HB.out hb); have bk0 := (blk_cell hbox 0).trans (show _ = some (.int .u8 a) from rfl); have bk1 := (blk_cell hbox 1).trans (show _ = some (.string (str n1)) from rfl); have bk2 := (blk_cell hbox 2).trans (show _ = some (.string (str n2)) from rfl); have bk3 := (blk_cell hbox 3).trans (show _ = some (.slice Ab b.length cb) from rfl); have bk4 := (blk_cell hbox 4).trans (show _ = some (.slice Ak ks.length ck) from rfl); clear HB hb hgb hbox; have HB := n_HB; clear n_HB) | (go_at_call 31; refine (append_at gd B φ S n1 b Ab cb _ (HD.out.below HB.out) HO.out.small HO.out.fits HL1.out HLB.out HCB.out (HKB.out.below HB.out)).mono ?_; rintro e w5 ⟨r, rfl, hr, φ', hd, hs⟩; have HR := Aside0.mk hr; have HQ := Aside0.mk hd; have HT := Aside0.mk ((Step.of_below HB.out).trans hs); clear hr hd hs))
    go_ret
    exact ⟨_, rfl, HR.out, φ', HQ.out, HT.out⟩
  · have hP : doesP S a n1 n2 b ks = syncP S n1 := by unfold doesP; rw [hm]; rfl
    rw [hP]
    clear hP
    have d0 : (a % 7 == 0) = false := by rw [hm]; rfl
    have d1 : (a % 7 == 1) = false := by rw [hm]; rfl
    have d2 : (a % 7 == 2) = true := by rw [hm]; rfl
    have d3 : (a % 7 == 3) = false := by rw [hm]; rfl
    have d4 : (a % 7 == 4) = false := by rw [hm]; rfl
    have d6 : (a % 7 == 6) = false := by rw [hm]; rfl
    clear hm
    go_enter Try.func13, Try.ntmps13
    go_wp2_with (first | ((with_reducible refine gate_dst (N := 2) rfl ?_); refine box_event ?hg (N := 2) ?hd (cs := #[.int .u8 a, .string (str n1), .string (str n2), .slice Ab b.length cb, .slice Ak ks.length ck]) (t := 32) ?hr ?_; (case hd => rfl); (case hg => rfl); (case hr => first | (go_simp; done) | (go_simp; rfl)); intro gb hgb wN hbox hb; have n_HB := Aside0.mk (below_step HB.out hb); have bk0 := (blk_cell hbox 0).trans (show _ = some (.int .u8 a) from rfl); have bk1 := (blk_cell hbox 1).trans (show _ = some (.string (str n1)) from rfl); have bk2 := (blk_cell hbox 2).trans (show _ = some (.string (str n2)) from rfl); have bk3 := (blk_cell hbox 3).trans (show _ = some (.slice Ab b.length cb) from rfl); have bk4 := (blk_cell hbox 4).trans (show _ = some (.slice Ak ks.length ck) from rfl); clear HB hb hgb hbox; have HB := n_HB; clear n_HB) | (go_at_call 32; refine (sync_at gd B φ S n1 _ (HD.out.below HB.out) HO.out.small HL1.out).mono ?_; rintro e w5 ⟨r, rfl, hr, φ', hd, hs⟩; have HR := Aside0.mk hr; have HQ := Aside0.mk hd; have HT := Aside0.mk ((Step.of_below HB.out).trans hs); clear hr hd hs))
    go_ret
    exact ⟨_, rfl, HR.out, φ', HQ.out, HT.out⟩
  · have hP : doesP S a n1 n2 b ks = renameP S n1 n2 := by unfold doesP; rw [hm]; rfl
    rw [hP]
    clear hP
    have d0 : (a % 7 == 0) = false := by rw [hm]; rfl
    have d1 : (a % 7 == 1) = false := by rw [hm]; rfl
    have d2 : (a % 7 == 2) = false := by rw [hm]; rfl
    have d3 : (a % 7 == 3) = true := by rw [hm]; rfl
    have d4 : (a % 7 == 4) = false := by rw [hm]; rfl
    have d6 : (a % 7 == 6) = false := by rw [hm]; rfl
    clear hm
    go_enter Try.func13, Try.ntmps13
    go_wp2_with (first | ((with_reducible refine gate_dst (N := 2) rfl ?_); refine box_event ?hg (N := 2) ?hd (cs := #[.int .u8 a, .string (str n1), .string (str n2), .slice Ab b.length cb, .slice Ak ks.length ck]) (t := 32) ?hr ?_; (case hd => rfl); (case hg => rfl); (case hr => first | (go_simp; done) | (go_simp; rfl)); intro gb hgb wN hbox hb; have n_HB := Aside0.mk (below_step HB.out hb); have bk0 := (blk_cell hbox 0).trans (show _ = some (.int .u8 a) from rfl); have bk1 := (blk_cell hbox 1).trans (show _ = some (.string (str n1)) from rfl); have bk2 := (blk_cell hbox 2).trans (show _ = some (.string (str n2)) from rfl); have bk3 := (blk_cell hbox 3).trans (show _ = some (.slice Ab b.length cb) from rfl); have bk4 := (blk_cell hbox 4).trans (show _ = some (.slice Ak ks.length ck) from rfl); clear HB hb hgb hbox; have HB := n_HB; clear n_HB) | (go_at_call 26; refine (rename_at gd B φ S n1 n2 _ (HD.out.below HB.out) HO.out.small HL1.out HL2.out).mono ?_; rintro e w5 ⟨r, rfl, hr, φ', hd, hs⟩; have HR := Aside0.mk hr; have HQ := Aside0.mk hd; have HT := Aside0.mk ((Step.of_below HB.out).trans hs); clear hr hd hs))
    go_ret
    exact ⟨_, rfl, HR.out, φ', HQ.out, HT.out⟩
  · have hP : doesP S a n1 n2 b ks = removeP S n1 := by unfold doesP; rw [hm]; rfl
    rw [hP]
    clear hP
    have d0 : (a % 7 == 0) = false := by rw [hm]; rfl
    have d1 : (a % 7 == 1) = false := by rw [hm]; rfl
    have d2 : (a % 7 == 2) = false := by rw [hm]; rfl
    have d3 : (a % 7 == 3) = false := by rw [hm]; rfl
    have d4 : (a % 7 == 4) = true := by rw [hm]; rfl
    have d6 : (a % 7 == 6) = false := by rw [hm]; rfl
    clear hm
    go_enter Try.func13, Try.ntmps13
    go_wp2_with (first | ((with_reducible refine gate_dst (N := 2) rfl ?_); refine box_event ?hg (N := 2) ?hd (cs := #[.int .u8 a, .string (str n1), .string (str n2), .slice Ab b.length cb, .slice Ak ks.length ck]) (t := 32) ?hr ?_; (case hd => rfl); (case hg => rfl); (case hr => first | (go_simp; done) | (go_simp; rfl)); intro gb hgb wN hbox hb; have n_HB := Aside0.mk (below_step HB.out hb); have bk0 := (blk_cell hbox 0).trans (show _ = some (.int .u8 a) from rfl); have bk1 := (blk_cell hbox 1).trans (show _ = some (.string (str n1)) from rfl); have bk2 := (blk_cell hbox 2).trans (show _ = some (.string (str n2)) from rfl); have bk3 := (blk_cell hbox 3).trans (show _ = some (.slice Ab b.length cb) from rfl); have bk4 := (blk_cell hbox 4).trans (show _ = some (.slice Ak ks.length ck) from rfl); clear HB hb hgb hbox; have HB := n_HB; clear n_HB) | (go_at_call 27; refine (remove_at gd B φ S n1 _ (HD.out.below HB.out) HO.out.small HL1.out).mono ?_; rintro e w5 ⟨r, rfl, hr, φ', hd, hs⟩; have HR := Aside0.mk hr; have HQ := Aside0.mk hd; have HT := Aside0.mk ((Step.of_below HB.out).trans hs); clear hr hd hs))
    go_ret
    exact ⟨_, rfl, HR.out, φ', HQ.out, HT.out⟩
  · have hP : doesP S a n1 n2 b ks = (S, 0) := by unfold doesP; rw [hm]; rfl
    rw [hP]
    clear hP
    have d0 : (a % 7 == 0) = false := by rw [hm]; rfl
    have d1 : (a % 7 == 1) = false := by rw [hm]; rfl
    have d2 : (a % 7 == 2) = false := by rw [hm]; rfl
    have d3 : (a % 7 == 3) = false := by rw [hm]; rfl
    have d4 : (a % 7 == 4) = false := by rw [hm]; rfl
    have d6 : (a % 7 == 6) = false := by rw [hm]; rfl
    clear hm
    go_enter Try.func13, Try.ntmps13
    go_wp2_with (first | ((with_reducible refine gate_dst (N := 2) rfl ?_); refine box_event ?hg (N := 2) ?hd (cs := #[.int .u8 a, .string (str n1), .string (str n2), .slice Ab b.length cb, .slice Ak ks.length ck]) (t := 32) ?hr ?_; (case hd => rfl); (case hg => rfl); (case hr => first | (go_simp; done) | (go_simp; rfl)); intro gb hgb wN hbox hb; have n_HB := Aside0.mk (below_step HB.out hb); have bk0 := (blk_cell hbox 0).trans (show _ = some (.int .u8 a) from rfl); have bk1 := (blk_cell hbox 1).trans (show _ = some (.string (str n1)) from rfl); have bk2 := (blk_cell hbox 2).trans (show _ = some (.string (str n2)) from rfl); have bk3 := (blk_cell hbox 3).trans (show _ = some (.slice Ab b.length cb) from rfl); have bk4 := (blk_cell hbox 4).trans (show _ = some (.slice Ak ks.length ck) from rfl); clear HB hb hgb hbox; have HB := n_HB; clear n_HB))
    go_ret
    exact ⟨_, rfl, rfl, φ, HD.out.below HB.out, Step.of_below HB.out⟩
  · have hP : doesP S a n1 n2 b ks = (crashP S ks, 0) := by unfold doesP; rw [hm]; rfl
    rw [hP]
    clear hP
    have d0 : (a % 7 == 0) = false := by rw [hm]; rfl
    have d1 : (a % 7 == 1) = false := by rw [hm]; rfl
    have d2 : (a % 7 == 2) = false := by rw [hm]; rfl
    have d3 : (a % 7 == 3) = false := by rw [hm]; rfl
    have d4 : (a % 7 == 4) = false := by rw [hm]; rfl
    have d6 : (a % 7 == 6) = true := by rw [hm]; rfl
    clear hm
    go_enter Try.func13, Try.ntmps13
    go_wp2_with (first | ((with_reducible refine gate_dst (N := 2) rfl ?_); refine box_event ?hg (N := 2) ?hd (cs := #[.int .u8 a, .string (str n1), .string (str n2), .slice Ab b.length cb, .slice Ak ks.length ck]) (t := 32) ?hr ?_; (case hd => rfl); (case hg => rfl); (case hr => first | (go_simp; done) | (go_simp; rfl)); intro gb hgb wN hbox hb; have n_HB := Aside0.mk (below_step HB.out hb); have bk0 := (blk_cell hbox 0).trans (show _ = some (.int .u8 a) from rfl); have bk1 := (blk_cell hbox 1).trans (show _ = some (.string (str n1)) from rfl); have bk2 := (blk_cell hbox 2).trans (show _ = some (.string (str n2)) from rfl); have bk3 := (blk_cell hbox 3).trans (show _ = some (.slice Ab b.length cb) from rfl); have bk4 := (blk_cell hbox 4).trans (show _ = some (.slice Ak ks.length ck) from rfl); clear HB hb hgb hbox; have HB := n_HB; clear n_HB) | (go_at_call 17; refine (crash_at gd B φ S ks Ak ck _ (HD.out.below HB.out) HO.out.sane HO.out.small.len HO.out.nl HO.out.fl (HKK.out.below HB.out)).mono ?_; rintro e w5 ⟨rfl, hd, hs⟩; have HQ := Aside0.mk hd; have HT := Aside0.mk ((Step.of_below HB.out).trans hs); clear hd hs))
    go_ret
    exact ⟨_, rfl, rfl, φ, HQ.out, HT.out⟩
end Go.Proofs.Yteibdmpjlpcgbaa.XDisk
