/- DiskCopy: a copy has all that the disk has, and goes its own way. -/
import Derived.Test.YteibdmpjlpcgbaaHTwo
namespace Go.Proofs.Yteibdmpjlpcgbaa.XDisk
open Go Go.RowKit Go.Proofs.YteibdmpjlpcgbaaW.PrintWords Go.Proofs.YteibdmpjlpcgbaaW.PrintLast Go.Proofs.YteibdmpjlpcgbaaW.PrintMore
open Go.Proofs.Yteibdmpjlpcgbaa
set_option linter.unusedVariables false
set_option linter.unusedSimpArgs false
/-- What is done with a disk, op by op; the answers. -/
def runO : DA → List S32 → DA
  | S, [] => S
  | S, o :: l => runO (doesO S o).1 l
def resO : DA → List S32 → List Int
  | _, [] => []
  | S, o :: l => (doesO S o).2 :: resO (doesO S o).1 l
theorem runO_snoc : ∀ (l : List S32) (S : DA) (o : S32), runO S (l ++ [o]) = (doesO (runO S l) o).1
  | [], _, _ => rfl
  | p :: l, S, o => runO_snoc l (doesO S p).1 o
theorem resO_snoc : ∀ (l : List S32) (S : DA) (o : S32), resO S (l ++ [o]) = resO S l ++ [(doesO (runO S l) o).2]
  | [], _, _ => rfl
  | p :: l, S, o => by
    show (doesO S p).2 :: resO (doesO S p).1 (l ++ [o]) = (doesO S p).2 :: resO (doesO S p).1 l ++ [(doesO (runO (doesO S p).1 l) o).2]
    rw [resO_snoc l]
    rfl
theorem resO_len : ∀ (l : List S32) (S : DA), (resO S l).length = l.length
  | [], _ => rfl
  | p :: l, S => by simp [resO, resO_len l]
theorem take_rd (l : List S32) (j : Nat) (h : j < l.length) : l.take (j + 1) = l.take j ++ [rd_T32 l (j : Int)] := by
  rw [List.take_succ_eq_append_getElem h, rd32 l j h]
theorem resO_get (l : List S32) (S : DA) (j : Nat) (h : j < l.length) : (resO S l).getD j 0 = (doesO (runO S (l.take j)) (rd_T32 l (j : Int))).2 := by
  have e : l = l.take j ++ (rd_T32 l (j : Int)) :: l.drop (j + 1) := by
    rw [rd32 l j h, ← List.drop_eq_getElem_cons h, List.take_append_drop]
  have key : ∀ (a b : List S32) (S : DA) (o : S32), (resO S (a ++ o :: b)).getD a.length 0 = (doesO (runO S a) o).2 := by
    intro a
    induction a with
    | nil => intro b S o; rfl
    | cons p a ih =>
      intro b S o
      show ((doesO S p).2 :: resO (doesO S p).1 (a ++ o :: b)).getD (a.length + 1) 0 = _
      rw [List.getD_cons_succ, ih]
      rfl
  have hl : (l.take j).length = j := by rw [List.length_take]; omega
  have h2 := key (l.take j) (l.drop (j + 1)) S (rd_T32 l (j : Int))
  rw [← e, hl] at h2
  exact h2
theorem R_formI {k : IntKind} {e b : Nat} {W : World} {ok : Nat → Prop} {v : Value} {xs : List Int} (h : Kd.R (Kd.int k) e W b ok v xs) : ∃ A c, v = .slice A xs.length c := by
  obtain ⟨inner, ho⟩ := Kd.R_own h
  rcases ho.2 with ⟨h1, h2⟩ | ⟨g, cap, cur, h1, _⟩
  · rw [← h2] at h1; exact ⟨none, 0, by rw [h1, h2]⟩
  · exact ⟨_, _, h1⟩
theorem infoErr : (Try.prog.info? 33).map (fun i => (i.zero, i.size, i.bytes)) = some (some (.int .i64 0), 1, 8) := by kernel_rfl
/-- A row that is nobody's, where a disk is done something with. -/
theorem R_stepped {k : IntKind} {e b : Nat} {w w' : World} {φ φ' : Nat → Tg} {v : Value} {xs : List Int} (h : Kd.R (Kd.int k) e w b (fun q => φ q = .no) v xs) (hs : Step w w' φ φ') : Kd.R (Kd.int k) e w' b (fun q => φ' q = .no) v xs :=
  Kd.R_mono (Kd.R_move (Kd.R_bound h) (fun q hq => hs.1.block q hq.2.2.1 (fun x => x hq.1))) (fun q hq => hs.2 q hq.2.2.1 hq.1)
theorem uni_new {w : World} {φ χ : Nat → Tg} {B g B' g' : Nat} {S S' : DA} (hd : DAt w φ B g S) (hc : DAt w χ B' g' S') (k : Nat) (hk : w.heap.size ≤ k) : uni φ χ k = .no := uni_no.2 ⟨hd.new_no k hk, hc.new_no k hk⟩
theorem copy_ne {k : IntKind} {e b m n : Nat} {w : World} {ok : Nat → Prop} {v : Value} {xs : List Int} {l : List (ByteArray × Value)} (hR : Kd.R (Kd.int k) e w b ok v xs) (ho : HStrMap.Owns m35 w m n l) : some m ≠ v.ownBlock := by
  intro q
  obtain ⟨_, _, _, x, _, cells, hc⟩ := (Kd.R_bound hR).1 m q.symm
  obtain ⟨es, c, h2⟩ := ho.obj
  rw [h2] at hc
  cases hc
/-- A map beside a row that grows. -/
theorem copy_stays {w w' : World} {χ : Nat → Tg} {m n : Nat} {l : List (ByteArray × Value)} {A : Option Addr} {j c : Nat} (h : Stays w χ (fun W => HStrMap.Owns m35 W m n l)) (hg : w.grownBy w' (Value.slice A j c).ownBlock) (hne : some m ≠ (Value.slice A j c).ownBlock) (hno : χ m = .no) : Stays w' χ (fun W => HStrMap.Owns m35 W m n l) :=
  Stays.owns (h.self.move (hg.block m h.self.lt hne)) hno
def r8_23.T : Bool × List (List Nat × List Nat) := (true, [([], []), ([], []), ([0, 1], [0, 1]), ([], []), ([], []), ([3, 4], [3, 4]), ([5], [5]), ([2, 6], [2, 6])])
def r8_23.B : List Nat := [0, 0, 3, 0, 0, 24, 56, 127]
theorem r8_23.tab : rtab .any (opsOf Try.f8 23) = r8_23.T := by kernel_rfl
theorem r8_23.bits : waitsOk r8_23.T.2 r8_23.B = true := by kernel_rfl
set_option maxHeartbeats 32000000 in
set_option maxRecDepth 100000 in
theorem copy_walk (cap : Int) (A0 : Option Addr) (c0 : Nat) (fs : List Int) (A1 : Option Addr) (c1 : Nat) (ps : List Int) (A2 : Option Addr) (c2 : Nat) (l : List S32) (A5 : Option Addr) (c5 : Nat) (more : List S32) (w : World) (hcap : cap ≤ 9223372036854775807) (hr0 : Kd.C (Kd.int .i64) w A0 fs.length fs) (hc0 : fs.length ≤ c0) (hr1 : Kd.C (Kd.int .i64) w A1 ps.length ps) (hc1 : ps.length ≤ c1) (hr2 : Kd.C k32 w A2 l.length l) (hc2 : l.length ≤ c2) (hl : l.length ≤ 9223372036854775807) (hop : ∀ o ∈ l, 0 ≤ o.f0 ∧ o.f0 ≤ 255) (hr3 : Kd.C k32 w A5 more.length more) (hc3 : more.length ≤ c5) (hm : more.length ≤ 9223372036854775807) (hoq : ∀ o ∈ more, 0 ≤ o.f0 ∧ o.f0 ≤ 255) :
    Calls Try.prog 8 #[.int .i64 cap, .agg #[.slice A0 fs.length c0, .slice A1 ps.length c1], .slice A2 l.length c2, .slice A5 more.length c5] w fun e w' => e = .returned (.bool true) ∧ Below w.heap.size w w' := by
  have HF0 := Aside0.mk hr0
  have HF1 := Aside0.mk hr1
  have HL := Aside0.mk hr2
  have HM := Aside0.mk hr3
  have HC0 := Aside0.mk hc0
  have HC1 := Aside0.mk hc1
  have HLC := Aside0.mk hc2
  have HMC := Aside0.mk hc3
  have HLM : Aside0 (l.length ≤ 9223372036854775807) := ⟨hl⟩
  have HMM : Aside0 (more.length ≤ 9223372036854775807) := ⟨hm⟩
  have hfm : fs.length ≤ 9223372036854775807 := hr0.2.1
  have hpm : ps.length ≤ 9223372036854775807 := hr1.2.1
  have HCAP := Aside0.mk hcap
  have HOA := Aside0.mk hop
  have HOB := Aside0.mk hoq
  have HW := Aside0.mk (Below.refl w.heap.size w)
  have HQ1 : Aside0 True := ⟨trivial⟩
  clear hr0 hr1 hr2 hr3 hc0 hc1 hc2 hc3 hcap hop hoq
  obtain ⟨fb, hfb⟩ : ∃ fb, fewP l 40 = fb := ⟨_, rfl⟩
  have HFB := Aside0.mk hfb
  obtain ⟨gb, hgb⟩ : ∃ gb, fewP more 20 = gb := ⟨_, rfl⟩
  have HGB := Aside0.mk hgb
  cases fb with
  | false =>
    clear hfb hgb
    go_enter Try.func8, Try.ntmps8
    go_wp2_with (first | ((with_reducible refine gate_dst (N := 5) rfl ?_); refine box_event ?hg (N := 5) ?hd (cs := #[.slice A0 fs.length c0, .slice A1 ps.length c1]) (t := 24) ?hr ?_; (case hd => rfl); (case hg => rfl); (case hr => first | (go_simp; done) | (go_simp; rfl)); intro gp hg w3 hbox hb; have BP := Aside0.mk hbox; have kp0 := blk_c' hbox 0 rfl; have kp1 := blk_c' hbox 1 rfl; have n_HW := Aside0.mk (below_step HW.out hb); clear HW; have HW := n_HW; clear n_HW; clear hg hbox hb) | (go_at_call 10; have hq := HQ1.out; refine (few_at A2 c2 l 40 _ (Kd.C_below HL.out HW.out) HLC.out HLM.out).mono ?_; rw [HFB.out]; rintro e w5 ⟨rfl, hb⟩; have n_HW := Aside0.mk (below_step HW.out hb); have n_BP := Aside0.mk (blk_below BP.out hb); clear HW BP; have HW := n_HW; have BP := n_BP; clear n_HW n_BP; clear hb; clear kp0 kp1; have kp0 := blk_c' BP.out 0 rfl; have kp1 := blk_c' BP.out 1 rfl; clear HQ1 hq) | (go_at_call 10; refine (few_at A5 c5 more 20 _ (Kd.C_below HM.out HW.out) HMC.out HMM.out).mono ?_; rw [HGB.out]; rintro e w5 ⟨rfl, hb⟩; have n_HW := Aside0.mk (below_step HW.out hb); have n_BP := Aside0.mk (blk_below BP.out hb); clear HW BP; have HW := n_HW; have BP := n_BP; clear n_HW n_BP; clear hb; clear kp0 kp1; have kp0 := blk_c' BP.out 0 rfl; have kp1 := blk_c' BP.out 1 rfl) | (go_at_call 11; refine (awake_at _).mono ?_; rintro e w5 ⟨rfl, hb⟩; have n_HW := Aside0.mk (below_step HW.out hb); have n_BP := Aside0.mk (blk_below BP.out hb); clear HW BP; have HW := n_HW; have BP := n_BP; clear n_HW n_BP; clear hb))
    go_ret
    exact ⟨rfl, HW.out⟩
  | true =>
    by_cases h0 : fs.length ≤ 60
    rotate_left
    · cases gb with
      | false =>
        clear hfb hgb
        go_enter Try.func8, Try.ntmps8
        go_wp2_with (first | ((with_reducible refine gate_dst (N := 5) rfl ?_); refine box_event ?hg (N := 5) ?hd (cs := #[.slice A0 fs.length c0, .slice A1 ps.length c1]) (t := 24) ?hr ?_; (case hd => rfl); (case hg => rfl); (case hr => first | (go_simp; done) | (go_simp; rfl)); intro gp hg w3 hbox hb; have BP := Aside0.mk hbox; have kp0 := blk_c' hbox 0 rfl; have kp1 := blk_c' hbox 1 rfl; have n_HW := Aside0.mk (below_step HW.out hb); clear HW; have HW := n_HW; clear n_HW; clear hg hbox hb) | (go_at_call 10; have hq := HQ1.out; refine (few_at A2 c2 l 40 _ (Kd.C_below HL.out HW.out) HLC.out HLM.out).mono ?_; rw [HFB.out]; rintro e w5 ⟨rfl, hb⟩; have n_HW := Aside0.mk (below_step HW.out hb); have n_BP := Aside0.mk (blk_below BP.out hb); clear HW BP; have HW := n_HW; have BP := n_BP; clear n_HW n_BP; clear hb; clear kp0 kp1; have kp0 := blk_c' BP.out 0 rfl; have kp1 := blk_c' BP.out 1 rfl; clear HQ1 hq) | (go_at_call 10; refine (few_at A5 c5 more 20 _ (Kd.C_below HM.out HW.out) HMC.out HMM.out).mono ?_; rw [HGB.out]; rintro e w5 ⟨rfl, hb⟩; have n_HW := Aside0.mk (below_step HW.out hb); have n_BP := Aside0.mk (blk_below BP.out hb); clear HW BP; have HW := n_HW; have BP := n_BP; clear n_HW n_BP; clear hb; clear kp0 kp1; have kp0 := blk_c' BP.out 0 rfl; have kp1 := blk_c' BP.out 1 rfl) | (go_at_call 11; refine (awake_at _).mono ?_; rintro e w5 ⟨rfl, hb⟩; have n_HW := Aside0.mk (below_step HW.out hb); have n_BP := Aside0.mk (blk_below BP.out hb); clear HW BP; have HW := n_HW; have BP := n_BP; clear n_HW n_BP; clear hb))
        go_ret
        exact ⟨rfl, HW.out⟩
      | true =>
        have d0 : decide ((fs.length : Int) > 60) = true := decide_eq_true (by omega)
        have e0 : decide ((60 : Int) < (fs.length : Int)) = true := decide_eq_true (by omega)
        clear hfb hgb
        go_enter Try.func8, Try.ntmps8
        go_wp2_with (first | ((with_reducible refine gate_dst (N := 5) rfl ?_); refine box_event ?hg (N := 5) ?hd (cs := #[.slice A0 fs.length c0, .slice A1 ps.length c1]) (t := 24) ?hr ?_; (case hd => rfl); (case hg => rfl); (case hr => first | (go_simp; done) | (go_simp; rfl)); intro gp hg w3 hbox hb; have BP := Aside0.mk hbox; have kp0 := blk_c' hbox 0 rfl; have kp1 := blk_c' hbox 1 rfl; have n_HW := Aside0.mk (below_step HW.out hb); clear HW; have HW := n_HW; clear n_HW; clear hg hbox hb) | (go_at_call 10; have hq := HQ1.out; refine (few_at A2 c2 l 40 _ (Kd.C_below HL.out HW.out) HLC.out HLM.out).mono ?_; rw [HFB.out]; rintro e w5 ⟨rfl, hb⟩; have n_HW := Aside0.mk (below_step HW.out hb); have n_BP := Aside0.mk (blk_below BP.out hb); clear HW BP; have HW := n_HW; have BP := n_BP; clear n_HW n_BP; clear hb; clear kp0 kp1; have kp0 := blk_c' BP.out 0 rfl; have kp1 := blk_c' BP.out 1 rfl; clear HQ1 hq) | (go_at_call 10; refine (few_at A5 c5 more 20 _ (Kd.C_below HM.out HW.out) HMC.out HMM.out).mono ?_; rw [HGB.out]; rintro e w5 ⟨rfl, hb⟩; have n_HW := Aside0.mk (below_step HW.out hb); have n_BP := Aside0.mk (blk_below BP.out hb); clear HW BP; have HW := n_HW; have BP := n_BP; clear n_HW n_BP; clear hb; clear kp0 kp1; have kp0 := blk_c' BP.out 0 rfl; have kp1 := blk_c' BP.out 1 rfl) | (go_at_call 11; refine (awake_at _).mono ?_; rintro e w5 ⟨rfl, hb⟩; have n_HW := Aside0.mk (below_step HW.out hb); have n_BP := Aside0.mk (blk_below BP.out hb); clear HW BP; have HW := n_HW; have BP := n_BP; clear n_HW n_BP; clear hb))
        go_ret
        exact ⟨rfl, HW.out⟩
    have d0 : decide ((fs.length : Int) > 60) = false := decide_eq_false (by omega)
    have e0 : decide ((60 : Int) < (fs.length : Int)) = false := decide_eq_false (by omega)
    by_cases h1 : ps.length ≤ 60
    rotate_left
    · cases gb with
      | false =>
        clear hfb hgb
        go_enter Try.func8, Try.ntmps8
        go_wp2_with (first | ((with_reducible refine gate_dst (N := 5) rfl ?_); refine box_event ?hg (N := 5) ?hd (cs := #[.slice A0 fs.length c0, .slice A1 ps.length c1]) (t := 24) ?hr ?_; (case hd => rfl); (case hg => rfl); (case hr => first | (go_simp; done) | (go_simp; rfl)); intro gp hg w3 hbox hb; have BP := Aside0.mk hbox; have kp0 := blk_c' hbox 0 rfl; have kp1 := blk_c' hbox 1 rfl; have n_HW := Aside0.mk (below_step HW.out hb); clear HW; have HW := n_HW; clear n_HW; clear hg hbox hb) | (go_at_call 10; have hq := HQ1.out; refine (few_at A2 c2 l 40 _ (Kd.C_below HL.out HW.out) HLC.out HLM.out).mono ?_; rw [HFB.out]; rintro e w5 ⟨rfl, hb⟩; have n_HW := Aside0.mk (below_step HW.out hb); have n_BP := Aside0.mk (blk_below BP.out hb); clear HW BP; have HW := n_HW; have BP := n_BP; clear n_HW n_BP; clear hb; clear kp0 kp1; have kp0 := blk_c' BP.out 0 rfl; have kp1 := blk_c' BP.out 1 rfl; clear HQ1 hq) | (go_at_call 10; refine (few_at A5 c5 more 20 _ (Kd.C_below HM.out HW.out) HMC.out HMM.out).mono ?_; rw [HGB.out]; rintro e w5 ⟨rfl, hb⟩; have n_HW := Aside0.mk (below_step HW.out hb); have n_BP := Aside0.mk (blk_below BP.out hb); clear HW BP; have HW := n_HW; have BP := n_BP; clear n_HW n_BP; clear hb; clear kp0 kp1; have kp0 := blk_c' BP.out 0 rfl; have kp1 := blk_c' BP.out 1 rfl) | (go_at_call 11; refine (awake_at _).mono ?_; rintro e w5 ⟨rfl, hb⟩; have n_HW := Aside0.mk (below_step HW.out hb); have n_BP := Aside0.mk (blk_below BP.out hb); clear HW BP; have HW := n_HW; have BP := n_BP; clear n_HW n_BP; clear hb))
        go_ret
        exact ⟨rfl, HW.out⟩
      | true =>
        have d1 : decide ((ps.length : Int) > 60) = true := decide_eq_true (by omega)
        have e1 : decide ((60 : Int) < (ps.length : Int)) = true := decide_eq_true (by omega)
        clear hfb hgb
        go_enter Try.func8, Try.ntmps8
        go_wp2_with (first | ((with_reducible refine gate_dst (N := 5) rfl ?_); refine box_event ?hg (N := 5) ?hd (cs := #[.slice A0 fs.length c0, .slice A1 ps.length c1]) (t := 24) ?hr ?_; (case hd => rfl); (case hg => rfl); (case hr => first | (go_simp; done) | (go_simp; rfl)); intro gp hg w3 hbox hb; have BP := Aside0.mk hbox; have kp0 := blk_c' hbox 0 rfl; have kp1 := blk_c' hbox 1 rfl; have n_HW := Aside0.mk (below_step HW.out hb); clear HW; have HW := n_HW; clear n_HW; clear hg hbox hb) | (go_at_call 10; have hq := HQ1.out; refine (few_at A2 c2 l 40 _ (Kd.C_below HL.out HW.out) HLC.out HLM.out).mono ?_; rw [HFB.out]; rintro e w5 ⟨rfl, hb⟩; have n_HW := Aside0.mk (below_step HW.out hb); have n_BP := Aside0.mk (blk_below BP.out hb); clear HW BP; have HW := n_HW; have BP := n_BP; clear n_HW n_BP; clear hb; clear kp0 kp1; have kp0 := blk_c' BP.out 0 rfl; have kp1 := blk_c' BP.out 1 rfl; clear HQ1 hq) | (go_at_call 10; refine (few_at A5 c5 more 20 _ (Kd.C_below HM.out HW.out) HMC.out HMM.out).mono ?_; rw [HGB.out]; rintro e w5 ⟨rfl, hb⟩; have n_HW := Aside0.mk (below_step HW.out hb); have n_BP := Aside0.mk (blk_below BP.out hb); clear HW BP; have HW := n_HW; have BP := n_BP; clear n_HW n_BP; clear hb; clear kp0 kp1; have kp0 := blk_c' BP.out 0 rfl; have kp1 := blk_c' BP.out 1 rfl) | (go_at_call 11; refine (awake_at _).mono ?_; rintro e w5 ⟨rfl, hb⟩; have n_HW := Aside0.mk (below_step HW.out hb); have n_BP := Aside0.mk (blk_below BP.out hb); clear HW BP; have HW := n_HW; have BP := n_BP; clear n_HW n_BP; clear hb))
        go_ret
        exact ⟨rfl, HW.out⟩
    have d1 : decide ((ps.length : Int) > 60) = false := decide_eq_false (by omega)
    have e1 : decide ((60 : Int) < (ps.length : Int)) = false := decide_eq_false (by omega)
    cases gb with
    | false =>
      clear hfb hgb
      go_enter Try.func8, Try.ntmps8
      go_wp2_with (first | ((with_reducible refine gate_dst (N := 5) rfl ?_); refine box_event ?hg (N := 5) ?hd (cs := #[.slice A0 fs.length c0, .slice A1 ps.length c1]) (t := 24) ?hr ?_; (case hd => rfl); (case hg => rfl); (case hr => first | (go_simp; done) | (go_simp; rfl)); intro gp hg w3 hbox hb; have BP := Aside0.mk hbox; have kp0 := blk_c' hbox 0 rfl; have kp1 := blk_c' hbox 1 rfl; have n_HW := Aside0.mk (below_step HW.out hb); clear HW; have HW := n_HW; clear n_HW; clear hg hbox hb) | (go_at_call 10; have hq := HQ1.out; refine (few_at A2 c2 l 40 _ (Kd.C_below HL.out HW.out) HLC.out HLM.out).mono ?_; rw [HFB.out]; rintro e w5 ⟨rfl, hb⟩; have n_HW := Aside0.mk (below_step HW.out hb); have n_BP := Aside0.mk (blk_below BP.out hb); clear HW BP; have HW := n_HW; have BP := n_BP; clear n_HW n_BP; clear hb; clear kp0 kp1; have kp0 := blk_c' BP.out 0 rfl; have kp1 := blk_c' BP.out 1 rfl; clear HQ1 hq) | (go_at_call 10; refine (few_at A5 c5 more 20 _ (Kd.C_below HM.out HW.out) HMC.out HMM.out).mono ?_; rw [HGB.out]; rintro e w5 ⟨rfl, hb⟩; have n_HW := Aside0.mk (below_step HW.out hb); have n_BP := Aside0.mk (blk_below BP.out hb); clear HW BP; have HW := n_HW; have BP := n_BP; clear n_HW n_BP; clear hb; clear kp0 kp1; have kp0 := blk_c' BP.out 0 rfl; have kp1 := blk_c' BP.out 1 rfl) | (go_at_call 11; refine (awake_at _).mono ?_; rintro e w5 ⟨rfl, hb⟩; have n_HW := Aside0.mk (below_step HW.out hb); have n_BP := Aside0.mk (blk_below BP.out hb); clear HW BP; have HW := n_HW; have BP := n_BP; clear n_HW n_BP; clear hb))
      go_ret
      exact ⟨rfl, HW.out⟩
    | true =>
      obtain ⟨hsm, hl40⟩ := few_all hfb
      obtain ⟨hsm2, hm20⟩ := few_all hgb
      have HOKHL : Aside0 (∀ o ∈ l, OpOk o) := ⟨fun o ho => ⟨(HOA.out o ho).1, (HOA.out o ho).2, (hsm o ho).1, (hsm o ho).2.1, (hsm o ho).2.2.1, (hsm o ho).2.2.2⟩⟩
      have HOKHM : Aside0 (∀ o ∈ more, OpOk o) := ⟨fun o ho => ⟨(HOB.out o ho).1, (HOB.out o ho).2, (hsm2 o ho).1, (hsm2 o ho).2.1, (hsm2 o ho).2.2.1, (hsm2 o ho).2.2.2⟩⟩
      clear hsm hfb hsm2 hgb
      have HH0 := Aside0.mk h0
      have HH1 := Aside0.mk h1
      clear h0 h1 hfm hpm
      go_enter Try.func8, Try.ntmps8
      go_upto_region 3 with (first | ((with_reducible refine gate_dst (N := 5) rfl ?_); refine box_event ?hg (N := 5) ?hd (cs := #[.slice A0 fs.length c0, .slice A1 ps.length c1]) (t := 24) ?hr ?_; (case hd => rfl); (case hg => rfl); (case hr => first | (go_simp; done) | (go_simp; rfl)); intro gp hg w3 hbox hb; have BP := Aside0.mk hbox; have kp0 := blk_c' hbox 0 rfl; have kp1 := blk_c' hbox 1 rfl; have n_HW := Aside0.mk (below_step HW.out hb); clear HW; have HW := n_HW; clear n_HW; clear hg hbox hb) | (go_at_call 10; have hq := HQ1.out; refine (few_at A2 c2 l 40 _ (Kd.C_below HL.out HW.out) HLC.out HLM.out).mono ?_; rw [HFB.out]; rintro e w5 ⟨rfl, hb⟩; have n_HW := Aside0.mk (below_step HW.out hb); have n_BP := Aside0.mk (blk_below BP.out hb); clear HW BP; have HW := n_HW; have BP := n_BP; clear n_HW n_BP; clear hb; clear kp0 kp1; have kp0 := blk_c' BP.out 0 rfl; have kp1 := blk_c' BP.out 1 rfl; clear HQ1 hq) | (go_at_call 10; refine (few_at A5 c5 more 20 _ (Kd.C_below HM.out HW.out) HMC.out HMM.out).mono ?_; rw [HGB.out]; rintro e w5 ⟨rfl, hb⟩; have n_HW := Aside0.mk (below_step HW.out hb); have n_BP := Aside0.mk (blk_below BP.out hb); clear HW BP; have HW := n_HW; have BP := n_BP; clear n_HW n_BP; clear hb; clear kp0 kp1; have kp0 := blk_c' BP.out 0 rfl; have kp1 := blk_c' BP.out 1 rfl))
      go_upto_region 4 with (go_at_call 12; refine (new_at2 cap A0 c0 fs A1 c1 ps _ (Kd.C_below HF0.out HW.out) HC0.out HH0.out (Kd.C_below HF1.out HW.out) HC1.out HH1.out).mono ?_; rintro e w5 ⟨gd, φ, B, rfl, hB, hd, hb⟩; have HBd := Aside0.mk (Nat.le_trans (below_size HW.out) hB); have n_HW := Aside0.mk (below_step HW.out hb); clear HW; have HW := n_HW; clear n_HW; have Hd := Aside0.mk hd; have HG := Aside0.mk (Good.new HCAP.out HH0.out HH1.out); clear hd hB hb)
      clear BP kp0 kp1 d0 d1 e0 e1
      go_upto_region 5 with (fail)
      go_loopw [51] (fun v51 wr => ∃ (i : Nat) (S : DA) (φ : Nat → Tg), i ≤ l.length ∧ v51 = .int .i64 i ∧ Aside0 (DAt wr φ B gd S) ∧ Aside0 (Good i S) ∧ Aside0 (Below w.heap.size w wr)) (fun v51 _ => l.length - (intOf v51).toNat)
      case atStart => exact ⟨0, _, _, Nat.zero_le _, rfl, Hd, HG, HW⟩
      case round =>
        clear Hd HG HW
        obtain ⟨i, S, φ, hi, rfl, Hd, HG, HW⟩ := hrel
        rename World => wr
        by_cases hlt : i < l.length
        · obtain ⟨ad, A3, c3, A4, c4, e0, x0, x1, x2, x3, x4, l3, g3, l4, g4⟩ := at_T32 HL.out (i : Int) (by omega) (by omega)
          subst e0
          have hmem : rd_T32 l (i : Int) ∈ l := by rw [rd32 l i hlt]; exact List.getElem_mem hlt
          simp only [Int.toNat_natCast] at x0 x1 x2 x3 x4
          have hoo := HOKHL.out _ hmem
          obtain ⟨o, ho⟩ : ∃ o, rd_T32 l (i : Int) = o := ⟨_, rfl⟩
          rw [ho] at x0 x1 x2 x3 x4 l3 g3 l4 g4 hoo hmem
          replace x0 := (HW.out.cell (World.block_lt_of_cell? w _ x0)).trans x0
          replace x1 := (HW.out.cell (World.block_lt_of_cell? w _ x1)).trans x1
          replace x2 := (HW.out.cell (World.block_lt_of_cell? w _ x2)).trans x2
          replace x3 := (HW.out.cell (World.block_lt_of_cell? w _ x3)).trans x3
          replace x4 := (HW.out.cell (World.block_lt_of_cell? w _ x4)).trans x4
          have HOO := Aside0.mk hoo
          have HO3 := Aside0.mk l3
          have HG3 := Aside0.mk g3
          have HG4 := Aside0.mk g4
          have HOE := Aside0.mk ho
          clear hoo l3 g3 l4 g4 hmem ho
          have HOK := Aside0.mk (HG.out.ok (by omega))
          go_upto_region 7 with (first | ((with_reducible refine gate_dst (N := 11) rfl ?_); refine box_event ?hg (N := 11) ?hd (cs := #[.int .u8 0, .string ByteArray.empty, .string ByteArray.empty, .slice none 0 0, .slice none 0 0]) (t := 32) ?hr ?_; (case hd => rfl); (case hg => rfl); (case hr => first | (go_simp; done) | (go_simp; rfl)); intro g11 hg w3 hbox hb; have HGE := Aside0.mk hg; have BX := Aside0.mk hbox; have HX := Aside0.mk hb; have bz := fun j => blk_frozen hbox j; have bc0 := (blk_cell hbox 0).trans (show _ = some (.int .u8 0) from rfl); have bc1 := (blk_cell hbox 1).trans (show _ = some (.string ByteArray.empty) from rfl); have bc2 := (blk_cell hbox 2).trans (show _ = some (.string ByteArray.empty) from rfl); have bc3 := (blk_cell hbox 3).trans (show _ = some (.slice none 0 0) from rfl); have bc4 := (blk_cell hbox 4).trans (show _ = some (.slice none 0 0) from rfl); clear hbox hb hg))
          have hge := Nat.le_of_eq HGE.out.symm
          have s0 := blk_put (cs' := #[.int .u8 o.f0, .string ByteArray.empty, .string ByteArray.empty, .slice none 0 0, .slice none 0 0]) BX.out 0 (.int .u8 o.f0) rfl
          have h0 := below_set (j := 0) (v := .int .u8 o.f0) HX.out hge
          have s1 := blk_put (cs' := #[.int .u8 o.f0, .string o.f1, .string ByteArray.empty, .slice none 0 0, .slice none 0 0]) s0 1 (.string o.f1) rfl
          have h1 := below_set (j := 1) (v := .string o.f1) h0 hge
          have s2 := blk_put (cs' := #[.int .u8 o.f0, .string o.f1, .string o.f2, .slice none 0 0, .slice none 0 0]) s1 2 (.string o.f2) rfl
          have h2 := below_set (j := 2) (v := .string o.f2) h1 hge
          have s3 := blk_put (cs' := #[.int .u8 o.f0, .string o.f1, .string o.f2, .slice A3 o.f3.length c3, .slice none 0 0]) s2 3 (.slice A3 o.f3.length c3) rfl
          have h3 := below_set (j := 3) (v := .slice A3 o.f3.length c3) h2 hge
          have s4 := blk_put (cs' := #[.int .u8 o.f0, .string o.f1, .string o.f2, .slice A3 o.f3.length c3, .slice A4 o.f4.length c4]) s3 4 (.slice A4 o.f4.length c4) rfl
          have h4 := below_set (j := 4) (v := .slice A4 o.f4.length c4) h3 hge
          generalize (World.setCell (World.setCell (World.setCell (World.setCell (World.setCell w3 ⟨g11, 0, none⟩ (.int .u8 o.f0)) ⟨g11, 1, none⟩ (.string o.f1)) ⟨g11, 2, none⟩ (.string o.f2)) ⟨g11, 3, none⟩ (.slice A3 o.f3.length c3)) ⟨g11, 4, none⟩ (.slice A4 o.f4.length c4)) = w7 at s4 h4 ⊢
          clear s0 s1 s2 s3 h0 h1 h2 h3 hge bz bc0 bc1 bc2 bc3 bc4 BX HX HGE
          have o0 := (blk_cell s4 0).trans (show _ = some (.int .u8 o.f0) from rfl)
          have o1 := (blk_cell s4 1).trans (show _ = some (.string o.f1) from rfl)
          have o2 := (blk_cell s4 2).trans (show _ = some (.string o.f2) from rfl)
          have o3 := (blk_cell s4 3).trans (show _ = some (.slice A3 o.f3.length c3) from rfl)
          have o4 := (blk_cell s4 4).trans (show _ = some (.slice A4 o.f4.length c4) from rfl)
          have hb := h4
          have n_HW := Aside0.mk (below_step HW.out hb); have n_Hd := Aside0.mk (Hd.out.below hb); clear HW Hd; have HW := n_HW; have Hd := n_Hd; clear n_HW n_Hd
          clear h4 hb s4
          go_wp2_with (first | (go_at_call 13; refine (does_op gd B _ S o A3 c3 A4 c4 _ Hd.out HOK.out HOO.out HO3.out w HW.out HBd.out HG3.out HG4.out).mono ?_; rintro e w5 ⟨φ', rfl, hd, hs⟩; have n_HW := Aside0.mk (step_all HW.out HBd.out Hd.out hs); clear HW; have HW := n_HW; clear n_HW; clear Hd; have Hd := Aside0.mk hd; clear hd hs))
          go_roundw
          case rel => exact ⟨i + 1, _, _, by omega, by go_num, Hd, ⟨HG.out.doesO HOO.out⟩, HW⟩
          case measure => simp [intOf]; omega
        · obtain rfl : i = l.length := by omega
          clear hlt hi
          have HG4 := Aside0.mk (HG.out.upto (k' := 40) (by omega))
          clear HG
          have HOK := Aside0.mk (HG4.out.ok (by decide))
          have HNA := Aside0.mk HG4.out.named
          go_upto_region 10 with (first | (go_at_call 29; refine (copy_at gd B _ S _ Hd.out HOK.out.small HOK.out.fits HOK.out.nl).mono ?_; rintro e w5 ⟨gc, χ, rfl, hn, hb⟩; have AP := Aside0.mk (Apart.fresh Hd.out hn (Nat.le_refl _)); obtain ⟨Bc, hBc, hn⟩ : ∃ Bc, w.heap.size ≤ Bc ∧ DAt w5 χ Bc gc S := ⟨_, below_size HW.out, hn⟩; have HBc := Aside0.mk hBc; have n_HW := Aside0.mk (below_step HW.out hb); have n_Hd := Aside0.mk (Hd.out.below hb); clear HW Hd; have HW := n_HW; have Hd := n_Hd; clear n_HW n_Hd; have Hc := Aside0.mk hn; clear hn hb hBc) | (go_at_call 14; refine (files_at gd B _ S _ Hd.out HOK.out HNA.out).mono ?_; rintro e w6 ⟨m13, n13, rfl, ho, hm, hb, hnb⟩; have hu := uni_new Hd.out Hc.out m13 hm; have n_HW := Aside0.mk (below_step HW.out hb); have n_Hd := Aside0.mk (Hd.out.below hb); have n_Hc := Aside0.mk (Hc.out.below hb); clear HW Hd Hc; have HW := n_HW; have Hd := n_Hd; have Hc := n_Hc; clear n_HW n_Hd n_Hc; have M13 := Aside0.mk (Stays.owns ho hu); have HMN := Aside0.mk hu; clear ho hm hb hnb hu))
          have HQ2 : Aside0 True := ⟨trivial⟩
          have HQ3 : Aside0 True := ⟨trivial⟩
          obtain ⟨u, hu⟩ : ∃ u, used S.files = u := ⟨_, rfl⟩
          obtain ⟨cc, hcc⟩ : ∃ cc, S.calls = cc := ⟨_, rfl⟩
          have HU := Aside0.mk hu
          have HCC := Aside0.mk hcc
          clear hu hcc
          go_upto_region 12 with (first | (go_at_call 14; refine (files_at gc Bc _ S _ Hc.out HOK.out HNA.out).mono ?_; rintro e w6 ⟨mc, nc, rfl, ho, hm, hb, hnb⟩; have n_HW := Aside0.mk (below_step HW.out hb); have n_Hd := Aside0.mk (Hd.out.below hb); have n_Hc := Aside0.mk (Hc.out.below hb); have n_M13 := Aside0.mk (M13.out.below hb); clear HW Hd Hc M13; have HW := n_HW; have Hd := n_Hd; have Hc := n_Hc; have M13 := n_M13; clear n_HW n_Hd n_Hc n_M13; have MC := Aside0.mk ho; clear ho hm hb hnb) | (go_at_call 18; refine (same_at mc m13 _ _ _ _ _ MC.out M13.out.self (List.Perm.refl _) (filesOf_vals _)).mono ?_; rintro e w5 ⟨rfl, hb⟩; have n_HW := Aside0.mk (below_step HW.out hb); have n_Hd := Aside0.mk (Hd.out.below hb); have n_Hc := Aside0.mk (Hc.out.below hb); have n_M13 := Aside0.mk (M13.out.below hb); have n_MC := Aside0.mk (MC.out.move (hb.block mc MC.out.lt)); clear HW Hd Hc M13 MC; have HW := n_HW; have Hd := n_Hd; have Hc := n_Hc; have M13 := n_M13; have MC := n_MC; clear n_HW n_Hd n_Hc n_M13 n_MC; clear hb) | (go_at_call 15; have hq := HQ2.out; refine (calls_at gc Bc _ S _ Hc.out).mono ?_; rw [HCC.out]; rintro e w5 ⟨rfl, rfl⟩; clear HQ2 hq) | (go_at_call 15; refine (calls_at gd B _ S _ Hd.out).mono ?_; rw [HCC.out]; rintro e w5 ⟨rfl, rfl⟩) | (go_at_call 19; have hq := HQ3.out; refine (used_at gc Bc _ S _ Hc.out HOK.out.fits.few).mono ?_; rw [HU.out]; rintro e w5 ⟨rfl, hb⟩; have n_HW := Aside0.mk (below_step HW.out hb); have n_Hd := Aside0.mk (Hd.out.below hb); have n_Hc := Aside0.mk (Hc.out.below hb); have n_M13 := Aside0.mk (M13.out.below hb); have n_MC := Aside0.mk (MC.out.move (hb.block mc MC.out.lt)); clear HW Hd Hc M13 MC; have HW := n_HW; have Hd := n_Hd; have Hc := n_Hc; have M13 := n_M13; have MC := n_MC; clear n_HW n_Hd n_Hc n_M13 n_MC; clear hb HQ3 hq) | (go_at_call 19; refine (used_at gd B _ S _ Hd.out HOK.out.fits.few).mono ?_; rw [HU.out]; rintro e w5 ⟨rfl, hb⟩; have n_HW := Aside0.mk (below_step HW.out hb); have n_Hd := Aside0.mk (Hd.out.below hb); have n_Hc := Aside0.mk (Hc.out.below hb); have n_M13 := Aside0.mk (M13.out.below hb); have n_MC := Aside0.mk (MC.out.move (hb.block mc MC.out.lt)); clear HW Hd Hc M13 MC; have HW := n_HW; have Hd := n_Hd; have Hc := n_Hc; have M13 := n_M13; have MC := n_MC; clear n_HW n_Hd n_Hc n_M13 n_MC; clear hb))
          clear MC
          go_upto_region 14 with (fail)
          go_loopw [14, 88] (fun v14 v88 wr => ∃ (j : Nat) (χ : Nat → Tg) (Ag : Option Addr) (cg : Nat), j ≤ more.length ∧ v14 = .slice Ag j cg ∧ v88 = .int .i64 j ∧ Aside0 (DAt wr φ B gd S) ∧ Aside0 (DAt wr χ Bc gc (runO S (more.take j))) ∧ Aside0 (Apart φ χ) ∧ Aside0 (Good (40 + j) (runO S (more.take j))) ∧ Aside0 (Kd.R (Kd.int .i64) 33 wr w.heap.size (fun k => uni φ χ k = .no) (.slice Ag j cg) (resO S (more.take j))) ∧ Aside0 (Stays wr (uni φ χ) (fun W => HStrMap.Owns m35 W m13 n13 (filesOf S.files))) ∧ Aside0 (uni φ χ m13 = .no) ∧ Aside0 (Below w.heap.size w wr)) (fun v14 v88 _ => more.length - (intOf v88).toNat)
          case atStart => exact ⟨0, χ, none, 0, Nat.zero_le _, rfl, rfl, Hd, Hc, AP, HG4, ⟨Kd.R_nil _ _ _ _ _⟩, M13, HMN, HW⟩
          case round =>
            clear Hd Hc AP M13 HMN HW
            obtain ⟨j, χ, Ag, cg, hj, rfl, rfl, Hd, Hc, AP, HGC, GR, M13, HMN, HW⟩ := hrel
            rename World => wr
            by_cases hlt : j < more.length
            · obtain ⟨ad, A3, c3, A4, c4, e0, x0, x1, x2, x3, x4, l3, g3, l4, g4⟩ := at_T32 HM.out (j : Int) (by omega) (by omega)
              subst e0
              have hmem : rd_T32 more (j : Int) ∈ more := by rw [rd32 more j hlt]; exact List.getElem_mem hlt
              simp only [Int.toNat_natCast] at x0 x1 x2 x3 x4
              have hoo := HOKHM.out _ hmem
              obtain ⟨o, ho⟩ : ∃ o, rd_T32 more (j : Int) = o := ⟨_, rfl⟩
              rw [ho] at x0 x1 x2 x3 x4 l3 g3 l4 g4 hoo hmem
              replace x0 := (HW.out.cell (World.block_lt_of_cell? w _ x0)).trans x0
              replace x1 := (HW.out.cell (World.block_lt_of_cell? w _ x1)).trans x1
              replace x2 := (HW.out.cell (World.block_lt_of_cell? w _ x2)).trans x2
              replace x3 := (HW.out.cell (World.block_lt_of_cell? w _ x3)).trans x3
              replace x4 := (HW.out.cell (World.block_lt_of_cell? w _ x4)).trans x4
              have HOO := Aside0.mk hoo
              have HO3 := Aside0.mk l3
              have HG3 := Aside0.mk g3
              have HG4 := Aside0.mk g4
              have HOE := Aside0.mk ho
              clear hoo l3 g3 l4 g4 hmem ho
              have HTK := Aside0.mk (take_rd more j hlt)
              rw [HOE.out] at HTK
              obtain ⟨SC, hSC⟩ : ∃ SC, runO S (more.take j) = SC := ⟨_, rfl⟩
              have HSC := Aside0.mk hSC
              rw [hSC] at Hc HGC
              clear hSC
              obtain ⟨r, hr⟩ : ∃ r, (doesO SC o).2 = r := ⟨_, rfl⟩
              have HR := Aside0.mk hr
              clear hr
              have HOKC := Aside0.mk (HGC.out.ok (by omega))
              have HJL : Aside0 (j < more.length ∧ more.length ≤ 20) := ⟨by omega⟩
              go_upto_region 16 with (first | ((with_reducible refine gate_dst (N := 16) rfl ?_); refine box_event ?hg (N := 16) ?hd (cs := #[.int .u8 0, .string ByteArray.empty, .string ByteArray.empty, .slice none 0 0, .slice none 0 0]) (t := 32) ?hr ?_; (case hd => rfl); (case hg => rfl); (case hr => first | (go_simp; done) | (go_simp; rfl)); intro g16 hg w3 hbox hb; have HGE := Aside0.mk hg; have BX := Aside0.mk hbox; have HX := Aside0.mk hb; have bz := fun j => blk_frozen hbox j; have bc0 := (blk_cell hbox 0).trans (show _ = some (.int .u8 0) from rfl); have bc1 := (blk_cell hbox 1).trans (show _ = some (.string ByteArray.empty) from rfl); have bc2 := (blk_cell hbox 2).trans (show _ = some (.string ByteArray.empty) from rfl); have bc3 := (blk_cell hbox 3).trans (show _ = some (.slice none 0 0) from rfl); have bc4 := (blk_cell hbox 4).trans (show _ = some (.slice none 0 0) from rfl); clear hbox hb hg))
              have hge := Nat.le_of_eq HGE.out.symm
              have s0 := blk_put (cs' := #[.int .u8 o.f0, .string ByteArray.empty, .string ByteArray.empty, .slice none 0 0, .slice none 0 0]) BX.out 0 (.int .u8 o.f0) rfl
              have h0 := below_set (j := 0) (v := .int .u8 o.f0) HX.out hge
              have s1 := blk_put (cs' := #[.int .u8 o.f0, .string o.f1, .string ByteArray.empty, .slice none 0 0, .slice none 0 0]) s0 1 (.string o.f1) rfl
              have h1 := below_set (j := 1) (v := .string o.f1) h0 hge
              have s2 := blk_put (cs' := #[.int .u8 o.f0, .string o.f1, .string o.f2, .slice none 0 0, .slice none 0 0]) s1 2 (.string o.f2) rfl
              have h2 := below_set (j := 2) (v := .string o.f2) h1 hge
              have s3 := blk_put (cs' := #[.int .u8 o.f0, .string o.f1, .string o.f2, .slice A3 o.f3.length c3, .slice none 0 0]) s2 3 (.slice A3 o.f3.length c3) rfl
              have h3 := below_set (j := 3) (v := .slice A3 o.f3.length c3) h2 hge
              have s4 := blk_put (cs' := #[.int .u8 o.f0, .string o.f1, .string o.f2, .slice A3 o.f3.length c3, .slice A4 o.f4.length c4]) s3 4 (.slice A4 o.f4.length c4) rfl
              have h4 := below_set (j := 4) (v := .slice A4 o.f4.length c4) h3 hge
              generalize (World.setCell (World.setCell (World.setCell (World.setCell (World.setCell w3 ⟨g16, 0, none⟩ (.int .u8 o.f0)) ⟨g16, 1, none⟩ (.string o.f1)) ⟨g16, 2, none⟩ (.string o.f2)) ⟨g16, 3, none⟩ (.slice A3 o.f3.length c3)) ⟨g16, 4, none⟩ (.slice A4 o.f4.length c4)) = w7 at s4 h4 ⊢
              clear s0 s1 s2 s3 h0 h1 h2 h3 hge bz bc0 bc1 bc2 bc3 bc4 BX HX HGE
              have o0 := (blk_cell s4 0).trans (show _ = some (.int .u8 o.f0) from rfl)
              have o1 := (blk_cell s4 1).trans (show _ = some (.string o.f1) from rfl)
              have o2 := (blk_cell s4 2).trans (show _ = some (.string o.f2) from rfl)
              have o3 := (blk_cell s4 3).trans (show _ = some (.slice A3 o.f3.length c3) from rfl)
              have o4 := (blk_cell s4 4).trans (show _ = some (.slice A4 o.f4.length c4) from rfl)
              have hb := h4
              have n_HW := Aside0.mk (below_step HW.out hb); have n_Hd := Aside0.mk (Hd.out.below hb); have n_Hc := Aside0.mk (Hc.out.below hb); have n_GR := Aside0.mk (Kd.R_below GR.out hb); have n_M13 := Aside0.mk (M13.out.below hb); clear HW Hd Hc GR M13; have HW := n_HW; have Hd := n_Hd; have Hc := n_Hc; have GR := n_GR; have M13 := n_M13; clear n_HW n_Hd n_Hc n_GR n_M13
              clear h4 hb s4
              go_wp2_with (first | (go_at_call 13; refine (does_op gc Bc _ SC o A3 c3 A4 c4 _ Hc.out HOKC.out HOO.out HO3.out w HW.out HBc.out HG3.out HG4.out).mono ?_; rw [HR.out]; rintro e w5 ⟨χ', rfl, hd, hs⟩; have n_HW := Aside0.mk (step_all HW.out HBc.out Hc.out hs); have n_Hd := Aside0.mk (Hd.out.beside AP.out.symm hs); have n_AP := Aside0.mk ((AP.out.symm.step hs Hd.out).symm); have n_M13 := Aside0.mk (M13.out.step (hs.right _)); have n_HMN := Aside0.mk ((hs.right _).2 m13 M13.out.self.lt HMN.out); have n_GR := Aside0.mk (R_stepped GR.out (hs.right _)); clear HW Hd AP M13 HMN GR; have HW := n_HW; have Hd := n_Hd; have AP := n_AP; have M13 := n_M13; have HMN := n_HMN; have GR := n_GR; clear n_HW n_Hd n_AP n_M13 n_HMN n_GR; clear Hc; have Hc := Aside0.mk hd; clear hd hs) | ((with_reducible refine gate_dst (N := 96) rfl ?_); refine lit_event ?hg (cs := #[.int .i64 r]) (t := 33) (k := 1) ?hr ?_; (case hg => rfl); (case hr => first | (go_simp; done) | (go_simp; rfl)); intro g96 hg w3 hbox hb; have n_HW := Aside0.mk (below_step HW.out hb); have n_Hd := Aside0.mk (Hd.out.below hb); have n_Hc := Aside0.mk (Hc.out.below hb); have n_GR := Aside0.mk (Kd.R_below GR.out hb); have n_M13 := Aside0.mk (M13.out.below hb); clear HW Hd Hc GR M13; have HW := n_HW; have Hd := n_Hd; have Hc := n_Hc; have GR := n_GR; have M13 := n_M13; clear n_HW n_Hd n_Hc n_GR n_M13; have RB := Aside0.mk (lit_C (k := .i64) [r] hbox rfl (by simp)); clear hg hbox hb) | ((with_reducible refine gate_builtin (b := .append) (xs := #[.tmp 92, .tmp 96]) rfl ?_); at_builtin; (refine Kd.R_append_row (Value.int .i64) 0 (w0 := w) w.heap.size rfl (.tmp 92) (.tmp 96) 67 33 (.int .i64 0) 8 rfl Try.underlying67 infoErr rfl (by omega) _ (resO S (more.take j)) [r] _ _ _ (fun k => uni φ χ' k = .no) rfl rfl (uni_new Hd.out Hc.out) GR.out RB.out HW.out (below_size HW.out) (by rw [resO_len, List.length_take]; have := HJL.out; simp; omega) ?_); intro v7 w7 ho hb hg hat; have hown : ∀ k, (Value.slice Ag j cg).ownBlock = some k → uni φ χ' k = .no := GR.out.1; have n_Hd := Aside0.mk (Hd.out.move hg.size (fun k hk => hg.block k (Hd.out.dom k hk).2 (fun e => hk (uni_no.1 (hown k e.symm)).1))); have n_Hc := Aside0.mk (Hc.out.move hg.size (fun k hk => hg.block k (Hc.out.dom k hk).2 (fun e => hk (uni_no.1 (hown k e.symm)).2))); have NG := Aside0.mk ho; have n_HW := Aside0.mk hb; have HGW := Aside0.mk hg; clear Hd Hc HW ho hb hat hown; have Hd := n_Hd; have Hc := n_Hc; have HW := n_HW; clear n_Hd n_Hc n_HW))
              obtain ⟨A9, c9, hv9⟩ := R_formI NG.out
              subst hv9
              have hlen : (resO S (more.take j) ++ [r]).length = j + 1 := by rw [List.length_append, resO_len, List.length_take]; have := HJL.out; simp; omega
              rw [hlen] at NG ⊢
              have HLEN := Aside0.mk hlen
              clear hlen
              go_roundw
              case rel =>
                have e1 : runO S (more.take (j + 1)) = (doesO SC o).1 := by rw [HTK.out, runO_snoc, HSC.out]
                have e2 : resO S (more.take (j + 1)) = resO S (more.take j) ++ [r] := by rw [HTK.out, resO_snoc, HSC.out, HR.out]
                refine ⟨j + 1, χ', A9, c9, by have := HJL.out; omega, rfl, by go_num, Hd, ⟨by rw [e1]; exact Hc.out⟩, AP, ⟨by rw [e1]; exact HGC.out.doesO HOO.out⟩, ⟨by rw [e2]; exact NG.out⟩, ⟨copy_stays M13.out HGW.out (copy_ne GR.out M13.out.self) HMN.out⟩, HMN, HW⟩
              case measure => have := HJL.out; simp [intOf]; omega
            · obtain rfl : j = more.length := by omega
              rw [List.take_length] at Hc HGC GR
              clear hlt hj
              have HG6 := Aside0.mk (HGC.out.upto (k' := 60) (by omega))
              have HOKC := Aside0.mk (HG6.out.ok (by decide))
              clear HGC
              go_upto_region 20 with (first | (go_at_call 14; refine (files_at gd B _ S _ Hd.out HOK.out HNA.out).mono ?_; rintro e w6 ⟨mc, nc, rfl, ho, hm, hb, hnb⟩; have n_HW := Aside0.mk (below_step HW.out hb); have n_Hd := Aside0.mk (Hd.out.below hb); have n_Hc := Aside0.mk (Hc.out.below hb); have n_GR := Aside0.mk (Kd.R_below GR.out hb); have n_M13 := Aside0.mk (M13.out.below hb); clear HW Hd Hc GR M13; have HW := n_HW; have Hd := n_Hd; have Hc := n_Hc; have GR := n_GR; have M13 := n_M13; clear n_HW n_Hd n_Hc n_GR n_M13; have MC := Aside0.mk ho; clear ho hm hb hnb) | (go_at_call 18; refine (same_at mc m13 _ _ _ _ _ MC.out M13.out.self (List.Perm.refl _) (filesOf_vals _)).mono ?_; rintro e w5 ⟨rfl, hb⟩; have n_HW := Aside0.mk (below_step HW.out hb); have n_Hd := Aside0.mk (Hd.out.below hb); have n_Hc := Aside0.mk (Hc.out.below hb); have n_GR := Aside0.mk (Kd.R_below GR.out hb); have n_M13 := Aside0.mk (M13.out.below hb); have n_MC := Aside0.mk (MC.out.move (hb.block mc MC.out.lt)); clear HW Hd Hc GR M13 MC; have HW := n_HW; have Hd := n_Hd; have Hc := n_Hc; have GR := n_GR; have M13 := n_M13; have MC := n_MC; clear n_HW n_Hd n_Hc n_GR n_M13 n_MC; clear hb))
              clear MC M13
              go_upto_region 21 with (fail)
              obtain ⟨SC, hSC⟩ : ∃ SC, runO S more = SC := ⟨_, rfl⟩
              rw [hSC] at Hc HG6 HOKC
              have HSC := Aside0.mk hSC
              clear hSC
              go_loopw [106] (fun v106 wr => ∃ (i : Nat) (φ : Nat → Tg), i ≤ more.length ∧ v106 = .int .i64 i ∧ Aside0 (DAt wr φ B gd (runO S (more.take i))) ∧ Aside0 (DAt wr χ Bc gc SC) ∧ Aside0 (Apart φ χ) ∧ Aside0 (Good (40 + i) (runO S (more.take i))) ∧ Aside0 (Kd.R (Kd.int .i64) 33 wr w.heap.size (fun k => uni φ χ k = .no) (.slice Ag more.length cg) (resO S more)) ∧ Aside0 (Below w.heap.size w wr)) (fun v106 _ => more.length - (intOf v106).toNat)
              case atStart => exact ⟨0, φ, Nat.zero_le _, rfl, Hd, Hc, AP, HG4, GR, HW⟩
              case round =>
                clear Hd Hc AP GR HW
                obtain ⟨i, φ, hi, rfl, Hd, Hc, AP, HGD, GR, HW⟩ := hrel
                rename World => wr
                by_cases hlt : i < more.length
                · obtain ⟨ad, A3, c3, A4, c4, e0, x0, x1, x2, x3, x4, l3, g3, l4, g4⟩ := at_T32 HM.out (i : Int) (by omega) (by omega)
                  subst e0
                  have hmem : rd_T32 more (i : Int) ∈ more := by rw [rd32 more i hlt]; exact List.getElem_mem hlt
                  simp only [Int.toNat_natCast] at x0 x1 x2 x3 x4
                  have hoo := HOKHM.out _ hmem
                  obtain ⟨o, ho⟩ : ∃ o, rd_T32 more (i : Int) = o := ⟨_, rfl⟩
                  rw [ho] at x0 x1 x2 x3 x4 l3 g3 l4 g4 hoo hmem
                  replace x0 := (HW.out.cell (World.block_lt_of_cell? w _ x0)).trans x0
                  replace x1 := (HW.out.cell (World.block_lt_of_cell? w _ x1)).trans x1
                  replace x2 := (HW.out.cell (World.block_lt_of_cell? w _ x2)).trans x2
                  replace x3 := (HW.out.cell (World.block_lt_of_cell? w _ x3)).trans x3
                  replace x4 := (HW.out.cell (World.block_lt_of_cell? w _ x4)).trans x4
                  have HOO := Aside0.mk hoo
                  have HO3 := Aside0.mk l3
                  have HG3 := Aside0.mk g3
                  have HG4 := Aside0.mk g4
                  have HOE := Aside0.mk ho
                  clear hoo l3 g3 l4 g4 hmem ho
                  have HTK := Aside0.mk (take_rd more i hlt)
                  have hrg := resO_get more S i hlt
                  rw [HOE.out] at HTK hrg
                  obtain ⟨SD, hSD⟩ : ∃ SD, runO S (more.take i) = SD := ⟨_, rfl⟩
                  have HSD := Aside0.mk hSD
                  rw [hSD] at Hd HGD hrg
                  clear hSD
                  obtain ⟨r, hr⟩ : ∃ r, (doesO SD o).2 = r := ⟨_, rfl⟩
                  have HR := Aside0.mk hr
                  rw [hr] at hrg
                  have HRG := Aside0.mk hrg
                  clear hr hrg
                  have HOKD := Aside0.mk (HGD.out.ok (by omega))
                  have HJL : Aside0 (i < more.length ∧ more.length ≤ 20) := ⟨by omega⟩
                  go_upto_region 23 with (first | ((with_reducible refine gate_dst (N := 18) rfl ?_); refine box_event ?hg (N := 18) ?hd (cs := #[.int .u8 0, .string ByteArray.empty, .string ByteArray.empty, .slice none 0 0, .slice none 0 0]) (t := 32) ?hr ?_; (case hd => rfl); (case hg => rfl); (case hr => first | (go_simp; done) | (go_simp; rfl)); intro g18 hg w3 hbox hb; have HGE := Aside0.mk hg; have BX := Aside0.mk hbox; have HX := Aside0.mk hb; have bz := fun j => blk_frozen hbox j; have bc0 := (blk_cell hbox 0).trans (show _ = some (.int .u8 0) from rfl); have bc1 := (blk_cell hbox 1).trans (show _ = some (.string ByteArray.empty) from rfl); have bc2 := (blk_cell hbox 2).trans (show _ = some (.string ByteArray.empty) from rfl); have bc3 := (blk_cell hbox 3).trans (show _ = some (.slice none 0 0) from rfl); have bc4 := (blk_cell hbox 4).trans (show _ = some (.slice none 0 0) from rfl); clear hbox hb hg))
                  have hge := Nat.le_of_eq HGE.out.symm
                  have s0 := blk_put (cs' := #[.int .u8 o.f0, .string ByteArray.empty, .string ByteArray.empty, .slice none 0 0, .slice none 0 0]) BX.out 0 (.int .u8 o.f0) rfl
                  have h0 := below_set (j := 0) (v := .int .u8 o.f0) HX.out hge
                  have s1 := blk_put (cs' := #[.int .u8 o.f0, .string o.f1, .string ByteArray.empty, .slice none 0 0, .slice none 0 0]) s0 1 (.string o.f1) rfl
                  have h1 := below_set (j := 1) (v := .string o.f1) h0 hge
                  have s2 := blk_put (cs' := #[.int .u8 o.f0, .string o.f1, .string o.f2, .slice none 0 0, .slice none 0 0]) s1 2 (.string o.f2) rfl
                  have h2 := below_set (j := 2) (v := .string o.f2) h1 hge
                  have s3 := blk_put (cs' := #[.int .u8 o.f0, .string o.f1, .string o.f2, .slice A3 o.f3.length c3, .slice none 0 0]) s2 3 (.slice A3 o.f3.length c3) rfl
                  have h3 := below_set (j := 3) (v := .slice A3 o.f3.length c3) h2 hge
                  have s4 := blk_put (cs' := #[.int .u8 o.f0, .string o.f1, .string o.f2, .slice A3 o.f3.length c3, .slice A4 o.f4.length c4]) s3 4 (.slice A4 o.f4.length c4) rfl
                  have h4 := below_set (j := 4) (v := .slice A4 o.f4.length c4) h3 hge
                  generalize (World.setCell (World.setCell (World.setCell (World.setCell (World.setCell w3 ⟨g18, 0, none⟩ (.int .u8 o.f0)) ⟨g18, 1, none⟩ (.string o.f1)) ⟨g18, 2, none⟩ (.string o.f2)) ⟨g18, 3, none⟩ (.slice A3 o.f3.length c3)) ⟨g18, 4, none⟩ (.slice A4 o.f4.length c4)) = w7 at s4 h4 ⊢
                  have hno := Hd.out.new_no g18 hge
                  clear s0 s1 s2 s3 h0 h1 h2 h3 hge bz bc0 bc1 bc2 bc3 bc4 BX HX HGE
                  have o0 := (blk_cell s4 0).trans (show _ = some (.int .u8 o.f0) from rfl)
                  have o1 := (blk_cell s4 1).trans (show _ = some (.string o.f1) from rfl)
                  have o2 := (blk_cell s4 2).trans (show _ = some (.string o.f2) from rfl)
                  have o3 := (blk_cell s4 3).trans (show _ = some (.slice A3 o.f3.length c3) from rfl)
                  have o4 := (blk_cell s4 4).trans (show _ = some (.slice A4 o.f4.length c4) from rfl)
                  have hb := h4
                  have n_HW := Aside0.mk (below_step HW.out hb); have n_Hd := Aside0.mk (Hd.out.below hb); have n_Hc := Aside0.mk (Hc.out.below hb); have n_GR := Aside0.mk (Kd.R_below GR.out hb); clear HW Hd Hc GR; have HW := n_HW; have Hd := n_Hd; have Hc := n_Hc; have GR := n_GR; clear n_HW n_Hd n_Hc n_GR
                  have VO := Aside0.mk (Stays.mk' (P := fun W => W.heap[g18]? = some (.cells #[.int .u8 o.f0, .string o.f1, .string o.f2, .slice A3 o.f3.length c3, .slice A4 o.f4.length c4] 32 (0, 0))) (fun k => k = g18) (fun k hk => by subst hk; exact ⟨blk_lt s4, hno⟩) (fun W hW => (hW g18 rfl).trans s4))
                  clear hno
                  clear h4 hb s4
                  clear o0 o1 o2 o3 o4
                  have hgr := (Kd.R_reads' GR.out).2.2
                  rw [resO_len] at hgr
                  obtain ⟨adg, eg, hcg⟩ := Kd.at_int hgr (i : Int) (by omega) (by omega)
                  rw [show rd (resO S more) (i : Int) = r by unfold rd; rw [Int.toNat_natCast]; exact HRG.out, Int.toNat_natCast] at hcg
                  skip
                  have HCG := Aside0.mk hcg
                  have hno2 : uni φ χ adg.block = .no := GR.out.1 adg.block (by rw [eg]; rfl)
                  have HNG := Aside0.mk (uni_no.1 hno2).1
                  clear hgr hcg hno2
                  subst eg
                  have hi0 : (0 : Int) ≤ (i : Int) := Int.natCast_nonneg _
                  have hi1 : (i : Int) < (more.length : Int) := by omega
                  refine start_ (n := 8) (S := fun w' => w'.heap[g18]? = some (.cells #[.int .u8 o.f0, .string o.f1, .string o.f2, .slice A3 o.f3.length c3, .slice A4 o.f4.length c4] 32 (0, 0)) ∧ w'.cell? (adg.add i) = some (.int .i64 r)) (ds := []) #[false, false, false, false, false, false, false, false] (by kernel_rfl) rfl rfl (⟨VO.out.self, HCG.out⟩) (fun hHeld => ?_)
                  refine with_tabW r8_23.tab r8_23.bits (fun HT_ HW_ => ?_)
                  refine take_ (i := 0) (N := some 111) (v := ?_) (a' := ?_) #[true, false, false, false, false, false, false, false] rfl rfl (take_ofW HT_.out HW_.out (by kernel_rfl)) (fun _ _ _ h => h) (Or.inl ⟨by rfl, ?_⟩) hHeld ?_ ?_
                  rotate_left
                  · rintro w' hbq
                    have o0 := (blk_cell hbq.1 0).trans (show _ = some (.int .u8 o.f0) from rfl)
                    have o1 := (blk_cell hbq.1 1).trans (show _ = some (.string o.f1) from rfl)
                    have o2 := (blk_cell hbq.1 2).trans (show _ = some (.string o.f2) from rfl)
                    have o3 := (blk_cell hbq.1 3).trans (show _ = some (.slice A3 o.f3.length c3) from rfl)
                    have o4 := (blk_cell hbq.1 4).trans (show _ = some (.slice A4 o.f4.length c4) from rfl)
                    go_simp
                    with_reducible rfl
                  rotate_left
                  · simp only [Act.put, List.setIfInBounds_toArray, List.set_cons_zero, List.set_cons_succ, i64_w, i32_w]
                    rfl
                  refine pure_ (i := 1) (N := some 112) (v := ?_) (a' := ?_) #[true, true, false, false, false, false, false, false] rfl rfl (any_of HT_.out (by kernel_rfl)) (fun _ _ _ h => h) (Or.inl ⟨by rfl, ?_⟩) ?_ ?_
                  rotate_left
                  · intro w'
                    go_simp
                    with_reducible rfl
                  rotate_left
                  · simp only [Act.put, List.setIfInBounds_toArray, List.set_cons_zero, List.set_cons_succ, i64_w, i32_w]
                    rfl
                  refine pure_ (i := 3) (N := some 114) (v := ?_) (a' := ?_) #[true, true, false, true, false, false, false, false] rfl rfl (any_of HT_.out (by kernel_rfl)) (fun _ _ _ h => h) (Or.inl ⟨by rfl, ?_⟩) ?_ ?_
                  rotate_left
                  · intro w'
                    go_simp
                    with_reducible rfl
                  rotate_left
                  · simp only [Act.put, List.setIfInBounds_toArray, List.set_cons_zero, List.set_cons_succ, i64_w, i32_w]
                    rfl
                  refine pure_ (i := 4) (N := some 115) (v := ?_) (a' := ?_) #[true, true, false, true, true, false, false, false] rfl rfl (any_of HT_.out (by kernel_rfl)) (fun _ _ _ h => h) (Or.inl ⟨by rfl, ?_⟩) ?_ ?_
                  rotate_left
                  · intro w'
                    go_simp
                    with_reducible rfl
                  rotate_left
                  · simp only [Act.put, List.setIfInBounds_toArray, List.set_cons_zero, List.set_cons_succ, i64_w, i32_w]
                    rfl
                  refine pure_ (i := 5) (N := some 116) (v := ?_) (a' := ?_) #[true, true, false, true, true, true, false, false] rfl rfl (any_of HT_.out (by kernel_rfl)) (fun _ _ _ h => h) (Or.inl ⟨by rfl, ?_⟩) ?_ ?_
                  rotate_left
                  · intro w'
                    go_simp
                    with_reducible rfl
                  rotate_left
                  · simp only [Act.put, List.setIfInBounds_toArray, List.set_cons_zero, List.set_cons_succ, i64_w, i32_w]
                    rfl
                  refine take_ (i := 6) (N := some 117) (v := ?_) (a' := ?_) #[true, true, false, true, true, true, true, false] rfl rfl (take_ofW HT_.out HW_.out (by kernel_rfl)) (fun _ _ _ h => h) (Or.inl ⟨by rfl, ?_⟩) hHeld ?_ ?_
                  rotate_left
                  · rintro w' hbq
                    have cg := hbq.2
                    go_simp
                    with_reducible rfl
                  rotate_left
                  · simp only [Act.put, List.setIfInBounds_toArray, List.set_cons_zero, List.set_cons_succ, i64_w, i32_w]
                    rfl
                  refine one_ (i := 2) (N := some 113) #[true, true, true, true, true, true, true, false] rfl rfl (one_of HT_.out (by kernel_rfl)) (by decide) (fun K hK => ?_)
                  refine goes_ Try.func13 (by kernel_rfl) rfl #[.agg #[.int .u8 o.f0, .string o.f1, .string o.f2, .slice A3 o.f3.length c3, .slice A4 o.f4.length c4], .pointer (some ⟨gd, 0, none⟩)] (by rfl) rfl rfl (by first | done | rfl | (simp only [List.map_toArray, List.map_cons, List.map_nil]; rfl)) ?_
                  refine (does_op gd B _ SD o A3 c3 A4 c4 _ (Hd.out.drewN 1) HOKD.out HOO.out HO3.out w (below_drew HW.out) HBd.out HG3.out HG4.out).mono ?_
                  rw [HR.out]
                  rintro e0 w5 ⟨φ', rfl, hd, hs⟩
                  refine ⟨_, rfl, ?_⟩
                  have hS1 := ((VO.out.below (below_drew (Below.refl _ _))).step hs).self
                  have hS2 : w5.cell? (adg.add i) = some (.int .i64 r) := (World.cell?_of_block (hs.1.block (adg.add i).block (World.block_lt_of_cell? w7 _ HCG.out) (fun q => q (by rw [add_block]; exact HNG.out)))).trans HCG.out
                  have n_HW := Aside0.mk (step_all (below_drew HW.out) HBd.out (Hd.out.drewN 1) hs)
                  have n_Hc := Aside0.mk ((Hc.out.drewN 1).beside AP.out hs)
                  have n_AP := Aside0.mk (AP.out.step hs (Hc.out.drewN 1))
                  have n_GR := Aside0.mk (R_stepped (Kd.R_below GR.out (below_drew (Below.refl _ _))) (hs.left _))
                  clear HW Hc AP GR Hd
                  have HW := n_HW
                  have Hc := n_Hc
                  have AP := n_AP
                  have GR := n_GR
                  have Hd := Aside0.mk hd
                  clear n_HW n_Hc n_AP n_GR hd hs hHeld
                  refine hK.out _ _ ⟨hS1, hS2⟩ (fun hHeld => ?_)
                  clear hK K hS1 hS2 hHeld VO
                  refine norm_ (a' := ?_) ?_ ?_
                  rotate_left
                  · show Act.put _ (some 113) _ = _
                    simp only [Act.put, List.setIfInBounds_toArray, List.set_cons_zero, List.set_cons_succ, i64_w, i32_w]
                    rfl
                  refine pure_ (i := 7) (N := some 118) (v := ?_) (a' := ?_) #[true, true, true, true, true, true, true, true] rfl rfl (any_of HT_.out (by kernel_rfl)) (fun _ _ _ h => h) (Or.inl ⟨by rfl, ?_⟩) ?_ ?_
                  rotate_left
                  · intro w'
                    go_simp
                    with_reducible rfl
                  rotate_left
                  · simp only [Act.put, List.setIfInBounds_toArray, List.set_cons_zero, List.set_cons_succ, i64_w, i32_w]
                    rfl
                  refine done_ (done_of HT_.out (by kernel_rfl)) ?_
                  go_wp2
                  go_roundw
                  case rel =>
                    have e1 : runO S (more.take (i + 1)) = (doesO SD o).1 := by rw [HTK.out, runO_snoc, HSD.out]
                    exact ⟨i + 1, φ', by have := HJL.out; omega, by go_num, ⟨by rw [e1]; exact Hd.out⟩, Hc, AP, ⟨by rw [e1]; exact HGD.out.doesO HOO.out⟩, GR, HW⟩
                  case measure => have := HJL.out; simp [intOf]; omega
                · obtain rfl : i = more.length := by omega
                  rw [List.take_length, HSC.out] at Hd
                  clear hlt hi HGD GR
                  have HNAC := Aside0.mk HG6.out.named
                  go_upto_region 27 with (first | (go_at_call 14; refine (files_at gd B _ SC _ Hd.out HOKC.out HNAC.out).mono ?_; rintro e w6 ⟨m19, n19, rfl, ho, hm, hb, hnb⟩; have n_HW := Aside0.mk (below_step HW.out hb); have n_Hd := Aside0.mk (Hd.out.below hb); have n_Hc := Aside0.mk (Hc.out.below hb); clear HW Hd Hc; have HW := n_HW; have Hd := n_Hd; have Hc := n_Hc; clear n_HW n_Hd n_Hc; have M19 := Aside0.mk ho; clear ho hm hb hnb))
                  go_upto_region 28 with (first | (go_at_call 16; refine (list_at gd B _ SC _ Hd.out HOKC.out.fl).mono ?_; rintro e w5 ⟨v, rfl, hv, hb⟩; have hno := fun k h => Hd.out.new_no k h; have n_HW := Aside0.mk (below_step HW.out hb); have n_Hd := Aside0.mk (Hd.out.below hb); have n_Hc := Aside0.mk (Hc.out.below hb); have n_M19 := Aside0.mk (M19.out.move (hb.block m19 M19.out.lt)); clear HW Hd Hc M19; have HW := n_HW; have Hd := n_Hd; have Hc := n_Hc; have M19 := n_M19; clear n_HW n_Hd n_Hc n_M19; obtain ⟨An, cn, hv2, hnln, hst⟩ := Stays.names hv hno; rw [List.length_map] at hv2 hnln; subst hv2; have Nn := Aside0.mk hst.self; clear hv hb hno hst))
                  rename World => wl
                  go_loopw [125] (fun v125 wr => ∃ i : Nat, i ≤ SC.files.length ∧ v125 = .int .i64 i ∧ Aside0 (Below wl.heap.size wl wr)) (fun v125 _ => SC.files.length - (intOf v125).toNat)
                  case atStart => exact ⟨0, Nat.zero_le _, rfl, ⟨Below.refl _ _⟩⟩
                  case round =>
                    obtain ⟨i, hi, rfl, HBQ⟩ := hrel
                    rename World => wq
                    by_cases hlt : i < SC.files.length
                    · obtain ⟨p, hp⟩ : ∃ p, SC.files[i]? = some p := ⟨_, List.getElem?_eq_getElem hlt⟩
                      have hnm : (SC.files.map Prod.fst).getD i [] = p.1 := by rw [List.getD_eq_getElem?_getD, List.getElem?_map, hp]; rfl
                      obtain ⟨ad, e0, hnc⟩ := Nn.out i (by rw [List.length_map]; exact hlt)
                      subst e0
                      rw [hnm] at hnc
                      replace hnc := (HBQ.out.cell (World.block_lt_of_cell? wl _ hnc)).trans hnc
                      have hpm : p ∈ SC.files := List.mem_of_getElem? hp
                      have hfp := findP_of HG6.out.rise hpm (HNAC.out p hpm)
                      have hle := HOKC.out.small.len p hpm
                      have hnl0 := HOKC.out.nl p hpm
                      have HRD := Aside0.mk (read_at gd B _ SC p.1 wq (Hd.out.below HBQ.out) hnl0 (by rw [hfp]; exact hle))
                      rw [hfp] at HRD
                      have HIL : Aside0 (i < SC.files.length) := ⟨hlt⟩
                      have hble : p.2.b.length ≤ 1000000 := hle
                      clear hnm hp hpm hfp hle hnl0 hi
                      go_upto_region 31 with (first | (go_at_call 23; refine HRD.out.mono ?_; rintro e w5 ⟨AB, cB, rfl, hR, hb⟩; have HRB := Aside0.mk hR; have HB5 := Aside0.mk hb; clear hR hb))
                      clear hnc HRD
                      go_upto_region 32 with (fail)
                      rename World => wb
                      go_loopw [137] (fun v137 wx => ∃ (k : Nat) (xs : List Int), k ≤ p.2.b.length ∧ v137 = .int .i64 k ∧ xs.length = p.2.b.length ∧ Aside0 (Kd.R (Kd.int .u8) 5 wx wq.heap.size (fun _ => True) (.slice AB p.2.b.length cB) xs) ∧ Aside0 (Below wq.heap.size wq wx)) (fun v137 _ => p.2.b.length - (intOf v137).toNat)
                      case atStart => exact ⟨0, p.2.b, Nat.zero_le _, rfl, rfl, HRB, HB5⟩
                      case round =>
                        obtain ⟨k, xs, hk, rfl, hxl, HX, HBX⟩ := hrel
                        rename World => wx
                        by_cases hltk : k < p.2.b.length
                        · obtain ⟨gx, hgx⟩ : ∃ gx, AB = some ⟨gx, 0, none⟩ := by
                            have ho := Kd.own_of_R HX.out
                            rcases ho.2 with ⟨h1, h2⟩ | ⟨g, cap, cur, h1, _⟩
                            · omega
                            · simp only [Value.slice.injEq] at h1; exact ⟨g, h1.1⟩
                          subst hgx
                          have hxr := HX.out
                          rw [← hxl] at hxr
                          obtain ⟨hc1, hc2⟩ := Kd.R_cell (0 : Int) hxr (k : Int) (by omega) (by omega)
                          have hput : ∀ x, Kd.R (Kd.int .u8) 5 (wx.setCell ⟨gx, k, none⟩ (.int .u8 x)) wq.heap.size (fun _ => True) (.slice (some ⟨gx, 0, none⟩) p.2.b.length cB) (xs.set k x) := fun x => by have h := (Kd.R_put hxr (k : Int) x).1; rw [hxl, Int.toNat_natCast] at h; exact h
                          obtain ⟨xv, hxv⟩ : ∃ xv, rdOf (0 : Int) xs (k : Int) = xv := ⟨_, rfl⟩
                          rw [hxv] at hc1
                          simp only [Int.toNat_natCast] at hc1 hc2
                          have hadd : (⟨gx, 0, none⟩ : Addr).add k = ⟨gx, k, none⟩ := by simp [Addr.add]; intro h; exact h.symm
                          have hc1b : wx.cell? ((⟨gx, 0, none⟩ : Addr).add k) = some (.int .u8 xv) := by rw [hadd]; exact hc1
                          have hc2b : wx.frozen? ((⟨gx, 0, none⟩ : Addr).add k) = false := by rw [hadd]; exact hc2
                          have HPUT := Aside0.mk hput
                          have HXB := Aside0.mk (Kd.R_bound HX.out)
                          have HADD := Aside0.mk hadd
                          have HKL : Aside0 (k < p.2.b.length) := ⟨hltk⟩
                          have HXL := Aside0.mk hxl
                          clear hput hxr hxv hxl hadd
                          go_wp2
                          go_roundw
                          case rel =>
                            refine ⟨k + 1, _, by have := HKL.out; omega, by go_num, ?_, ⟨HPUT.out _⟩, ⟨?_⟩⟩
                            · rw [List.length_set]; exact HXL.out
                            · exact below_set HBX.out (HXB.out.1 gx rfl).2.1
                          case measure => have := HKL.out; simp [intOf]; omega
                        · obtain rfl : k = p.2.b.length := by omega
                          go_wp2
                          go_roundw
                          case rel => exact ⟨i + 1, by have := HIL.out; omega, by go_num, ⟨below_step HBQ.out HBX.out⟩⟩
                          case measure => have := HIL.out; simp [intOf]; omega
                    · obtain rfl : i = SC.files.length := by omega
                      clear hlt hi Nn
                      have hb := HBQ.out
                      have n_HW := Aside0.mk (below_step HW.out hb); have n_Hd := Aside0.mk (Hd.out.below hb); have n_Hc := Aside0.mk (Hc.out.below hb); have n_M19 := Aside0.mk (M19.out.move (hb.block m19 M19.out.lt)); clear HW Hd Hc M19; have HW := n_HW; have Hd := n_Hd; have Hc := n_Hc; have M19 := n_M19; clear n_HW n_Hd n_Hc n_M19
                      clear hb HBQ
                      have HQ4 : Aside0 True := ⟨trivial⟩
                      have HQ5 : Aside0 True := ⟨trivial⟩
                      go_wp2_with (first | (go_at_call 14; have hq := HQ4.out; refine (files_at gc Bc _ SC _ Hc.out HOKC.out HNAC.out).mono ?_; rintro e w6 ⟨mc, nc, rfl, ho, hm, hb, hnb⟩; have n_HW := Aside0.mk (below_step HW.out hb); have n_Hd := Aside0.mk (Hd.out.below hb); have n_Hc := Aside0.mk (Hc.out.below hb); have n_M19 := Aside0.mk (M19.out.move (hb.block m19 M19.out.lt)); clear HW Hd Hc M19; have HW := n_HW; have Hd := n_Hd; have Hc := n_Hc; have M19 := n_M19; clear n_HW n_Hd n_Hc n_M19; have MC := Aside0.mk ho; clear ho hm hb hnb HQ4 hq) | (go_at_call 18; have hq := HQ5.out; refine (same_at mc m19 _ _ _ _ _ MC.out M19.out (List.Perm.refl _) (filesOf_vals _)).mono ?_; rintro e w5 ⟨rfl, hb⟩; have n_HW := Aside0.mk (below_step HW.out hb); have n_Hd := Aside0.mk (Hd.out.below hb); have n_Hc := Aside0.mk (Hc.out.below hb); have n_M19 := Aside0.mk (M19.out.move (hb.block m19 M19.out.lt)); have n_MC := Aside0.mk (MC.out.move (hb.block mc MC.out.lt)); clear HW Hd Hc M19 MC; have HW := n_HW; have Hd := n_Hd; have Hc := n_Hc; have M19 := n_M19; have MC := n_MC; clear n_HW n_Hd n_Hc n_M19 n_MC; clear hb HQ5 hq) | (go_at_call 14; refine (files_at gd B _ SC _ Hd.out HOKC.out HNAC.out).mono ?_; rintro e w6 ⟨md, nd, rfl, ho, hm, hb, hnb⟩; have n_HW := Aside0.mk (below_step HW.out hb); have n_Hd := Aside0.mk (Hd.out.below hb); have n_Hc := Aside0.mk (Hc.out.below hb); have n_M19 := Aside0.mk (M19.out.move (hb.block m19 M19.out.lt)); have n_MC := Aside0.mk (MC.out.move (hb.block mc MC.out.lt)); clear HW Hd Hc M19 MC; have HW := n_HW; have Hd := n_Hd; have Hc := n_Hc; have M19 := n_M19; have MC := n_MC; clear n_HW n_Hd n_Hc n_M19 n_MC; have MD := Aside0.mk ho; clear ho hm hb hnb) | (go_at_call 18; refine (same_at md m19 _ _ _ _ _ MD.out M19.out (List.Perm.refl _) (filesOf_vals _)).mono ?_; rintro e w5 ⟨rfl, hb⟩; have n_HW := Aside0.mk (below_step HW.out hb); have n_Hd := Aside0.mk (Hd.out.below hb); have n_Hc := Aside0.mk (Hc.out.below hb); have n_M19 := Aside0.mk (M19.out.move (hb.block m19 M19.out.lt)); have n_MC := Aside0.mk (MC.out.move (hb.block mc MC.out.lt)); have n_MD := Aside0.mk (MD.out.move (hb.block md MD.out.lt)); clear HW Hd Hc M19 MC MD; have HW := n_HW; have Hd := n_Hd; have Hc := n_Hc; have M19 := n_M19; have MC := n_MC; have MD := n_MD; clear n_HW n_Hd n_Hc n_M19 n_MC n_MD; clear hb) | (go_at_call 11; refine (awake_at _).mono ?_; rintro e w5 ⟨rfl, hb⟩; have n_HW := Aside0.mk (below_step HW.out hb); clear HW; have HW := n_HW; clear n_HW; clear hb))
                      go_ret
                      exact ⟨rfl, HW.out⟩
end Go.Proofs.Yteibdmpjlpcgbaa.XDisk
