/- DiskTells: each answer, and all that the disk has, is as the document defines. -/
import Derived.Test.YteibdmpjlpcgbaaTHLaw
import Derived.Test.YteibdmpjlpcgbaaTHDoc8
namespace Go.Proofs.Yteibdmpjlpcgbaa.XDisk
open Go Go.RowKit Go.Proofs.YteibdmpjlpcgbaaW.PrintWords Go.Proofs.YteibdmpjlpcgbaaW.PrintLast Go.Proofs.YteibdmpjlpcgbaaW.PrintMore
open Go.Proofs.Yteibdmpjlpcgbaa
set_option linter.unusedVariables false
set_option linter.unusedSimpArgs false
theorem stepno_blk {w w' : World} {φ φ' : Nat → Tg} {g : Nat} {o : Obj} (hs : Step w w' φ φ') (hn : φ g = .no) (h : w.heap[g]? = some o) : w'.heap[g]? = some o :=
  (hs.1.block g ((Array.getElem?_eq_some_iff.1 h).1) (fun q => q hn)).trans h
theorem DocIn.stepno {w w' : World} {φ φ' : Nat → Tg} {g : Nat} {Af : Option Addr} {cf : Nat} {Ap : Option Addr} {cp : Nat} {A : Option Addr} {c : Nat} {S : DA} (h : DocIn w (fun k => φ k = .no ∧ k ≠ g) Af cf Ap cp A c S) (hs : Step w w' φ φ') : DocIn w' (fun k => φ' k = .no ∧ k ≠ g) Af cf Ap cp A c S :=
  (h.bound.step (fun k hk hlt => hs.1.block k hlt (fun q => q hk.1.1))).mono (fun k hk => ⟨hs.2 k hk.2 hk.1.1, hk.1.2⟩)
theorem arg_F {k : IntKind} {w W : World} {A : Option Addr} {n : Nat} {xs : List Int} (hC : Kd.C (Kd.int k) w A n xs) (hb : Below w.heap.size w W) : Kd.F (Kd.int k) W (fun k => k < w.heap.size) A n xs := fun W' hW =>
  (Kd.heap_int _).C (fun q hq => (hW q hq (Nat.lt_of_lt_of_le hq hb.size)).trans (hb.block q hq)) hC
theorem does_doc_op (P : Nat → Prop) (Af : Option Addr) (cf : Nat) (Ap : Option Addr) (cp : Nat) (A : Option Addr) (c : Nat) (S S' : DA) (re : Int) (o : S32) (A3 : Option Addr) (c3 : Nat) (A4 : Option Addr) (c4 : Nat) (w : World) (h : DocIn w P Af cf Ap cp A c S) {k : Nat} (hg : Good k S) (hk : k ≤ 60) (ho : OpOk o) (h3 : o.f3.length ≤ c3) (h4 : o.f4.length ≤ c4) (w0 : World) (hB : Below w0.heap.size w0 w) (g3 : Kd.C (Kd.int .u8) w0 A3 o.f3.length o.f3) (g4 : Kd.C (Kd.int .i64) w0 A4 o.f4.length o.f4) (hS : (doesO S o).1 = S') (hr : (doesO S o).2 = re) :
    Calls Try.prog 21 #[.agg #[.int .u8 o.f0, .string o.f1, .string o.f2, .slice A3 o.f3.length c3, .slice A4 o.f4.length c4], docV Af cf Ap cp A c S] w fun e w' => ∃ A' c', e = .returned (.tuple #[docV Af cf Ap cp A' c' S', .int .i64 re]) ∧ DocIn w' (fun k => P k ∨ w.heap.size ≤ k) Af cf Ap cp A' c' S' ∧ Below w.heap.size w w' := by
  have hO := hg.ok (by omega)
  have h1 := does_doc P Af cf Ap cp A c S o.f0 o.f1.data.toList o.f2.data.toList o.f3 o.f4 A3 c3 A4 c4 w h (by have := hg.few; omega) (by have := hg.fl; omega) hg.rise hg.c0 (by have := hg.c1; omega) hO.fits hg.sane ho.a0 ho.a1 (Kd.C_below g3 hB) h3 (by have := ho.s3; omega) (Kd.C_below g4 hB) h4
  rw [str_of, str_of] at h1
  refine h1.mono ?_
  intro e w' hq
  subst hS
  subst hr
  exact hq
theorem findP_len {k : Nat} {S : DA} (hg : Good k S) (hk : k ≤ 60) (nm : Nm) : (findP S nm).1.b.length ≤ 1000000 := by
  unfold findP
  split
  · exact Nat.zero_le _
  · split
    · exact Nat.zero_le _
    · rename_i f hf
      exact (hg.ok (by omega)).small.len _ (get_mem hf)
theorem read_f2 (gd B : Nat) (φ : Nat → Tg) (S : DA) (s : ByteArray) (f : FA) (ef : Int) (w : World) (h : DAt w φ B gd S) (hs : s.size ≤ 60) (hf : findP S s.data.toList = (f, ef)) (hl : f.b.length ≤ 1000000) :
    Calls Try.prog 23 #[.pointer (some ⟨gd, 0, none⟩), .string s] w fun e w' => ∃ A c, e = .returned (.tuple #[.slice A f.b.length c, .int .i64 ef]) ∧ Kd.C (Kd.int .u8) w' A f.b.length f.b ∧ Below w.heap.size w w' := by
  have h1 := read_at gd B φ S s.data.toList w h (by rw [Array.length_toList]; exact Nat.le_trans hs (by omega)) (by rw [hf]; exact hl)
  rw [str_of, hf] at h1
  refine h1.mono ?_
  rintro e w' ⟨A, c, he, hR, hb⟩
  exact ⟨A, c, he, (Kd.R_reads' hR).2.2, hb⟩
theorem size_f2 (gd B : Nat) (φ : Nat → Tg) (S : DA) (s : ByteArray) (f : FA) (ef : Int) (w : World) (h : DAt w φ B gd S) (hs : s.size ≤ 60) (hf : findP S s.data.toList = (f, ef)) :
    Calls Try.prog 25 #[.pointer (some ⟨gd, 0, none⟩), .string s] w fun e w' => e = .returned (.tuple #[.int .i64 f.b.length, .int .i64 ef]) ∧ Below w.heap.size w w' := by
  have h1 := size_at gd B φ S s.data.toList w h (by rw [Array.length_toList]; exact Nat.le_trans hs (by omega))
  rw [str_of, hf] at h1
  exact h1
theorem doc_f2 (P : Nat → Prop) (Af : Option Addr) (cf : Nat) (Ap : Option Addr) (cp : Nat) (A : Option Addr) (c : Nat) (S : DA) (s : ByteArray) (f : FA) (ef : Int) (w : World) (h : DocIn w P Af cf Ap cp A c S) (hln : S.files.length ≤ 10000) (hf : findP S s.data.toList = (f, ef)) :
    Calls Try.prog 24 #[docV Af cf Ap cp A c S, .string s] w fun e w' => ∃ nm A1 c1, e = .returned (.tuple #[.agg #[.string nm, .slice A1 f.b.length c1, .int .i64 f.safe], .int .i64 ef]) ∧ Kd.C (Kd.int .u8) w' A1 f.b.length f.b ∧ Below w.heap.size w w' := by
  have h1 := read_doc P Af cf Ap cp A c S s.data.toList w h hln
  rw [str_of, hf] at h1
  refine h1.mono ?_
  rintro e w' ⟨nm, A1, c1, he, hF, _, hb⟩
  exact ⟨nm, A1, c1, he, Kd.F_now hF, hb⟩
def TellRel (w : World) (A0 : Option Addr) (c0 : Nat) (A1 : Option Addr) (c1 : Nat) (l : List S32) (gd B g8 : Nat) (v45 : Value) (wr : World) : Prop :=
  ∃ (i : Nat) (S : DA) (φ : Nat → Tg) (A : Option Addr) (c : Nat), i ≤ l.length ∧ v45 = .int .i64 i ∧ Aside0 (DAt wr φ B gd S) ∧ Aside0 (Good i S) ∧ Aside0 (DocIn wr (fun k => φ k = .no ∧ k ≠ g8) A0 c0 A1 c1 A c S) ∧ Aside0 (φ g8 = .no) ∧ Aside0 (wr.heap[g8]? = some (.cells #[.int .i64 S.room, .slice A0 S.fails.length c0, .slice A1 S.parts.length c1, .slice A S.files.length c, .int .i64 S.calls] 49 (0, 0))) ∧ Aside0 (Below w.heap.size w wr)
def r5_3.T : Bool × List (List Nat × List Nat) := (true, [([], []), ([], []), ([0, 1], [0, 1]), ([], []), ([3], [3]), ([], []), ([4, 5, 2], [4, 5]), ([], []), ([2, 6, 0, 1, 2, 7], [2]), ([7, 6, 8, 0, 1, 2, 3, 4, 5, 6, 7, 8], [6, 7])])
def r5_3.B : List Nat := [0, 0, 3, 0, 8, 0, 63, 0, 255, 511]
theorem r5_3.tab : rtab .any (opsOf Try.f5 3) = r5_3.T := by kernel_rfl
theorem r5_3.bits : waitsOk r5_3.T.2 r5_3.B = true := by kernel_rfl
attribute [local go_sem] max_run min_run
set_option maxHeartbeats 16000000 in
set_option maxRecDepth 100000 in
theorem tells_walk (cap : Int) (A0 : Option Addr) (c0 : Nat) (fs : List Int) (A1 : Option Addr) (c1 : Nat) (ps : List Int) (A2 : Option Addr) (c2 : Nat) (l : List S32) (w : World) (hcap : cap ≤ 9223372036854775807) (hr0 : Kd.C (Kd.int .i64) w A0 fs.length fs) (hc0 : fs.length ≤ c0) (hr1 : Kd.C (Kd.int .i64) w A1 ps.length ps) (hc1 : ps.length ≤ c1) (hr2 : Kd.C k32 w A2 l.length l) (hc2 : l.length ≤ c2) (hl : l.length ≤ 9223372036854775807) (hop : ∀ o ∈ l, 0 ≤ o.f0 ∧ o.f0 ≤ 255) :
    Calls Try.prog 5 #[.int .i64 cap, .agg #[.slice A0 fs.length c0, .slice A1 ps.length c1], .slice A2 l.length c2] w fun e w' => e = .returned (.bool true) ∧ Below w.heap.size w w' := by
  have HF0 := Aside0.mk hr0
  have HF1 := Aside0.mk hr1
  have HL := Aside0.mk hr2
  have HC0 := Aside0.mk hc0
  have HC1 := Aside0.mk hc1
  have HLC := Aside0.mk hc2
  have HLM : Aside0 (l.length ≤ 9223372036854775807) := ⟨hl⟩
  have hfm : fs.length ≤ 9223372036854775807 := hr0.2.1
  have hpm : ps.length ≤ 9223372036854775807 := hr1.2.1
  have HCAP := Aside0.mk hcap
  have HOA := Aside0.mk hop
  have HW := Aside0.mk (Below.refl w.heap.size w)
  clear hr0 hr1 hr2 hc0 hc1 hc2 hcap hop
  obtain ⟨fb, hfb⟩ : ∃ fb, fewP l 60 = fb := ⟨_, rfl⟩
  have HFB := Aside0.mk hfb
  cases fb with
  | false =>
    clear hfb
    go_enter Try.func5, Try.ntmps5
    go_wp2_with (first | ((with_reducible refine gate_dst (N := 4) rfl ?_); refine box_event ?hg (N := 4) ?hd (cs := #[.slice A0 fs.length c0, .slice A1 ps.length c1]) (t := 24) ?hr ?_; (case hd => rfl); (case hg => rfl); (case hr => first | (go_simp; done) | (go_simp; rfl)); intro gp hg w3 hbox hb; have BP := Aside0.mk hbox; have kp0 := blk_c' hbox 0 rfl; have kp1 := blk_c' hbox 1 rfl; have n_HW := Aside0.mk (below_step HW.out hb); clear HW; have HW := n_HW; clear n_HW; clear hg hbox hb) | (go_at_call 10; refine (few_at A2 c2 l 60 _ (Kd.C_below HL.out HW.out) HLC.out HLM.out).mono ?_; rw [HFB.out]; rintro e w5 ⟨rfl, hb⟩; have n_HW := Aside0.mk (below_step HW.out hb); have n_BP := Aside0.mk (blk_below BP.out hb); clear HW BP; have HW := n_HW; have BP := n_BP; clear n_HW n_BP; clear hb; clear kp0 kp1; have kp0 := blk_c' BP.out 0 rfl; have kp1 := blk_c' BP.out 1 rfl) | (go_at_call 11; refine (awake_at _).mono ?_; rintro e w5 ⟨rfl, hb⟩; have n_HW := Aside0.mk (below_step HW.out hb); have n_BP := Aside0.mk (blk_below BP.out hb); clear HW BP; have HW := n_HW; have BP := n_BP; clear n_HW n_BP; clear hb))
    go_ret
    exact ⟨rfl, HW.out⟩
  | true =>
    by_cases h0 : fs.length ≤ 60
    rotate_left
    · have d0 : decide ((fs.length : Int) > 60) = true := decide_eq_true (by omega)
      have e0 : decide ((60 : Int) < (fs.length : Int)) = true := decide_eq_true (by omega)
      clear hfb
      go_enter Try.func5, Try.ntmps5
      go_wp2_with (first | ((with_reducible refine gate_dst (N := 4) rfl ?_); refine box_event ?hg (N := 4) ?hd (cs := #[.slice A0 fs.length c0, .slice A1 ps.length c1]) (t := 24) ?hr ?_; (case hd => rfl); (case hg => rfl); (case hr => first | (go_simp; done) | (go_simp; rfl)); intro gp hg w3 hbox hb; have BP := Aside0.mk hbox; have kp0 := blk_c' hbox 0 rfl; have kp1 := blk_c' hbox 1 rfl; have n_HW := Aside0.mk (below_step HW.out hb); clear HW; have HW := n_HW; clear n_HW; clear hg hbox hb) | (go_at_call 10; refine (few_at A2 c2 l 60 _ (Kd.C_below HL.out HW.out) HLC.out HLM.out).mono ?_; rw [HFB.out]; rintro e w5 ⟨rfl, hb⟩; have n_HW := Aside0.mk (below_step HW.out hb); have n_BP := Aside0.mk (blk_below BP.out hb); clear HW BP; have HW := n_HW; have BP := n_BP; clear n_HW n_BP; clear hb; clear kp0 kp1; have kp0 := blk_c' BP.out 0 rfl; have kp1 := blk_c' BP.out 1 rfl) | (go_at_call 11; refine (awake_at _).mono ?_; rintro e w5 ⟨rfl, hb⟩; have n_HW := Aside0.mk (below_step HW.out hb); have n_BP := Aside0.mk (blk_below BP.out hb); clear HW BP; have HW := n_HW; have BP := n_BP; clear n_HW n_BP; clear hb))
      go_ret
      exact ⟨rfl, HW.out⟩
    have d0 : decide ((fs.length : Int) > 60) = false := decide_eq_false (by omega)
    have e0 : decide ((60 : Int) < (fs.length : Int)) = false := decide_eq_false (by omega)
    by_cases h1 : ps.length ≤ 60
    rotate_left
    · have d1 : decide ((ps.length : Int) > 60) = true := decide_eq_true (by omega)
      have e1 : decide ((60 : Int) < (ps.length : Int)) = true := decide_eq_true (by omega)
      clear hfb
      go_enter Try.func5, Try.ntmps5
      go_wp2_with (first | ((with_reducible refine gate_dst (N := 4) rfl ?_); refine box_event ?hg (N := 4) ?hd (cs := #[.slice A0 fs.length c0, .slice A1 ps.length c1]) (t := 24) ?hr ?_; (case hd => rfl); (case hg => rfl); (case hr => first | (go_simp; done) | (go_simp; rfl)); intro gp hg w3 hbox hb; have BP := Aside0.mk hbox; have kp0 := blk_c' hbox 0 rfl; have kp1 := blk_c' hbox 1 rfl; have n_HW := Aside0.mk (below_step HW.out hb); clear HW; have HW := n_HW; clear n_HW; clear hg hbox hb) | (go_at_call 10; refine (few_at A2 c2 l 60 _ (Kd.C_below HL.out HW.out) HLC.out HLM.out).mono ?_; rw [HFB.out]; rintro e w5 ⟨rfl, hb⟩; have n_HW := Aside0.mk (below_step HW.out hb); have n_BP := Aside0.mk (blk_below BP.out hb); clear HW BP; have HW := n_HW; have BP := n_BP; clear n_HW n_BP; clear hb; clear kp0 kp1; have kp0 := blk_c' BP.out 0 rfl; have kp1 := blk_c' BP.out 1 rfl) | (go_at_call 11; refine (awake_at _).mono ?_; rintro e w5 ⟨rfl, hb⟩; have n_HW := Aside0.mk (below_step HW.out hb); have n_BP := Aside0.mk (blk_below BP.out hb); clear HW BP; have HW := n_HW; have BP := n_BP; clear n_HW n_BP; clear hb))
      go_ret
      exact ⟨rfl, HW.out⟩
    have d1 : decide ((ps.length : Int) > 60) = false := decide_eq_false (by omega)
    have e1 : decide ((60 : Int) < (ps.length : Int)) = false := decide_eq_false (by omega)
    obtain ⟨hsm, hl60⟩ := few_all hfb
    have HOKHL : Aside0 (∀ o ∈ l, OpOk o) := ⟨fun o ho => ⟨(HOA.out o ho).1, (HOA.out o ho).2, (hsm o ho).1, (hsm o ho).2.1, (hsm o ho).2.2.1, (hsm o ho).2.2.2⟩⟩
    clear hsm hfb
    have HH0 := Aside0.mk h0
    have HH1 := Aside0.mk h1
    clear h0 h1 hfm hpm
    go_enter Try.func5, Try.ntmps5
    go_upto_region 3 with (first | ((with_reducible refine gate_dst (N := 4) rfl ?_); refine box_event ?hg (N := 4) ?hd (cs := #[.slice A0 fs.length c0, .slice A1 ps.length c1]) (t := 24) ?hr ?_; (case hd => rfl); (case hg => rfl); (case hr => first | (go_simp; done) | (go_simp; rfl)); intro gp hg w3 hbox hb; have BP := Aside0.mk hbox; have kp0 := blk_c' hbox 0 rfl; have kp1 := blk_c' hbox 1 rfl; have n_HW := Aside0.mk (below_step HW.out hb); clear HW; have HW := n_HW; clear n_HW; clear hg hbox hb) | (go_at_call 10; refine (few_at A2 c2 l 60 _ (Kd.C_below HL.out HW.out) HLC.out HLM.out).mono ?_; rw [HFB.out]; rintro e w5 ⟨rfl, hb⟩; have n_HW := Aside0.mk (below_step HW.out hb); have n_BP := Aside0.mk (blk_below BP.out hb); clear HW BP; have HW := n_HW; have BP := n_BP; clear n_HW n_BP; clear hb; clear kp0 kp1; have kp0 := blk_c' BP.out 0 rfl; have kp1 := blk_c' BP.out 1 rfl))
    clear kp0 kp1 d0 d1 e0 e1
    rename World => w5
    refine start_ (n := 10) (S := fun w' => Below w5.heap.size w5 w') (ds := [9]) #[false, false, false, false, false, false, false, false, false, false] (by kernel_rfl) rfl rfl (below_drew (Below.refl _ _)) (fun hHeld => ?_)
    refine with_tabW r5_3.tab r5_3.bits (fun HT_ HW_ => ?_)
    generalize w5.drew = wd at hHeld ⊢
    refine pure_ (i := 0) (N := some 36) (v := ?_) (a' := ?_) #[true, false, false, false, false, false, false, false, false, false] rfl rfl (any_of HT_.out (by kernel_rfl)) (fun _ _ _ h => h) (Or.inl ⟨by rfl, ?_⟩) ?_ ?_
    rotate_left
    · intro w'
      go_simp
      with_reducible rfl
    rotate_left
    · simp only [Act.put, List.setIfInBounds_toArray, List.set_cons_zero, List.set_cons_succ, i64_w, i32_w]
      rfl
    refine take_ (i := 1) (N := some 37) (v := ?_) (a' := ?_) #[true, true, false, false, false, false, false, false, false, false] rfl rfl (take_ofW HT_.out HW_.out (by kernel_rfl)) (fun _ _ _ h => h) (Or.inl ⟨by rfl, ?_⟩) hHeld ?_ ?_
    rotate_left
    · rintro w' hbq
      have kp0 := blk_c' (blk_below BP.out hbq) 0 rfl
      have kp1 := blk_c' (blk_below BP.out hbq) 1 rfl
      go_simp
      with_reducible rfl
    rotate_left
    · simp only [Act.put, List.setIfInBounds_toArray, List.set_cons_zero, List.set_cons_succ, i64_w, i32_w]
      rfl
    refine pure_ (i := 3) (N := some 39) (v := ?_) (a' := ?_) #[true, true, false, true, false, false, false, false, false, false] rfl rfl (any_of HT_.out (by kernel_rfl)) (fun _ _ _ h => h) (Or.inl ⟨by rfl, ?_⟩) ?_ ?_
    rotate_left
    · intro w'
      go_simp
      with_reducible rfl
    rotate_left
    · simp only [Act.put, List.setIfInBounds_toArray, List.set_cons_zero, List.set_cons_succ, i64_w, i32_w]
      rfl
    refine pure_ (i := 4) (N := some 40) (v := ?_) (a' := ?_) #[true, true, false, true, true, false, false, false, false, false] rfl rfl (any_of HT_.out (by kernel_rfl)) (fun _ _ _ h => h) (Or.inl ⟨by rfl, ?_⟩) ?_ ?_
    rotate_left
    · intro w'
      go_simp
      with_reducible rfl
    rotate_left
    · simp only [Act.put, List.setIfInBounds_toArray, List.set_cons_zero, List.set_cons_succ, i64_w, i32_w]
      rfl
    refine take_ (i := 5) (N := some 41) (v := ?_) (a' := ?_) #[true, true, false, true, true, true, false, false, false, false] rfl rfl (take_ofW HT_.out HW_.out (by kernel_rfl)) (fun _ _ _ h => h) (Or.inl ⟨by rfl, ?_⟩) hHeld ?_ ?_
    rotate_left
    · rintro w' hbq
      have kp0 := blk_c' (blk_below BP.out hbq) 0 rfl
      have kp1 := blk_c' (blk_below BP.out hbq) 1 rfl
      go_simp
      with_reducible rfl
    rotate_left
    · simp only [Act.put, List.setIfInBounds_toArray, List.set_cons_zero, List.set_cons_succ, i64_w, i32_w]
      rfl
    refine joinX (ι := Nat × Nat × (Nat → Tg) × Nat) 2 #[true, true, true, true, true, true, true, true, false, false] (fun i => [(38, .pointer (some ⟨i.1, 0, none⟩)), (8, .pointer (some ⟨i.2.1, 0, none⟩)), (42, docV A0 c0 A1 c1 none 0 ⟨max cap 0, fs, ps, 0, []⟩)]) (fun i wx => Aside0 (Below w5.heap.size w5 wx) ∧ Aside0 (DAt wx i.2.2.1 i.2.2.2 i.1 (newP cap fs ps)) ∧ Aside0 (DocIn wx (fun k => k < w.heap.size) A0 c0 A1 c1 none 0 ⟨max cap 0, fs, ps, 0, []⟩) ∧ Aside0 (wx.heap[i.2.1]? = some (.cells #[.int .i64 0, .slice none 0 0, .slice none 0 0, .slice none 0 0, .int .i64 0] 49 (0, 0))) ∧ Aside0 (w5.heap.size ≤ i.2.2.2) ∧ Aside0 (w5.heap.size ≤ i.2.1) ∧ Aside0 (i.2.2.1 i.2.1 = .no)) ?_ (fun JJ => ?_)
    rotate_left
    · refine two_ (i := 2) (j := 7) (Ni := some 38) (Nj := some 8) #[true, true, true, true, true, true, false, false, false, false] #[true, true, false, true, true, true, false, true, false, false] rfl rfl rfl rfl (two_of HT_.out (by kernel_rfl)) (by decide) (by decide) (fun K hK => ?_) (fun K hK => ?_)
      · refine goes_ Try.func12 (by kernel_rfl) rfl #[.int .i64 cap, .agg #[.slice A0 fs.length c0, .slice A1 ps.length c1]] (by rfl) rfl rfl (by first | done | rfl | (simp only [List.map_toArray, List.map_cons, List.map_nil]; rfl)) ?_
        refine (new_at2 cap A0 c0 fs A1 c1 ps _ (Kd.C_below HF0.out (below_step HW.out hHeld)) HC0.out HH0.out (Kd.C_below HF1.out (below_step HW.out hHeld)) HC1.out HH1.out).mono ?_
        rintro e0 w6 ⟨gd, φ, B, rfl, hB, hd, hb⟩
        refine ⟨_, rfl, ?_⟩
        have HBd : Aside0 (w5.heap.size ≤ B) := ⟨Nat.le_trans hHeld.size hB⟩
        have Hd := Aside0.mk hd
        have hx := below_step hHeld hb
        clear hd hB hb hHeld
        refine hK.out _ _ hx (fun hHeld => ?_)
        clear hK K hx
        refine norm_ (a' := ?_) ?_ ?_
        rotate_left
        · show Act.put _ (some 38) _ = _
          simp only [Act.put, List.setIfInBounds_toArray, List.set_cons_zero, List.set_cons_succ, i64_w, i32_w]
          rfl
        refine two_ (i := 6) (j := 7) (Ni := some 42) (Nj := some 8) #[true, true, true, true, true, true, true, false, false, false] #[true, true, true, true, true, true, false, true, false, false] rfl rfl rfl rfl (two_of HT_.out (by kernel_rfl)) (by decide) (by decide) (fun K hK => ?_) (fun K hK => ?_)
        · refine goes_ Try.func20 (by kernel_rfl) rfl #[.int .i64 (max cap 0), .agg #[.slice A0 fs.length c0, .slice A1 ps.length c1]] (by rfl) rfl rfl (by first | done | rfl | (simp only [List.map_toArray, List.map_cons, List.map_nil]; rfl)) ?_
          refine (new_doc (fun k => k < w.heap.size) (max cap 0) A0 c0 A1 c1 fs ps _ (arg_F HF0.out (below_step HW.out hHeld)) HC0.out (arg_F HF1.out (below_step HW.out hHeld)) HC1.out).mono ?_
          rintro e0 w6 ⟨rfl, hd, hb⟩
          refine ⟨_, rfl, ?_⟩
          have n_Hd := Aside0.mk (Hd.out.below hb)
          clear Hd
          have Hd := n_Hd
          clear n_Hd
          have HQ := Aside0.mk hd
          have hx := below_step hHeld hb
          clear hd hb hHeld
          refine hK.out _ _ hx (fun hHeld => ?_)
          clear hK K hx
          refine norm_ (a' := ?_) ?_ ?_
          rotate_left
          · show Act.put _ (some 42) _ = _
            simp only [Act.put, List.setIfInBounds_toArray, List.set_cons_zero, List.set_cons_succ, i64_w, i32_w]
            rfl
          refine one_ (i := 7) (N := some 8) #[true, true, true, true, true, true, true, true, false, false] rfl rfl (one_of HT_.out (by kernel_rfl)) (by decide) (fun K hK => ?_)
          refine box_step (N := 8) (cs := #[.int .i64 0, .slice none 0 0, .slice none 0 0, .slice none 0 0, .int .i64 0]) (t := 49) (by rfl) rfl (by first | (go_simp; done) | (go_simp; rfl)) ?_
          intro g8 hg w6 hbox hb
          have Y8 : Aside0 (w5.heap.size ≤ g8) := ⟨by rw [hg]; exact below_size hHeld⟩
          have NO8 : Aside0 (φ g8 = .no) := ⟨Hd.out.new_no _ (Nat.le_of_eq hg.symm)⟩
          have n_Hd := Aside0.mk (Hd.out.below hb)
          have n_HQ := Aside0.mk (HQ.out.below hb)
          clear Hd HQ
          have Hd := n_Hd
          have HQ := n_HQ
          clear n_Hd n_HQ
          have X8 := Aside0.mk hbox
          have hx := below_step hHeld hb
          clear hbox hb hg hHeld
          refine hK.out _ _ hx (fun hHeld => ?_)
          clear hK K hx
          refine norm_ ?_ (JJ.out (gd, g8, φ, B) _ ⟨⟨hHeld⟩, Hd, HQ, X8, HBd, Y8, NO8⟩)
          show Act.put _ (some 8) _ = _
          simp only [putAll, Act.put, List.setIfInBounds_toArray, List.set_cons_zero, List.set_cons_succ]
        · refine box_step (N := 8) (cs := #[.int .i64 0, .slice none 0 0, .slice none 0 0, .slice none 0 0, .int .i64 0]) (t := 49) (by rfl) rfl (by first | (go_simp; done) | (go_simp; rfl)) ?_
          intro g8 hg w6 hbox hb
          have Y8 : Aside0 (w5.heap.size ≤ g8) := ⟨by rw [hg]; exact below_size hHeld⟩
          have NO8 : Aside0 (φ g8 = .no) := ⟨Hd.out.new_no _ (Nat.le_of_eq hg.symm)⟩
          have n_Hd := Aside0.mk (Hd.out.below hb)
          clear Hd
          have Hd := n_Hd
          clear n_Hd
          have X8 := Aside0.mk hbox
          have hx := below_step hHeld hb
          clear hbox hb hg hHeld
          refine hK.out _ _ hx (fun hHeld => ?_)
          clear hK K hx
          refine norm_ (a' := ?_) ?_ ?_
          rotate_left
          · show Act.put _ (some 8) _ = _
            simp only [Act.put, List.setIfInBounds_toArray, List.set_cons_zero, List.set_cons_succ, i64_w, i32_w]
            rfl
          refine one_ (i := 6) (N := some 42) #[true, true, true, true, true, true, true, true, false, false] rfl rfl (one_of HT_.out (by kernel_rfl)) (by decide) (fun K hK => ?_)
          refine goes_ Try.func20 (by kernel_rfl) rfl #[.int .i64 (max cap 0), .agg #[.slice A0 fs.length c0, .slice A1 ps.length c1]] (by rfl) rfl rfl (by first | done | rfl | (simp only [List.map_toArray, List.map_cons, List.map_nil]; rfl)) ?_
          refine (new_doc (fun k => k < w.heap.size) (max cap 0) A0 c0 A1 c1 fs ps _ (arg_F HF0.out (below_step HW.out hHeld)) HC0.out (arg_F HF1.out (below_step HW.out hHeld)) HC1.out).mono ?_
          rintro e0 w6 ⟨rfl, hd, hb⟩
          refine ⟨_, rfl, ?_⟩
          have n_Hd := Aside0.mk (Hd.out.below hb)
          have n_X8 := Aside0.mk (blk_below X8.out hb)
          clear Hd X8
          have Hd := n_Hd
          have X8 := n_X8
          clear n_Hd n_X8
          have HQ := Aside0.mk hd
          have hx := below_step hHeld hb
          clear hd hb hHeld
          refine hK.out _ _ hx (fun hHeld => ?_)
          clear hK K hx
          refine norm_ ?_ (JJ.out (gd, g8, φ, B) _ ⟨⟨hHeld⟩, Hd, HQ, X8, HBd, Y8, NO8⟩)
          show Act.put _ (some 42) _ = _
          simp only [putAll, Act.put, List.setIfInBounds_toArray, List.set_cons_zero, List.set_cons_succ]
      · refine box_step (N := 8) (cs := #[.int .i64 0, .slice none 0 0, .slice none 0 0, .slice none 0 0, .int .i64 0]) (t := 49) (by rfl) rfl (by first | (go_simp; done) | (go_simp; rfl)) ?_
        intro g8 hg w6 hbox hb
        have Y8 : Aside0 (w5.heap.size ≤ g8) := ⟨by rw [hg]; exact below_size hHeld⟩
        have X8 := Aside0.mk hbox
        have hx := below_step hHeld hb
        clear hbox hb hg hHeld
        refine hK.out _ _ hx (fun hHeld => ?_)
        clear hK K hx
        refine norm_ (a' := ?_) ?_ ?_
        rotate_left
        · show Act.put _ (some 8) _ = _
          simp only [Act.put, List.setIfInBounds_toArray, List.set_cons_zero, List.set_cons_succ, i64_w, i32_w]
          rfl
        refine one_ (i := 2) (N := some 38) #[true, true, true, true, true, true, false, true, false, false] rfl rfl (one_of HT_.out (by kernel_rfl)) (by decide) (fun K hK => ?_)
        refine goes_ Try.func12 (by kernel_rfl) rfl #[.int .i64 cap, .agg #[.slice A0 fs.length c0, .slice A1 ps.length c1]] (by rfl) rfl rfl (by first | done | rfl | (simp only [List.map_toArray, List.map_cons, List.map_nil]; rfl)) ?_
        refine (new_at2 cap A0 c0 fs A1 c1 ps _ (Kd.C_below HF0.out (below_step HW.out hHeld)) HC0.out HH0.out (Kd.C_below HF1.out (below_step HW.out hHeld)) HC1.out HH1.out).mono ?_
        rintro e0 w6 ⟨gd, φ, B, rfl, hB, hd, hb⟩
        refine ⟨_, rfl, ?_⟩
        have NO8 : Aside0 (φ g8 = .no) := ⟨Classical.byContradiction (fun q => absurd (hd.dom g8 q).1 (Nat.not_le.2 (Nat.lt_of_lt_of_le (blk_lt X8.out) hB)))⟩
        have n_X8 := Aside0.mk (blk_below X8.out hb)
        clear X8
        have X8 := n_X8
        clear n_X8
        have HBd : Aside0 (w5.heap.size ≤ B) := ⟨Nat.le_trans hHeld.size hB⟩
        have Hd := Aside0.mk hd
        have hx := below_step hHeld hb
        clear hd hB hb hHeld
        refine hK.out _ _ hx (fun hHeld => ?_)
        clear hK K hx
        refine norm_ (a' := ?_) ?_ ?_
        rotate_left
        · show Act.put _ (some 38) _ = _
          simp only [Act.put, List.setIfInBounds_toArray, List.set_cons_zero, List.set_cons_succ, i64_w, i32_w]
          rfl
        refine one_ (i := 6) (N := some 42) #[true, true, true, true, true, true, true, true, false, false] rfl rfl (one_of HT_.out (by kernel_rfl)) (by decide) (fun K hK => ?_)
        refine goes_ Try.func20 (by kernel_rfl) rfl #[.int .i64 (max cap 0), .agg #[.slice A0 fs.length c0, .slice A1 ps.length c1]] (by rfl) rfl rfl (by first | done | rfl | (simp only [List.map_toArray, List.map_cons, List.map_nil]; rfl)) ?_
        refine (new_doc (fun k => k < w.heap.size) (max cap 0) A0 c0 A1 c1 fs ps _ (arg_F HF0.out (below_step HW.out hHeld)) HC0.out (arg_F HF1.out (below_step HW.out hHeld)) HC1.out).mono ?_
        rintro e0 w6 ⟨rfl, hd, hb⟩
        refine ⟨_, rfl, ?_⟩
        have n_Hd := Aside0.mk (Hd.out.below hb)
        have n_X8 := Aside0.mk (blk_below X8.out hb)
        clear Hd X8
        have Hd := n_Hd
        have X8 := n_X8
        clear n_Hd n_X8
        have HQ := Aside0.mk hd
        have hx := below_step hHeld hb
        clear hd hb hHeld
        refine hK.out _ _ hx (fun hHeld => ?_)
        clear hK K hx
        refine norm_ ?_ (JJ.out (gd, g8, φ, B) _ ⟨⟨hHeld⟩, Hd, HQ, X8, HBd, Y8, NO8⟩)
        show Act.put _ (some 42) _ = _
        simp only [putAll, Act.put, List.setIfInBounds_toArray, List.set_cons_zero, List.set_cons_succ]
    rintro ⟨gd, g8, φ, B⟩ wx ⟨HHX, Hd, HQ, X8, HBd, Y8, NO8⟩
    dsimp only at Hd HQ X8 HBd Y8 NO8 ⊢
    simp only [putAll, Act.put, List.setIfInBounds_toArray, List.set_cons_zero, List.set_cons_succ]
    clear hHeld
    have n_HW := Aside0.mk (below_step HW.out HHX.out)
    have GE8 : Aside0 (w.heap.size ≤ g8) := ⟨Nat.le_trans (below_size HW.out) Y8.out⟩
    have n_HBd : Aside0 (w.heap.size ≤ B) := ⟨Nat.le_trans (below_size HW.out) HBd.out⟩
    have n_HQ : Aside0 (DocIn wx (fun k => φ k = .no ∧ k ≠ g8) A0 c0 A1 c1 none 0 (newP cap fs ps)) := ⟨HQ.out.mono (fun k hk => ⟨Classical.byContradiction (fun q => absurd (Hd.out.dom k q).1 (Nat.not_le.2 (Nat.lt_of_lt_of_le hk n_HBd.out))), Nat.ne_of_lt (Nat.lt_of_lt_of_le hk GE8.out)⟩)⟩
    clear HW HHX HQ Y8 HBd
    have HW := n_HW
    have HQ := n_HQ
    have HBd := n_HBd
    clear n_HW n_HQ n_HBd
    have hHeld := trivial
    refine pure_ (i := 8) (N := some 7) (v := ?_) (a' := ?_) #[true, true, true, true, true, true, true, true, true, false] rfl rfl (any_of HT_.out (by kernel_rfl)) (fun _ _ _ h => h) (Or.inl ⟨by rfl, ?_⟩) ?_ ?_
    rotate_left
    · intro w'
      go_simp
      with_reducible rfl
    rotate_left
    · simp only [Act.put, List.setIfInBounds_toArray, List.set_cons_zero, List.set_cons_succ, i64_w, i32_w]
      rfl
    refine last_ (i := 9) (N := none) #[true, true, true, true, true, true, true, true, true, true] rfl rfl (one_of HT_.out (by kernel_rfl)) (by decide) (fun K hK => ?_)
    have z0 := (blk_cell X8.out 0).trans (show _ = some (.int .i64 0) from rfl)
    have z1 := (blk_cell X8.out 1).trans (show _ = some (.slice none 0 0) from rfl)
    have z2 := (blk_cell X8.out 2).trans (show _ = some (.slice none 0 0) from rfl)
    have z3 := (blk_cell X8.out 3).trans (show _ = some (.slice none 0 0) from rfl)
    have z4 := (blk_cell X8.out 4).trans (show _ = some (.int .i64 0) from rfl)
    have zf := fun j => blk_frozen X8.out j
    refine skip_ (w1 := ?_) (by rfl) rfl ?_ ?_
    rotate_left
    · go_simp
      rfl
    refine hK.out _ _ ?_
    clear hK K hHeld z0 z1 z2 z3 z4 zf
    refine done_ (done_of HT_.out (by kernel_rfl)) ?_
    have s0 := blk_put (cs' := #[.int .i64 (max cap 0), .slice none 0 0, .slice none 0 0, .slice none 0 0, .int .i64 0]) X8.out 0 (.int .i64 (max cap 0)) rfl
    have h0 := below_set (j := 0) (v := .int .i64 (max cap 0)) HW.out GE8.out
    have s1 := blk_put (cs' := #[.int .i64 (max cap 0), .slice A0 fs.length c0, .slice none 0 0, .slice none 0 0, .int .i64 0]) s0 1 (.slice A0 fs.length c0) rfl
    have h1 := below_set (j := 1) (v := .slice A0 fs.length c0) h0 GE8.out
    have s2 := blk_put (cs' := #[.int .i64 (max cap 0), .slice A0 fs.length c0, .slice A1 ps.length c1, .slice none 0 0, .int .i64 0]) s1 2 (.slice A1 ps.length c1) rfl
    have h2 := below_set (j := 2) (v := .slice A1 ps.length c1) h1 GE8.out
    have s3 := blk_put (cs' := #[.int .i64 (max cap 0), .slice A0 fs.length c0, .slice A1 ps.length c1, .slice none 0 0, .int .i64 0]) s2 3 (.slice none 0 0) rfl
    have h3 := below_set (j := 3) (v := .slice none 0 0) h2 GE8.out
    have s4 := blk_put (cs' := #[.int .i64 (max cap 0), .slice A0 fs.length c0, .slice A1 ps.length c1, .slice none 0 0, .int .i64 0]) s3 4 (.int .i64 0) rfl
    have h4 := below_set (j := 4) (v := .int .i64 0) h3 GE8.out
    have hs : ∀ k, k ≠ g8 → (World.setCell (World.setCell (World.setCell (World.setCell (World.setCell wx ⟨g8, 0, none⟩ (.int .i64 (max cap 0))) ⟨g8, 1, none⟩ (.slice A0 fs.length c0)) ⟨g8, 2, none⟩ (.slice A1 ps.length c1)) ⟨g8, 3, none⟩ (.slice none 0 0)) ⟨g8, 4, none⟩ (.int .i64 0)).heap[k]? = wx.heap[k]? := fun k hk => ((Below.heap_setCell (World.setCell (World.setCell (World.setCell (World.setCell wx ⟨g8, 0, none⟩ (.int .i64 (max cap 0))) ⟨g8, 1, none⟩ (.slice A0 fs.length c0)) ⟨g8, 2, none⟩ (.slice A1 ps.length c1)) ⟨g8, 3, none⟩ (.slice none 0 0)) ⟨g8, 4, none⟩ (.int .i64 0) k hk).trans ((Below.heap_setCell (World.setCell (World.setCell (World.setCell wx ⟨g8, 0, none⟩ (.int .i64 (max cap 0))) ⟨g8, 1, none⟩ (.slice A0 fs.length c0)) ⟨g8, 2, none⟩ (.slice A1 ps.length c1)) ⟨g8, 3, none⟩ (.slice none 0 0) k hk).trans ((Below.heap_setCell (World.setCell (World.setCell wx ⟨g8, 0, none⟩ (.int .i64 (max cap 0))) ⟨g8, 1, none⟩ (.slice A0 fs.length c0)) ⟨g8, 2, none⟩ (.slice A1 ps.length c1) k hk).trans ((Below.heap_setCell (World.setCell wx ⟨g8, 0, none⟩ (.int .i64 (max cap 0))) ⟨g8, 1, none⟩ (.slice A0 fs.length c0) k hk).trans (Below.heap_setCell wx ⟨g8, 0, none⟩ (.int .i64 (max cap 0)) k hk)))))
    have hz := ((((((Below.refl 0 wx).setCell (p := ⟨g8, 0, none⟩) (Nat.zero_le _) (.int .i64 (max cap 0))).setCell (p := ⟨g8, 1, none⟩) (Nat.zero_le _) (.slice A0 fs.length c0)).setCell (p := ⟨g8, 2, none⟩) (Nat.zero_le _) (.slice A1 ps.length c1)).setCell (p := ⟨g8, 3, none⟩) (Nat.zero_le _) (.slice none 0 0)).setCell (p := ⟨g8, 4, none⟩) (Nat.zero_le _) (.int .i64 0)).size
    generalize (World.setCell (World.setCell (World.setCell (World.setCell (World.setCell wx ⟨g8, 0, none⟩ (.int .i64 (max cap 0))) ⟨g8, 1, none⟩ (.slice A0 fs.length c0)) ⟨g8, 2, none⟩ (.slice A1 ps.length c1)) ⟨g8, 3, none⟩ (.slice none 0 0)) ⟨g8, 4, none⟩ (.int .i64 0)) = w9 at s4 h4 hs hz ⊢
    have n_Hd := Aside0.mk (Hd.out.move hz (fun k hk => hs k (fun e => hk (by rw [e]; exact NO8.out))))
    have n_HQ := Aside0.mk (HQ.out.step (fun k hk _ => hs k hk.2))
    clear HW Hd HQ X8
    have HW := Aside0.mk h4
    have Hd := n_Hd
    have HQ := n_HQ
    have X8 := Aside0.mk s4
    clear n_Hd n_HQ hz s0 s1 s2 s3 s4 h0 h1 h2 h3 h4
    clear hs BP
    have HG : Aside0 (Good 0 (newP cap fs ps)) := ⟨Good.new HCAP.out HH0.out HH1.out⟩
    go_upto_region 5 with (fail)
    go_loopw [45] (fun v45 wr => TellRel w A0 c0 A1 c1 l gd B g8 v45 wr) (fun v45 _ => l.length - (intOf v45).toNat)
    case atStart => exact ⟨0, newP cap fs ps, φ, none, 0, Nat.zero_le _, rfl, Hd, HG, HQ, NO8, X8, HW⟩
    case round =>
      clear Hd HG HW HQ X8 NO8
      skip
      obtain ⟨i, S, φ, A, c, hi, rfl, Hd, HG, HQ, NO8, X8, HW⟩ := hrel
      rename World => wr
      by_cases hlt : i < l.length
      · obtain ⟨ad, A3, c3, A4, c4, e0, x0, x1, x2, x3, x4, l3, g3, l4, g4⟩ := at_T32 HL.out (i : Int) (by omega) (by omega)
        subst e0
        have hmem : rd_T32 l (i : Int) ∈ l := by rw [rd32 l i hlt]; exact List.getElem_mem hlt
        simp only [Int.toNat_natCast] at x0 x1 x2 x3 x4
        have hoo := HOKHL.out _ hmem
        obtain ⟨o, ho⟩ : ∃ o, rd_T32 l (i : Int) = o := ⟨_, rfl⟩
        rw [ho] at x0 x1 x2 x3 x4 l3 g3 l4 g4 hoo hmem
        replace x0 := (HW.out.cell (World.block_lt_of_cell? w _ x0)).trans x0
        replace x1 := (HW.out.cell (World.block_lt_of_cell? w _ x1)).trans x1
        replace x2 := (HW.out.cell (World.block_lt_of_cell? w _ x2)).trans x2
        replace x3 := (HW.out.cell (World.block_lt_of_cell? w _ x3)).trans x3
        replace x4 := (HW.out.cell (World.block_lt_of_cell? w _ x4)).trans x4
        have HOO := Aside0.mk hoo
        have HO3 := Aside0.mk l3
        have HG3 := Aside0.mk g3
        have HG4 := Aside0.mk g4
        have HOE := Aside0.mk ho
        have HO4 := Aside0.mk l4; clear hoo l3 g3 l4 g4 hmem ho
        have HIL : Aside0 (i < l.length ∧ l.length ≤ 60) := ⟨by omega⟩
        go_upto_region 7 with (first | ((with_reducible refine gate_dst (N := 10) rfl ?_); refine box_event ?hg (N := 10) ?hd (cs := #[.int .u8 0, .string ByteArray.empty, .string ByteArray.empty, .slice none 0 0, .slice none 0 0]) (t := 32) ?hr ?_; (case hd => rfl); (case hg => rfl); (case hr => first | (go_simp; done) | (go_simp; rfl)); intro g10 hg w3 hbox hb; have HGV := Aside0.mk (Nat.le_of_eq hg.symm); have BV := Aside0.mk hbox; have HXV := Aside0.mk hb; have z0 := (blk_cell hbox 0).trans (show _ = some (.int .u8 0) from rfl); have z1 := (blk_cell hbox 1).trans (show _ = some (.string ByteArray.empty) from rfl); have z2 := (blk_cell hbox 2).trans (show _ = some (.string ByteArray.empty) from rfl); have z3 := (blk_cell hbox 3).trans (show _ = some (.slice none 0 0) from rfl); have z4 := (blk_cell hbox 4).trans (show _ = some (.slice none 0 0) from rfl); have zf := fun j => blk_frozen hbox j; clear hg hbox hb))
        clear x0 x1 x2 x3 x4
        have NE10 := Aside0.mk (Nat.ne_of_lt (Nat.lt_of_lt_of_le (blk_lt X8.out) HGV.out))
        clear z0 z1 z2 z3 z4 zf
        rename World => w3
        have s0 := blk_put (cs' := #[.int .u8 o.f0, .string ByteArray.empty, .string ByteArray.empty, .slice none 0 0, .slice none 0 0]) BV.out 0 (.int .u8 o.f0) rfl
        have s1 := blk_put (cs' := #[.int .u8 o.f0, .string o.f1, .string ByteArray.empty, .slice none 0 0, .slice none 0 0]) s0 1 (.string o.f1) rfl
        have s2 := blk_put (cs' := #[.int .u8 o.f0, .string o.f1, .string o.f2, .slice none 0 0, .slice none 0 0]) s1 2 (.string o.f2) rfl
        have s3 := blk_put (cs' := #[.int .u8 o.f0, .string o.f1, .string o.f2, .slice A3 o.f3.length c3, .slice none 0 0]) s2 3 (.slice A3 o.f3.length c3) rfl
        have s4 := blk_put (cs' := #[.int .u8 o.f0, .string o.f1, .string o.f2, .slice A3 o.f3.length c3, .slice A4 o.f4.length c4]) s3 4 (.slice A4 o.f4.length c4) rfl
        have hb := (((((HXV.out.setCell (p := ⟨g10, 0, none⟩) HGV.out (.int .u8 o.f0)).setCell (p := ⟨g10, 1, none⟩) HGV.out (.string o.f1)).setCell (p := ⟨g10, 2, none⟩) HGV.out (.string o.f2)).setCell (p := ⟨g10, 3, none⟩) HGV.out (.slice A3 o.f3.length c3)).setCell (p := ⟨g10, 4, none⟩) HGV.out (.slice A4 o.f4.length c4))
        generalize (World.setCell (World.setCell (World.setCell (World.setCell (World.setCell w3 ⟨g10, 0, none⟩ (.int .u8 o.f0)) ⟨g10, 1, none⟩ (.string o.f1)) ⟨g10, 2, none⟩ (.string o.f2)) ⟨g10, 3, none⟩ (.slice A3 o.f3.length c3)) ⟨g10, 4, none⟩ (.slice A4 o.f4.length c4)) = w7 at s4 hb ⊢
        have hno := Hd.out.new_no g10 HGV.out
        have hge := HGV.out
        have n_HW := Aside0.mk (below_step HW.out hb); have n_Hd := Aside0.mk (Hd.out.below hb); have n_HQ := Aside0.mk (HQ.out.below hb); have n_X8 := Aside0.mk (blk_below X8.out hb); clear HW Hd HQ X8; have HW := n_HW; have Hd := n_Hd; have HQ := n_HQ; have X8 := n_X8; clear n_HW n_Hd n_HQ n_X8
        clear BV HXV HGV
        have X10 := Aside0.mk s4
        clear s0 s1 s2 s3 s4 hb
        have NO10 := Aside0.mk hno
        clear hno hge
        have HOK := Aside0.mk (HG.out.ok (by omega))
        have HG' := Aside0.mk (HG.out.doesO HOO.out)
        obtain ⟨re, hre⟩ : ∃ re, (doesO S o).2 = re := ⟨_, rfl⟩
        obtain ⟨S', hS'⟩ : ∃ S', (doesO S o).1 = S' := ⟨_, rfl⟩
        have HRE := Aside0.mk hre
        have HSE := Aside0.mk hS'
        rw [hS'] at HG'
        clear hre hS'
        have o0 := (blk_cell X10.out 0).trans (show _ = some (.int .u8 o.f0) from rfl)
        have o1 := (blk_cell X10.out 1).trans (show _ = some (.string o.f1) from rfl)
        have o2 := (blk_cell X10.out 2).trans (show _ = some (.string o.f2) from rfl)
        have o3 := (blk_cell X10.out 3).trans (show _ = some (.slice A3 o.f3.length c3) from rfl)
        have o4 := (blk_cell X10.out 4).trans (show _ = some (.slice A4 o.f4.length c4) from rfl)
        go_upto_region 8 with (first | (go_at_call 13; refine (does_op gd B _ S o A3 c3 A4 c4 _ Hd.out HOK.out HOO.out HO3.out w HW.out HBd.out HG3.out HG4.out).mono ?_; rw [HSE.out, HRE.out]; rintro e w5 ⟨φ', rfl, hd, hs⟩; have n_HW := Aside0.mk (step_all HW.out HBd.out Hd.out hs); have n_HQ := Aside0.mk (HQ.out.stepno hs); have n_X8 := Aside0.mk (stepno_blk hs NO8.out X8.out); have n_NO8 := Aside0.mk (hs.2 _ (blk_lt X8.out) NO8.out); have n_X10 := Aside0.mk (stepno_blk hs NO10.out X10.out); have n_NO10 := Aside0.mk (hs.2 _ (blk_lt X10.out) NO10.out); clear HW HQ X8 NO8 X10 NO10; have HW := n_HW; have HQ := n_HQ; have X8 := n_X8; have NO8 := n_NO8; have X10 := n_X10; have NO10 := n_NO10; clear n_HW n_HQ n_X8 n_NO8 n_X10 n_NO10; clear Hd; have Hd := Aside0.mk hd; clear hd hs))
        clear o0 o1 o2 o3 o4
        have o0 := (blk_cell X10.out 0).trans (show _ = some (.int .u8 o.f0) from rfl)
        have o1 := (blk_cell X10.out 1).trans (show _ = some (.string o.f1) from rfl)
        have o2 := (blk_cell X10.out 2).trans (show _ = some (.string o.f2) from rfl)
        have o3 := (blk_cell X10.out 3).trans (show _ = some (.slice A3 o.f3.length c3) from rfl)
        have o4 := (blk_cell X10.out 4).trans (show _ = some (.slice A4 o.f4.length c4) from rfl)
        have y0 := (blk_cell X8.out 0).trans (show _ = some (.int .i64 S.room) from rfl)
        have y1 := (blk_cell X8.out 1).trans (show _ = some (.slice A0 S.fails.length c0) from rfl)
        have y2 := (blk_cell X8.out 2).trans (show _ = some (.slice A1 S.parts.length c1) from rfl)
        have y3 := (blk_cell X8.out 3).trans (show _ = some (.slice A S.files.length c) from rfl)
        have y4 := (blk_cell X8.out 4).trans (show _ = some (.int .i64 S.calls) from rfl)
        go_upto_region 9 with (first | (go_at_call 21; refine (does_doc_op _ A0 c0 A1 c1 A c S S' re o A3 c3 A4 c4 _ HQ.out HG.out (by have := HIL.out; omega) HOO.out HO3.out HO4.out w HW.out HG3.out HG4.out HSE.out HRE.out).mono ?_; rintro e w5 ⟨A9, c9, rfl, hd, hb⟩; replace hd := hd.mono (fun k hk => hk.elim id (fun hk => ⟨Hd.out.new_no k hk, (Nat.ne_of_lt (Nat.lt_of_lt_of_le (blk_lt X8.out) hk)).symm⟩)); have n_HW := Aside0.mk (below_step HW.out hb); have n_Hd := Aside0.mk (Hd.out.below hb); have n_HQ := Aside0.mk (HQ.out.below hb); have n_X8 := Aside0.mk (blk_below X8.out hb); have n_X10 := Aside0.mk (blk_below X10.out hb); clear HW Hd HQ X8 X10; have HW := n_HW; have Hd := n_Hd; have HQ := n_HQ; have X8 := n_X8; have X10 := n_X10; clear n_HW n_Hd n_HQ n_X8 n_X10; clear HQ; have HQ := Aside0.mk hd; clear hd hb) | ((with_reducible refine gate_dst (N := 12) rfl ?_); refine box_event ?hg (N := 12) ?hd (cs := #[.int .i64 0, .slice none 0 0, .slice none 0 0, .slice none 0 0, .int .i64 0]) (t := 49) ?hr ?_; (case hd => rfl); (case hg => rfl); (case hr => first | (go_simp; done) | (go_simp; rfl)); intro g12 hg w3 hbox hb; have HGV := Aside0.mk (Nat.le_of_eq hg.symm); have BV := Aside0.mk hbox; have HXV := Aside0.mk hb; have z0 := (blk_cell hbox 0).trans (show _ = some (.int .i64 0) from rfl); have z1 := (blk_cell hbox 1).trans (show _ = some (.slice none 0 0) from rfl); have z2 := (blk_cell hbox 2).trans (show _ = some (.slice none 0 0) from rfl); have z3 := (blk_cell hbox 3).trans (show _ = some (.slice none 0 0) from rfl); have z4 := (blk_cell hbox 4).trans (show _ = some (.int .i64 0) from rfl); have zf := fun j => blk_frozen hbox j; clear hg hbox hb))
        clear o0 o1 o2 o3 o4 y0 y1 y2 y3 y4
        clear z0 z1 z2 z3 z4 zf
        rename World => w3
        have s0 := blk_put (cs' := #[.int .i64 S'.room, .slice none 0 0, .slice none 0 0, .slice none 0 0, .int .i64 0]) BV.out 0 (.int .i64 S'.room) rfl
        have s1 := blk_put (cs' := #[.int .i64 S'.room, .slice A0 S'.fails.length c0, .slice none 0 0, .slice none 0 0, .int .i64 0]) s0 1 (.slice A0 S'.fails.length c0) rfl
        have s2 := blk_put (cs' := #[.int .i64 S'.room, .slice A0 S'.fails.length c0, .slice A1 S'.parts.length c1, .slice none 0 0, .int .i64 0]) s1 2 (.slice A1 S'.parts.length c1) rfl
        have s3 := blk_put (cs' := #[.int .i64 S'.room, .slice A0 S'.fails.length c0, .slice A1 S'.parts.length c1, .slice A9 S'.files.length c9, .int .i64 0]) s2 3 (.slice A9 S'.files.length c9) rfl
        have s4 := blk_put (cs' := #[.int .i64 S'.room, .slice A0 S'.fails.length c0, .slice A1 S'.parts.length c1, .slice A9 S'.files.length c9, .int .i64 S'.calls]) s3 4 (.int .i64 S'.calls) rfl
        have hb := (((((HXV.out.setCell (p := ⟨g12, 0, none⟩) HGV.out (.int .i64 S'.room)).setCell (p := ⟨g12, 1, none⟩) HGV.out (.slice A0 S'.fails.length c0)).setCell (p := ⟨g12, 2, none⟩) HGV.out (.slice A1 S'.parts.length c1)).setCell (p := ⟨g12, 3, none⟩) HGV.out (.slice A9 S'.files.length c9)).setCell (p := ⟨g12, 4, none⟩) HGV.out (.int .i64 S'.calls))
        generalize (World.setCell (World.setCell (World.setCell (World.setCell (World.setCell w3 ⟨g12, 0, none⟩ (.int .i64 S'.room)) ⟨g12, 1, none⟩ (.slice A0 S'.fails.length c0)) ⟨g12, 2, none⟩ (.slice A1 S'.parts.length c1)) ⟨g12, 3, none⟩ (.slice A9 S'.files.length c9)) ⟨g12, 4, none⟩ (.int .i64 S'.calls)) = w8 at s4 hb ⊢
        have hno := Hd.out.new_no g12 HGV.out
        have hge := HGV.out
        have n_HW := Aside0.mk (below_step HW.out hb); have n_Hd := Aside0.mk (Hd.out.below hb); have n_HQ := Aside0.mk (HQ.out.below hb); have n_X8 := Aside0.mk (blk_below X8.out hb); have n_X10 := Aside0.mk (blk_below X10.out hb); clear HW Hd HQ X8 X10; have HW := n_HW; have Hd := n_Hd; have HQ := n_HQ; have X8 := n_X8; have X10 := n_X10; clear n_HW n_Hd n_HQ n_X8 n_X10
        clear BV HXV HGV
        have X12 := Aside0.mk s4
        clear s0 s1 s2 s3 s4 hb
        clear hno hge
        have o0 := (blk_cell X12.out 0).trans (show _ = some (.int .i64 S'.room) from rfl)
        have o1 := (blk_cell X12.out 1).trans (show _ = some (.slice A0 S'.fails.length c0) from rfl)
        have o2 := (blk_cell X12.out 2).trans (show _ = some (.slice A1 S'.parts.length c1) from rfl)
        have o3 := (blk_cell X12.out 3).trans (show _ = some (.slice A9 S'.files.length c9) from rfl)
        have o4 := (blk_cell X12.out 4).trans (show _ = some (.int .i64 S'.calls) from rfl)
        have y0 := (blk_cell X8.out 0).trans (show _ = some (.int .i64 S.room) from rfl)
        have y1 := (blk_cell X8.out 1).trans (show _ = some (.slice A0 S.fails.length c0) from rfl)
        have y2 := (blk_cell X8.out 2).trans (show _ = some (.slice A1 S.parts.length c1) from rfl)
        have y3 := (blk_cell X8.out 3).trans (show _ = some (.slice A S.files.length c) from rfl)
        have y4 := (blk_cell X8.out 4).trans (show _ = some (.int .i64 S.calls) from rfl)
        have yf := fun j => blk_frozen X8.out j
        go_upto_region 10 with (fail)
        clear o0 o1 o2 o3 o4 y0 y1 y2 y3 y4 yf X12
        have s0 := blk_put (cs' := #[.int .i64 S'.room, .slice A0 S.fails.length c0, .slice A1 S.parts.length c1, .slice A S.files.length c, .int .i64 S.calls]) X8.out 0 (.int .i64 S'.room) rfl
        have h0 := below_set (j := 0) (v := .int .i64 S'.room) HW.out GE8.out
        have s1 := blk_put (cs' := #[.int .i64 S'.room, .slice A0 S'.fails.length c0, .slice A1 S.parts.length c1, .slice A S.files.length c, .int .i64 S.calls]) s0 1 (.slice A0 S'.fails.length c0) rfl
        have h1 := below_set (j := 1) (v := .slice A0 S'.fails.length c0) h0 GE8.out
        have s2 := blk_put (cs' := #[.int .i64 S'.room, .slice A0 S'.fails.length c0, .slice A1 S'.parts.length c1, .slice A S.files.length c, .int .i64 S.calls]) s1 2 (.slice A1 S'.parts.length c1) rfl
        have h2 := below_set (j := 2) (v := .slice A1 S'.parts.length c1) h1 GE8.out
        have s3 := blk_put (cs' := #[.int .i64 S'.room, .slice A0 S'.fails.length c0, .slice A1 S'.parts.length c1, .slice A9 S'.files.length c9, .int .i64 S.calls]) s2 3 (.slice A9 S'.files.length c9) rfl
        have h3 := below_set (j := 3) (v := .slice A9 S'.files.length c9) h2 GE8.out
        have s4 := blk_put (cs' := #[.int .i64 S'.room, .slice A0 S'.fails.length c0, .slice A1 S'.parts.length c1, .slice A9 S'.files.length c9, .int .i64 S'.calls]) s3 4 (.int .i64 S'.calls) rfl
        have h4 := below_set (j := 4) (v := .int .i64 S'.calls) h3 GE8.out
        have hs : ∀ k, k ≠ g8 → (World.setCell (World.setCell (World.setCell (World.setCell (World.setCell w8 ⟨g8, 0, none⟩ (.int .i64 S'.room)) ⟨g8, 1, none⟩ (.slice A0 S'.fails.length c0)) ⟨g8, 2, none⟩ (.slice A1 S'.parts.length c1)) ⟨g8, 3, none⟩ (.slice A9 S'.files.length c9)) ⟨g8, 4, none⟩ (.int .i64 S'.calls)).heap[k]? = w8.heap[k]? := fun k hk => ((Below.heap_setCell (World.setCell (World.setCell (World.setCell (World.setCell w8 ⟨g8, 0, none⟩ (.int .i64 S'.room)) ⟨g8, 1, none⟩ (.slice A0 S'.fails.length c0)) ⟨g8, 2, none⟩ (.slice A1 S'.parts.length c1)) ⟨g8, 3, none⟩ (.slice A9 S'.files.length c9)) ⟨g8, 4, none⟩ (.int .i64 S'.calls) k hk).trans ((Below.heap_setCell (World.setCell (World.setCell (World.setCell w8 ⟨g8, 0, none⟩ (.int .i64 S'.room)) ⟨g8, 1, none⟩ (.slice A0 S'.fails.length c0)) ⟨g8, 2, none⟩ (.slice A1 S'.parts.length c1)) ⟨g8, 3, none⟩ (.slice A9 S'.files.length c9) k hk).trans ((Below.heap_setCell (World.setCell (World.setCell w8 ⟨g8, 0, none⟩ (.int .i64 S'.room)) ⟨g8, 1, none⟩ (.slice A0 S'.fails.length c0)) ⟨g8, 2, none⟩ (.slice A1 S'.parts.length c1) k hk).trans ((Below.heap_setCell (World.setCell w8 ⟨g8, 0, none⟩ (.int .i64 S'.room)) ⟨g8, 1, none⟩ (.slice A0 S'.fails.length c0) k hk).trans (Below.heap_setCell w8 ⟨g8, 0, none⟩ (.int .i64 S'.room) k hk)))))
        have hz := ((((((Below.refl 0 w8).setCell (p := ⟨g8, 0, none⟩) (Nat.zero_le _) (.int .i64 S'.room)).setCell (p := ⟨g8, 1, none⟩) (Nat.zero_le _) (.slice A0 S'.fails.length c0)).setCell (p := ⟨g8, 2, none⟩) (Nat.zero_le _) (.slice A1 S'.parts.length c1)).setCell (p := ⟨g8, 3, none⟩) (Nat.zero_le _) (.slice A9 S'.files.length c9)).setCell (p := ⟨g8, 4, none⟩) (Nat.zero_le _) (.int .i64 S'.calls)).size
        generalize (World.setCell (World.setCell (World.setCell (World.setCell (World.setCell w8 ⟨g8, 0, none⟩ (.int .i64 S'.room)) ⟨g8, 1, none⟩ (.slice A0 S'.fails.length c0)) ⟨g8, 2, none⟩ (.slice A1 S'.parts.length c1)) ⟨g8, 3, none⟩ (.slice A9 S'.files.length c9)) ⟨g8, 4, none⟩ (.int .i64 S'.calls)) = w9 at s4 h4 hs hz ⊢
        have n_Hd := Aside0.mk (Hd.out.move hz (fun k hk => hs k (fun e => hk (by rw [e]; exact NO8.out))))
        have n_HQ := Aside0.mk (HQ.out.step (fun k hk _ => hs k hk.2))
        clear HW Hd HQ X8
        have HW := Aside0.mk h4
        have Hd := n_Hd
        have HQ := n_HQ
        have X8 := Aside0.mk s4
        clear n_Hd n_HQ hz s0 s1 s2 s3 s4 h0 h1 h2 h3 h4
        have n_X10 := Aside0.mk ((hs g10 (fun e => NE10.out e.symm)).trans X10.out)
        clear X10 hs
        have X10 := n_X10
        clear n_X10
        have HOK' := Aside0.mk (HG'.out.ok (by have := HIL.out; omega))
        have HNA' := Aside0.mk HG'.out.named
        have HLN' : Aside0 (S'.files.length ≤ 10000) := ⟨by have := HG'.out.few; have := HIL.out; omega⟩
        clear hi
        have y0 := (blk_cell X8.out 0).trans (show _ = some (.int .i64 S'.room) from rfl)
        have y1 := (blk_cell X8.out 1).trans (show _ = some (.slice A0 S'.fails.length c0) from rfl)
        have y2 := (blk_cell X8.out 2).trans (show _ = some (.slice A1 S'.parts.length c1) from rfl)
        have y3 := (blk_cell X8.out 3).trans (show _ = some (.slice A9 S'.files.length c9) from rfl)
        have y4 := (blk_cell X8.out 4).trans (show _ = some (.int .i64 S'.calls) from rfl)
        go_upto_region 12 with (first | (go_at_call 22; refine (same_doc gd B _ _ A0 c0 A1 c1 A9 c9 S' _ Hd.out HQ.out HOK'.out HNA'.out HLN'.out).mono ?_; rintro e w5 ⟨rfl, hb⟩; have n_HW := Aside0.mk (below_step HW.out hb); have n_Hd := Aside0.mk (Hd.out.below hb); have n_HQ := Aside0.mk (HQ.out.below hb); have n_X8 := Aside0.mk (blk_below X8.out hb); have n_X10 := Aside0.mk (blk_below X10.out hb); clear HW Hd HQ X8 X10; have HW := n_HW; have Hd := n_Hd; have HQ := n_HQ; have X8 := n_X8; have X10 := n_X10; clear n_HW n_Hd n_HQ n_X8 n_X10; clear hb))
        clear y0 y1 y2 y3 y4
        have o0 := (blk_cell X10.out 0).trans (show _ = some (.int .u8 o.f0) from rfl)
        have o1 := (blk_cell X10.out 1).trans (show _ = some (.string o.f1) from rfl)
        have o2 := (blk_cell X10.out 2).trans (show _ = some (.string o.f2) from rfl)
        have o3 := (blk_cell X10.out 3).trans (show _ = some (.slice A3 o.f3.length c3) from rfl)
        have o4 := (blk_cell X10.out 4).trans (show _ = some (.slice A4 o.f4.length c4) from rfl)
        obtain ⟨⟨f, ef⟩, hfp⟩ : ∃ q, findP S' o.f2.data.toList = q := ⟨_, rfl⟩
        have HFP := Aside0.mk hfp
        have HFL : Aside0 (f.b.length ≤ 1000000) := ⟨by have h := findP_len HG'.out (by have := HIL.out; omega) o.f2.data.toList; rw [hfp] at h; exact h⟩
        clear hfp
        have hfl : (f.b.length : Int) ≤ 1000000 := by have := HFL.out; omega
        go_upto_region 13 with (first | (go_at_call 23; refine (read_f2 gd B _ S' o.f2 f ef _ Hd.out HOO.out.s2 HFP.out HFL.out).mono ?_; rintro e w5 ⟨AB, cB, rfl, hR, hb⟩; have n_HW := Aside0.mk (below_step HW.out hb); have n_Hd := Aside0.mk (Hd.out.below hb); have n_HQ := Aside0.mk (HQ.out.below hb); have n_X8 := Aside0.mk (blk_below X8.out hb); have n_X10 := Aside0.mk (blk_below X10.out hb); clear HW Hd HQ X8 X10; have HW := n_HW; have Hd := n_Hd; have HQ := n_HQ; have X8 := n_X8; have X10 := n_X10; clear n_HW n_Hd n_HQ n_X8 n_X10; have HR1 := Aside0.mk hR; clear hb hR))
        clear o0 o1 o2 o3 o4
        have o0 := (blk_cell X10.out 0).trans (show _ = some (.int .u8 o.f0) from rfl)
        have o1 := (blk_cell X10.out 1).trans (show _ = some (.string o.f1) from rfl)
        have o2 := (blk_cell X10.out 2).trans (show _ = some (.string o.f2) from rfl)
        have o3 := (blk_cell X10.out 3).trans (show _ = some (.slice A3 o.f3.length c3) from rfl)
        have o4 := (blk_cell X10.out 4).trans (show _ = some (.slice A4 o.f4.length c4) from rfl)
        have y0 := (blk_cell X8.out 0).trans (show _ = some (.int .i64 S'.room) from rfl)
        have y1 := (blk_cell X8.out 1).trans (show _ = some (.slice A0 S'.fails.length c0) from rfl)
        have y2 := (blk_cell X8.out 2).trans (show _ = some (.slice A1 S'.parts.length c1) from rfl)
        have y3 := (blk_cell X8.out 3).trans (show _ = some (.slice A9 S'.files.length c9) from rfl)
        have y4 := (blk_cell X8.out 4).trans (show _ = some (.int .i64 S'.calls) from rfl)
        go_upto_region 14 with (first | (go_at_call 24; refine (doc_f2 _ A0 c0 A1 c1 A9 c9 S' o.f2 f ef _ HQ.out HLN'.out HFP.out).mono ?_; rintro e w5 ⟨nm9, AD, cD, rfl, hF, hb⟩; have n_HW := Aside0.mk (below_step HW.out hb); have n_Hd := Aside0.mk (Hd.out.below hb); have n_HQ := Aside0.mk (HQ.out.below hb); have n_X8 := Aside0.mk (blk_below X8.out hb); have n_X10 := Aside0.mk (blk_below X10.out hb); have n_HR1 := Aside0.mk (Kd.C_below HR1.out hb); clear HW Hd HQ X8 X10 HR1; have HW := n_HW; have Hd := n_Hd; have HQ := n_HQ; have X8 := n_X8; have X10 := n_X10; have HR1 := n_HR1; clear n_HW n_Hd n_HQ n_X8 n_X10 n_HR1; have HR2 := Aside0.mk hF; clear hb hF) | ((with_reducible refine gate_dst (N := 16) rfl ?_); refine box_event ?hg (N := 16) ?hd (cs := #[.string ByteArray.empty, .slice none 0 0, .int .i64 0]) (t := 57) ?hr ?_; (case hd => rfl); (case hg => rfl); (case hr => first | (go_simp; done) | (go_simp; rfl)); intro g16 hg w3 hbox hb; have HGV := Aside0.mk (Nat.le_of_eq hg.symm); have BV := Aside0.mk hbox; have HXV := Aside0.mk hb; have z0 := (blk_cell hbox 0).trans (show _ = some (.string ByteArray.empty) from rfl); have z1 := (blk_cell hbox 1).trans (show _ = some (.slice none 0 0) from rfl); have z2 := (blk_cell hbox 2).trans (show _ = some (.int .i64 0) from rfl); have zf := fun j => blk_frozen hbox j; clear hg hbox hb))
        clear o0 o1 o2 o3 o4 y0 y1 y2 y3 y4
        clear z0 z1 z2 zf
        rename World => w3
        have s0 := blk_put (cs' := #[.string nm9, .slice none 0 0, .int .i64 0]) BV.out 0 (.string nm9) rfl
        have s1 := blk_put (cs' := #[.string nm9, .slice AD f.b.length cD, .int .i64 0]) s0 1 (.slice AD f.b.length cD) rfl
        have s2 := blk_put (cs' := #[.string nm9, .slice AD f.b.length cD, .int .i64 f.safe]) s1 2 (.int .i64 f.safe) rfl
        have hb := (((HXV.out.setCell (p := ⟨g16, 0, none⟩) HGV.out (.string nm9)).setCell (p := ⟨g16, 1, none⟩) HGV.out (.slice AD f.b.length cD)).setCell (p := ⟨g16, 2, none⟩) HGV.out (.int .i64 f.safe))
        generalize (World.setCell (World.setCell (World.setCell w3 ⟨g16, 0, none⟩ (.string nm9)) ⟨g16, 1, none⟩ (.slice AD f.b.length cD)) ⟨g16, 2, none⟩ (.int .i64 f.safe)) = wa at s2 hb ⊢
        have hno := Hd.out.new_no g16 HGV.out
        have hge := HGV.out
        have n_HW := Aside0.mk (below_step HW.out hb); have n_Hd := Aside0.mk (Hd.out.below hb); have n_HQ := Aside0.mk (HQ.out.below hb); have n_X8 := Aside0.mk (blk_below X8.out hb); have n_X10 := Aside0.mk (blk_below X10.out hb); have n_HR1 := Aside0.mk (Kd.C_below HR1.out hb); have n_HR2 := Aside0.mk (Kd.C_below HR2.out hb); clear HW Hd HQ X8 X10 HR1 HR2; have HW := n_HW; have Hd := n_Hd; have HQ := n_HQ; have X8 := n_X8; have X10 := n_X10; have HR1 := n_HR1; have HR2 := n_HR2; clear n_HW n_Hd n_HQ n_X8 n_X10 n_HR1 n_HR2
        clear BV HXV HGV
        have X16 := Aside0.mk s2
        clear s0 s1 s2 hb
        clear hno hge
        have o0 := (blk_cell X10.out 0).trans (show _ = some (.int .u8 o.f0) from rfl)
        have o1 := (blk_cell X10.out 1).trans (show _ = some (.string o.f1) from rfl)
        have o2 := (blk_cell X10.out 2).trans (show _ = some (.string o.f2) from rfl)
        have o3 := (blk_cell X10.out 3).trans (show _ = some (.slice A3 o.f3.length c3) from rfl)
        have o4 := (blk_cell X10.out 4).trans (show _ = some (.slice A4 o.f4.length c4) from rfl)
        go_upto_region 15 with (first | (go_at_call 25; refine (size_f2 gd B _ S' o.f2 f ef _ Hd.out HOO.out.s2 HFP.out).mono ?_; rintro e w5 ⟨rfl, hb⟩; have n_HW := Aside0.mk (below_step HW.out hb); have n_Hd := Aside0.mk (Hd.out.below hb); have n_HQ := Aside0.mk (HQ.out.below hb); have n_X8 := Aside0.mk (blk_below X8.out hb); have n_X10 := Aside0.mk (blk_below X10.out hb); have n_HR1 := Aside0.mk (Kd.C_below HR1.out hb); have n_HR2 := Aside0.mk (Kd.C_below HR2.out hb); have n_X16 := Aside0.mk (blk_below X16.out hb); clear HW Hd HQ X8 X10 HR1 HR2 X16; have HW := n_HW; have Hd := n_Hd; have HQ := n_HQ; have X8 := n_X8; have X10 := n_X10; have HR1 := n_HR1; have HR2 := n_HR2; have X16 := n_X16; clear n_HW n_Hd n_HQ n_X8 n_X10 n_HR1 n_HR2 n_X16; clear hb))
        clear o0 o1 o2 o3 o4
        rename World => wf
        have y0 := (blk_cell X16.out 0).trans (show _ = some (.string nm9) from rfl)
        have y1 := (blk_cell X16.out 1).trans (show _ = some (.slice AD f.b.length cD) from rfl)
        have y2 := (blk_cell X16.out 2).trans (show _ = some (.int .i64 f.safe) from rfl)
        have hcv1 : (convert 30 9 (.slice AB f.b.length cB)).run Try.prog wf = .ok (.string (strOfNums f.b)) wf := Kd.C_string Try.underlying30 Try.underlying5 Try.underlying9 HR1.out
        have hcv2 : (convert 30 9 (.slice AD f.b.length cD)).run Try.prog wf = .ok (.string (strOfNums f.b)) wf := Kd.C_string Try.underlying30 Try.underlying5 Try.underlying9 HR2.out
        go_wp2
        clear hcv1 hcv2 y0 y1 y2
        go_roundw
        case rel => exact ⟨i + 1, S', _, A9, c9, by have := HIL.out; omega, by go_num, Hd, HG', HQ, NO8, X8, HW⟩
        case measure => have := HIL.out; simp [intOf]; omega
      · obtain rfl : i = l.length := by omega
        go_wp2_with (first | (go_at_call 11; refine (awake_at _).mono ?_; rintro e w5 ⟨rfl, hb⟩; have n_HW := Aside0.mk (below_step HW.out hb); have n_Hd := Aside0.mk (Hd.out.below hb); clear HW Hd; have HW := n_HW; have Hd := n_Hd; clear n_HW n_Hd; clear hb))
        go_ret
        exact ⟨rfl, HW.out⟩
end Go.Proofs.Yteibdmpjlpcgbaa.XDisk
