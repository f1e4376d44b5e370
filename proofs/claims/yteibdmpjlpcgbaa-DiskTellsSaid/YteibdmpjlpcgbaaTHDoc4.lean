/- The document's disk: Append. -/
import Derived.Test.YteibdmpjlpcgbaaTHDoc2
namespace Go.Proofs.Yteibdmpjlpcgbaa.XDisk
open Go Go.RowKit Go.Proofs.YteibdmpjlpcgbaaW.PrintWords Go.Proofs.YteibdmpjlpcgbaaW.PrintLast Go.Proofs.YteibdmpjlpcgbaaW.PrintMore
open Go.Proofs.Yteibdmpjlpcgbaa
set_option linter.unusedVariables false
set_option linter.unusedSimpArgs false
theorem put_back {l : List (Nm × FA)} (hr : Rising l) {n : Nm} {f : FA} (hg : get l n = some f) : put n f l = l :=
  rising_ext (put_rising hr n f) hr (fun m => by
    rw [get_put hr]
    by_cases e : m = n
    · rw [if_pos e, e, hg]
    · rw [if_neg e])
theorem appendP_put {S : DA} {n : Nm} {b fb : List Int} {f : FA} {pt : Int} {no : Bool} {m : Nat} {code : Int} (hv : vN n = true) (hg : get S.files n = some f) (hp : partOf (refusedP (cnt S).fails (cnt S).parts (cnt S).calls) = pt) (hn : isRef S = no)
    (hx : appX S b pt no = (m, code)) (hb : f.b ++ b.take m = fb) : appendP S n b = ({ cnt S with files := put n ⟨fb, f.safe⟩ (cnt S).files }, code) := by
  have hp' : partOf (refusedP S.fails S.parts (S.calls + 1)) = pt := hp
  unfold appendP
  rw [if_neg (by rw [hv]; decide), hg]
  dsimp only
  rw [hp', hn, hx]
  dsimp only
  rw [hb]
  rfl
theorem appendP_full {S : DA} {n : Nm} {b : List Int} {f : FA} {lf : Int} (hr : Rising S.files) (hv : vN n = true) (hg : get S.files n = some f) (hn : isRef S = false) (hl : left S = lf) (h : lf < (b.length : Int)) : appendP S n b = (cnt S, 13) := by
  have hx : ∀ p, appX S b p false = (0, 13) := fun p => by
    unfold appX
    rw [if_neg (by decide), hl, if_pos h]
  unfold appendP
  rw [if_neg (by rw [hv]; decide), hg]
  dsimp only
  rw [hn, hx]
  dsimp only
  rw [List.take_zero, List.append_nil, put_back hr hg]
  rfl
def r38_7.T : Bool × List (List Nat × List Nat) := (true, [([], []), ([0], [0]), ([], []), ([2], [2]), ([1, 3], [1, 3]), ([4, 3, 0, 1, 2, 3, 4], [4])])
def r38_7.B : List Nat := [0, 1, 0, 4, 15, 31]
theorem r38_7.tab : rtab .any (opsOf Try.f38 7) = r38_7.T := by kernel_rfl
theorem r38_7.bits : waitsOk r38_7.T.2 r38_7.B = true := by kernel_rfl
set_option maxHeartbeats 16000000 in
set_option maxRecDepth 100000 in
theorem append_doc (P : Nat → Prop) (Af : Option Addr) (cf : Nat) (Ap : Option Addr) (cp : Nat) (A : Option Addr) (c : Nat) (S : DA) (n : Nm) (b : List Int) (Ab : Option Addr) (cb : Nat) (w : World) (h : DocIn w P Af cf Ap cp A c S) (hln : S.files.length ≤ 10000) (hfn : S.fails.length ≤ 1000000) (hri : Rising S.files) (c0 : 0 ≤ S.calls) (c1 : S.calls < 1000000) (hF : Fits S) (hb : Kd.C (Kd.int .u8) w Ab b.length b) (hcb : b.length ≤ cb) (hbl : b.length ≤ 1000000) :
    Calls Try.prog 38 #[docV Af cf Ap cp A c S, .string (str n), .slice Ab b.length cb] w fun e w' => DocPost w P Af cf Ap cp (appendP S n b) e w' := by
  obtain ⟨r, hr⟩ : ∃ r, appendP S n b = r := ⟨_, rfl⟩
  rw [hr]
  have HR := Aside0.mk hr
  have HI := Aside0.mk h.bound
  have HB := Aside0.mk (Below.refl w.heap.size w)
  have HLN : Aside0 ((cnt S).files.length ≤ 1000000) := ⟨by show S.files.length ≤ 1000000; omega⟩
  have HL2 : Aside0 ((cnt S).files.length ≤ 10000) := ⟨hln⟩
  have HFN : Aside0 ((cnt S).fails.length ≤ 1000000) := ⟨hfn⟩
  have HRI : Aside0 (Rising (cnt S).files) := ⟨hri⟩
  have HFB := Aside0.mk hb
  have HBC := Aside0.mk hcb
  obtain ⟨lf, hlf⟩ : ∃ lf, left S = lf := ⟨_, rfl⟩
  have HLE := Aside0.mk hlf
  have HUS : Aside0 (used (cnt S).files ≤ 1000000000000) := ⟨hF.few⟩
  have hl0 : 0 ≤ lf := by rw [← hlf]; have := hF.fit; unfold left; omega
  have hl1 : lf ≤ 9223372036854775807 := by rw [← hlf]; have := hF.room; have := used_nonneg S.files; unfold left; omega
  have hsub : S.room - used S.files = lf := hlf
  have hwr : wrap64 lf = lf := w64' (by omega) (by omega)
  have hbb : (b.length : Int) ≤ (cb : Int) := by omega
  clear hb hcb hlf hF
  clear h hr hln hfn hri
  go_enter Try.func38, Try.ntmps38
  go_upto_region 1 with (first | ((with_reducible refine gate_dst (N := 3) rfl ?_); refine box_event ?hg (N := 3) ?hd (cs := #[.int .i64 S.room, .slice Af S.fails.length cf, .slice Ap S.parts.length cp, .slice A S.files.length c, .int .i64 S.calls]) (t := 49) ?hr ?_; (case hd => rfl); (case hg => rfl); (case hr => first | (go_simp; done) | (go_simp; rfl)); intro g2 hg w3 hbox hb; have GE_g2 : Aside0 (w.heap.size ≤ g2) := ⟨by rw [hg]; exact below_size HB.out⟩; have n_HB := Aside0.mk (below_step HB.out hb); clear HB; have HB := n_HB; clear n_HB; have B2 := Aside0.mk hbox; clear hg hbox hb) | ((with_reducible refine gate_dst (N := 6) rfl ?_); refine box_event ?hg (N := 6) ?hd (cs := #[.int .i64 0, .slice none 0 0, .slice none 0 0, .slice none 0 0, .int .i64 0]) (t := 49) ?hr ?_; (case hd => rfl); (case hg => rfl); (case hr => first | (go_simp; done) | (go_simp; rfl)); intro g4 hg w3 hbox hb; have NE_g2_g4 : Aside0 (g2 ≠ g4) := ⟨by rw [hg]; exact Nat.ne_of_lt (blk_lt B2.out)⟩; have GE_g4 : Aside0 (w.heap.size ≤ g4) := ⟨by rw [hg]; exact below_size HB.out⟩; have n_B2 := Aside0.mk (blk_below B2.out hb); have n_HB := Aside0.mk (below_step HB.out hb); clear B2 HB; have B2 := n_B2; have HB := n_HB; clear n_B2 n_HB; have B4 := Aside0.mk hbox; clear hg hbox hb))
  have bB2_0 := (blk_cell B2.out 0).trans (show _ = some (.int .i64 S.room) from rfl)
  have bB2_1 := (blk_cell B2.out 1).trans (show _ = some (.slice Af S.fails.length cf) from rfl)
  have bB2_2 := (blk_cell B2.out 2).trans (show _ = some (.slice Ap S.parts.length cp) from rfl)
  have bB2_3 := (blk_cell B2.out 3).trans (show _ = some (.slice A S.files.length c) from rfl)
  have bB2_4 := (blk_cell B2.out 4).trans (show _ = some (.int .i64 S.calls) from rfl)
  have bB2_f := fun j => blk_frozen B2.out j
  go_upto_region 2 with (fail)
  clear bB2_0 bB2_1 bB2_2 bB2_3 bB2_4 bB2_f
  rename World => wz
  have s0 := blk_put (cs' := #[.int .i64 S.room, .slice Af S.fails.length cf, .slice Ap S.parts.length cp, .slice A S.files.length c, .int .i64 (S.calls + 1)]) B2.out 4 (.int .i64 (S.calls + 1)) rfl
  have h0 := below_set (j := 4) (v := .int .i64 (S.calls + 1)) HB.out GE_g2.out
  have hs : ∀ k, k ≠ g2 → (World.setCell wz ⟨g2, 4, none⟩ (.int .i64 (S.calls + 1))).heap[k]? = wz.heap[k]? := fun k hk => (Below.heap_setCell wz ⟨g2, 4, none⟩ (.int .i64 (S.calls + 1)) k hk)
  generalize (World.setCell wz ⟨g2, 4, none⟩ (.int .i64 (S.calls + 1))) = w2 at s0 h0 hs ⊢
  have n_B4 := Aside0.mk ((hs g4 (fun e => NE_g2_g4.out e.symm)).trans B4.out); have n_HB := Aside0.mk (h0); clear B4 HB; have B4 := n_B4; have HB := n_HB; clear n_B4 n_HB
  clear B2
  have B2 := Aside0.mk s0
  clear hs s0 h0
  have bB2_0 := (blk_cell B2.out 0).trans (show _ = some (.int .i64 S.room) from rfl)
  have bB2_1 := (blk_cell B2.out 1).trans (show _ = some (.slice Af S.fails.length cf) from rfl)
  have bB2_2 := (blk_cell B2.out 2).trans (show _ = some (.slice Ap S.parts.length cp) from rfl)
  have bB2_3 := (blk_cell B2.out 3).trans (show _ = some (.slice A S.files.length c) from rfl)
  have bB2_4 := (blk_cell B2.out 4).trans (show _ = some (.int .i64 (S.calls + 1)) from rfl)
  have bB2_f := fun j => blk_frozen B2.out j
  have bB4_0 := (blk_cell B4.out 0).trans (show _ = some (.int .i64 0) from rfl)
  have bB4_1 := (blk_cell B4.out 1).trans (show _ = some (.slice none 0 0) from rfl)
  have bB4_2 := (blk_cell B4.out 2).trans (show _ = some (.slice none 0 0) from rfl)
  have bB4_3 := (blk_cell B4.out 3).trans (show _ = some (.slice none 0 0) from rfl)
  have bB4_4 := (blk_cell B4.out 4).trans (show _ = some (.int .i64 0) from rfl)
  have bB4_f := fun j => blk_frozen B4.out j
  by_cases hv : vN n = false
  · have HV := Aside0.mk hv
    go_wp2_with (first | (go_at_call 47; with_reducible refine (named_doc2 n _).mono ?_; rw [HV.out]; rintro e w5 ⟨rfl, hb⟩; have n_B2 := Aside0.mk (blk_below B2.out hb); have n_B4 := Aside0.mk (blk_below B4.out hb); have n_HB := Aside0.mk (below_step HB.out hb); clear B2 B4 HB; have B2 := n_B2; have B4 := n_B4; have HB := n_HB; clear n_B2 n_B4 n_HB; clear hb; clear bB2_0 bB2_1 bB2_2 bB2_3 bB2_4 bB2_f; have bB2_0 := (blk_cell B2.out 0).trans (show _ = some (.int .i64 S.room) from rfl); have bB2_1 := (blk_cell B2.out 1).trans (show _ = some (.slice Af S.fails.length cf) from rfl); have bB2_2 := (blk_cell B2.out 2).trans (show _ = some (.slice Ap S.parts.length cp) from rfl); have bB2_3 := (blk_cell B2.out 3).trans (show _ = some (.slice A S.files.length c) from rfl); have bB2_4 := (blk_cell B2.out 4).trans (show _ = some (.int .i64 (S.calls + 1)) from rfl); have bB2_f := fun j => blk_frozen B2.out j; clear bB4_0 bB4_1 bB4_2 bB4_3 bB4_4 bB4_f; have bB4_0 := (blk_cell B4.out 0).trans (show _ = some (.int .i64 0) from rfl); have bB4_1 := (blk_cell B4.out 1).trans (show _ = some (.slice none 0 0) from rfl); have bB4_2 := (blk_cell B4.out 2).trans (show _ = some (.slice none 0 0) from rfl); have bB4_3 := (blk_cell B4.out 3).trans (show _ = some (.slice none 0 0) from rfl); have bB4_4 := (blk_cell B4.out 4).trans (show _ = some (.int .i64 0) from rfl); have bB4_f := fun j => blk_frozen B4.out j))
    clear bB2_0 bB2_1 bB2_2 bB2_3 bB2_4 bB2_f
    clear bB4_0 bB4_1 bB4_2 bB4_3 bB4_4 bB4_f
    rename World => wy
    have s0 := blk_put (cs' := #[.int .i64 S.room, .slice none 0 0, .slice none 0 0, .slice none 0 0, .int .i64 0]) B4.out 0 (.int .i64 S.room) rfl
    have h0 := below_set (j := 0) (v := .int .i64 S.room) HB.out GE_g4.out
    have s1 := blk_put (cs' := #[.int .i64 S.room, .slice Af S.fails.length cf, .slice none 0 0, .slice none 0 0, .int .i64 0]) s0 1 (.slice Af S.fails.length cf) rfl
    have h1 := below_set (j := 1) (v := .slice Af S.fails.length cf) h0 GE_g4.out
    have s2 := blk_put (cs' := #[.int .i64 S.room, .slice Af S.fails.length cf, .slice Ap S.parts.length cp, .slice none 0 0, .int .i64 0]) s1 2 (.slice Ap S.parts.length cp) rfl
    have h2 := below_set (j := 2) (v := .slice Ap S.parts.length cp) h1 GE_g4.out
    have s3 := blk_put (cs' := #[.int .i64 S.room, .slice Af S.fails.length cf, .slice Ap S.parts.length cp, .slice A S.files.length c, .int .i64 0]) s2 3 (.slice A S.files.length c) rfl
    have h3 := below_set (j := 3) (v := .slice A S.files.length c) h2 GE_g4.out
    have s4 := blk_put (cs' := #[.int .i64 S.room, .slice Af S.fails.length cf, .slice Ap S.parts.length cp, .slice A S.files.length c, .int .i64 (S.calls + 1)]) s3 4 (.int .i64 (S.calls + 1)) rfl
    have h4 := below_set (j := 4) (v := .int .i64 (S.calls + 1)) h3 GE_g4.out
    have hs : ∀ k, k ≠ g4 → (World.setCell (World.setCell (World.setCell (World.setCell (World.setCell wy ⟨g4, 0, none⟩ (.int .i64 S.room)) ⟨g4, 1, none⟩ (.slice Af S.fails.length cf)) ⟨g4, 2, none⟩ (.slice Ap S.parts.length cp)) ⟨g4, 3, none⟩ (.slice A S.files.length c)) ⟨g4, 4, none⟩ (.int .i64 (S.calls + 1))).heap[k]? = wy.heap[k]? := fun k hk => ((Below.heap_setCell (World.setCell (World.setCell (World.setCell (World.setCell wy ⟨g4, 0, none⟩ (.int .i64 S.room)) ⟨g4, 1, none⟩ (.slice Af S.fails.length cf)) ⟨g4, 2, none⟩ (.slice Ap S.parts.length cp)) ⟨g4, 3, none⟩ (.slice A S.files.length c)) ⟨g4, 4, none⟩ (.int .i64 (S.calls + 1)) k hk).trans ((Below.heap_setCell (World.setCell (World.setCell (World.setCell wy ⟨g4, 0, none⟩ (.int .i64 S.room)) ⟨g4, 1, none⟩ (.slice Af S.fails.length cf)) ⟨g4, 2, none⟩ (.slice Ap S.parts.length cp)) ⟨g4, 3, none⟩ (.slice A S.files.length c) k hk).trans ((Below.heap_setCell (World.setCell (World.setCell wy ⟨g4, 0, none⟩ (.int .i64 S.room)) ⟨g4, 1, none⟩ (.slice Af S.fails.length cf)) ⟨g4, 2, none⟩ (.slice Ap S.parts.length cp) k hk).trans ((Below.heap_setCell (World.setCell wy ⟨g4, 0, none⟩ (.int .i64 S.room)) ⟨g4, 1, none⟩ (.slice Af S.fails.length cf) k hk).trans (Below.heap_setCell wy ⟨g4, 0, none⟩ (.int .i64 S.room) k hk)))))
    generalize (World.setCell (World.setCell (World.setCell (World.setCell (World.setCell wy ⟨g4, 0, none⟩ (.int .i64 S.room)) ⟨g4, 1, none⟩ (.slice Af S.fails.length cf)) ⟨g4, 2, none⟩ (.slice Ap S.parts.length cp)) ⟨g4, 3, none⟩ (.slice A S.files.length c)) ⟨g4, 4, none⟩ (.int .i64 (S.calls + 1))) = w9 at s4 h4 hs ⊢
    have n_B2 := Aside0.mk ((hs g2 NE_g2_g4.out).trans B2.out); have n_HB := Aside0.mk (h4); clear B2 HB; have B2 := n_B2; have HB := n_HB; clear n_B2 n_HB
    clear B4
    have B4 := Aside0.mk s4
    clear hs s0 s1 s2 s3 s4 h0 h1 h2 h3 h4
    refine bodyPost_ret (results_ct rfl _ _ g4 49 #[.int .i64 S.room, .slice Af S.fails.length cf, .slice Ap S.parts.length cp, .slice A S.files.length c, .int .i64 (S.calls + 1)] (0, 0) _ rfl B4.out Try.underlying49 rfl (by kernel_rfl)) rfl ?_
    have e : r = (cnt S, 2) := by rw [← HR.out]; unfold appendP; rw [if_pos hv]
    rw [e]
    exact ⟨A, c, rfl, (HI.out.below HB.out).cnt.mono (fun k hk => .inl hk.1), HB.out⟩
  · have HV : Aside0 (vN n = true) := ⟨by simpa using hv⟩
    rcases findI_get n (cnt S).files 0 with ⟨hfi, hgn⟩ | ⟨j, p, hfi, hjp, hpn, hgn⟩
    · have HF := Aside0.mk hfi
      have hg2 : get S.files n = none := hgn
      clear hfi hgn
      go_wp2_with (first | (go_at_call 47; with_reducible refine (named_doc2 n _).mono ?_; rw [HV.out]; rintro e w5 ⟨rfl, hb⟩; have n_B2 := Aside0.mk (blk_below B2.out hb); have n_B4 := Aside0.mk (blk_below B4.out hb); have n_HB := Aside0.mk (below_step HB.out hb); clear B2 B4 HB; have B2 := n_B2; have B4 := n_B4; have HB := n_HB; clear n_B2 n_B4 n_HB; clear hb; clear bB2_0 bB2_1 bB2_2 bB2_3 bB2_4 bB2_f; have bB2_0 := (blk_cell B2.out 0).trans (show _ = some (.int .i64 S.room) from rfl); have bB2_1 := (blk_cell B2.out 1).trans (show _ = some (.slice Af S.fails.length cf) from rfl); have bB2_2 := (blk_cell B2.out 2).trans (show _ = some (.slice Ap S.parts.length cp) from rfl); have bB2_3 := (blk_cell B2.out 3).trans (show _ = some (.slice A S.files.length c) from rfl); have bB2_4 := (blk_cell B2.out 4).trans (show _ = some (.int .i64 (S.calls + 1)) from rfl); have bB2_f := fun j => blk_frozen B2.out j; clear bB4_0 bB4_1 bB4_2 bB4_3 bB4_4 bB4_f; have bB4_0 := (blk_cell B4.out 0).trans (show _ = some (.int .i64 0) from rfl); have bB4_1 := (blk_cell B4.out 1).trans (show _ = some (.slice none 0 0) from rfl); have bB4_2 := (blk_cell B4.out 2).trans (show _ = some (.slice none 0 0) from rfl); have bB4_3 := (blk_cell B4.out 3).trans (show _ = some (.slice none 0 0) from rfl); have bB4_4 := (blk_cell B4.out 4).trans (show _ = some (.int .i64 0) from rfl); have bB4_f := fun j => blk_frozen B4.out j) | (go_at_call 48; refine (find_doc Af cf Ap cp A c (cnt S) n _ ((HI.out.below HB.out).cnt) HLN.out).mono ?_; rw [HF.out]; rintro e w5 ⟨rfl, hb⟩; have n_B2 := Aside0.mk (blk_below B2.out hb); have n_B4 := Aside0.mk (blk_below B4.out hb); have n_HB := Aside0.mk (below_step HB.out hb); clear B2 B4 HB; have B2 := n_B2; have B4 := n_B4; have HB := n_HB; clear n_B2 n_B4 n_HB; clear hb; clear bB2_0 bB2_1 bB2_2 bB2_3 bB2_4 bB2_f; have bB2_0 := (blk_cell B2.out 0).trans (show _ = some (.int .i64 S.room) from rfl); have bB2_1 := (blk_cell B2.out 1).trans (show _ = some (.slice Af S.fails.length cf) from rfl); have bB2_2 := (blk_cell B2.out 2).trans (show _ = some (.slice Ap S.parts.length cp) from rfl); have bB2_3 := (blk_cell B2.out 3).trans (show _ = some (.slice A S.files.length c) from rfl); have bB2_4 := (blk_cell B2.out 4).trans (show _ = some (.int .i64 (S.calls + 1)) from rfl); have bB2_f := fun j => blk_frozen B2.out j; clear bB4_0 bB4_1 bB4_2 bB4_3 bB4_4 bB4_f; have bB4_0 := (blk_cell B4.out 0).trans (show _ = some (.int .i64 0) from rfl); have bB4_1 := (blk_cell B4.out 1).trans (show _ = some (.slice none 0 0) from rfl); have bB4_2 := (blk_cell B4.out 2).trans (show _ = some (.slice none 0 0) from rfl); have bB4_3 := (blk_cell B4.out 3).trans (show _ = some (.slice none 0 0) from rfl); have bB4_4 := (blk_cell B4.out 4).trans (show _ = some (.int .i64 0) from rfl); have bB4_f := fun j => blk_frozen B4.out j))
      clear bB2_0 bB2_1 bB2_2 bB2_3 bB2_4 bB2_f
      clear bB4_0 bB4_1 bB4_2 bB4_3 bB4_4 bB4_f
      rename World => wy
      have s0 := blk_put (cs' := #[.int .i64 S.room, .slice none 0 0, .slice none 0 0, .slice none 0 0, .int .i64 0]) B4.out 0 (.int .i64 S.room) rfl
      have h0 := below_set (j := 0) (v := .int .i64 S.room) HB.out GE_g4.out
      have s1 := blk_put (cs' := #[.int .i64 S.room, .slice Af S.fails.length cf, .slice none 0 0, .slice none 0 0, .int .i64 0]) s0 1 (.slice Af S.fails.length cf) rfl
      have h1 := below_set (j := 1) (v := .slice Af S.fails.length cf) h0 GE_g4.out
      have s2 := blk_put (cs' := #[.int .i64 S.room, .slice Af S.fails.length cf, .slice Ap S.parts.length cp, .slice none 0 0, .int .i64 0]) s1 2 (.slice Ap S.parts.length cp) rfl
      have h2 := below_set (j := 2) (v := .slice Ap S.parts.length cp) h1 GE_g4.out
      have s3 := blk_put (cs' := #[.int .i64 S.room, .slice Af S.fails.length cf, .slice Ap S.parts.length cp, .slice A S.files.length c, .int .i64 0]) s2 3 (.slice A S.files.length c) rfl
      have h3 := below_set (j := 3) (v := .slice A S.files.length c) h2 GE_g4.out
      have s4 := blk_put (cs' := #[.int .i64 S.room, .slice Af S.fails.length cf, .slice Ap S.parts.length cp, .slice A S.files.length c, .int .i64 (S.calls + 1)]) s3 4 (.int .i64 (S.calls + 1)) rfl
      have h4 := below_set (j := 4) (v := .int .i64 (S.calls + 1)) h3 GE_g4.out
      have hs : ∀ k, k ≠ g4 → (World.setCell (World.setCell (World.setCell (World.setCell (World.setCell wy ⟨g4, 0, none⟩ (.int .i64 S.room)) ⟨g4, 1, none⟩ (.slice Af S.fails.length cf)) ⟨g4, 2, none⟩ (.slice Ap S.parts.length cp)) ⟨g4, 3, none⟩ (.slice A S.files.length c)) ⟨g4, 4, none⟩ (.int .i64 (S.calls + 1))).heap[k]? = wy.heap[k]? := fun k hk => ((Below.heap_setCell (World.setCell (World.setCell (World.setCell (World.setCell wy ⟨g4, 0, none⟩ (.int .i64 S.room)) ⟨g4, 1, none⟩ (.slice Af S.fails.length cf)) ⟨g4, 2, none⟩ (.slice Ap S.parts.length cp)) ⟨g4, 3, none⟩ (.slice A S.files.length c)) ⟨g4, 4, none⟩ (.int .i64 (S.calls + 1)) k hk).trans ((Below.heap_setCell (World.setCell (World.setCell (World.setCell wy ⟨g4, 0, none⟩ (.int .i64 S.room)) ⟨g4, 1, none⟩ (.slice Af S.fails.length cf)) ⟨g4, 2, none⟩ (.slice Ap S.parts.length cp)) ⟨g4, 3, none⟩ (.slice A S.files.length c) k hk).trans ((Below.heap_setCell (World.setCell (World.setCell wy ⟨g4, 0, none⟩ (.int .i64 S.room)) ⟨g4, 1, none⟩ (.slice Af S.fails.length cf)) ⟨g4, 2, none⟩ (.slice Ap S.parts.length cp) k hk).trans ((Below.heap_setCell (World.setCell wy ⟨g4, 0, none⟩ (.int .i64 S.room)) ⟨g4, 1, none⟩ (.slice Af S.fails.length cf) k hk).trans (Below.heap_setCell wy ⟨g4, 0, none⟩ (.int .i64 S.room) k hk)))))
      generalize (World.setCell (World.setCell (World.setCell (World.setCell (World.setCell wy ⟨g4, 0, none⟩ (.int .i64 S.room)) ⟨g4, 1, none⟩ (.slice Af S.fails.length cf)) ⟨g4, 2, none⟩ (.slice Ap S.parts.length cp)) ⟨g4, 3, none⟩ (.slice A S.files.length c)) ⟨g4, 4, none⟩ (.int .i64 (S.calls + 1))) = w9 at s4 h4 hs ⊢
      have n_B2 := Aside0.mk ((hs g2 NE_g2_g4.out).trans B2.out); have n_HB := Aside0.mk (h4); clear B2 HB; have B2 := n_B2; have HB := n_HB; clear n_B2 n_HB
      clear B4
      have B4 := Aside0.mk s4
      clear hs s0 s1 s2 s3 s4 h0 h1 h2 h3 h4
      refine bodyPost_ret (results_ct rfl _ _ g4 49 #[.int .i64 S.room, .slice Af S.fails.length cf, .slice Ap S.parts.length cp, .slice A S.files.length c, .int .i64 (S.calls + 1)] (0, 0) _ rfl B4.out Try.underlying49 rfl (by kernel_rfl)) rfl ?_
      have e : r = (cnt S, 10) := by rw [← HR.out]; unfold appendP; rw [if_neg hv, hg2]
      rw [e]
      exact ⟨A, c, rfl, (HI.out.below HB.out).cnt.mono (fun k hk => .inl hk.1), HB.out⟩
    · rw [Nat.zero_add] at hfi
      have HF := Aside0.mk hfi
      clear hfi
      have hg2 : get S.files n = some p.2 := hgn
      clear hgn
      have hj0 : (0 : Int) ≤ (j : Int) := Int.natCast_nonneg j
      have hj1 : ¬ (j : Int) < 0 := by omega
      obtain ⟨pn, f⟩ := p
      simp only at hpn hg2
      obtain rfl : n = pn := hpn.symm
      obtain ⟨ad, A1, c1, e0, x0, x1, x2, l1, q1⟩ := at_F57 HI.out.fs (j : Int) (by omega) (by have := (List.getElem?_eq_some_iff.1 hjp).1; exact Int.ofNat_lt.2 this)
      subst e0
      rw [show rd_T57 (docF S.files) (j : Int) = toS (n, f) from docF_get hjp] at x0 x1 x2 l1 q1
      simp only [toS, Int.toNat_natCast] at x0 x1 x2 l1 q1
      have HLF := Aside0.mk l1
      have HQF := Aside0.mk q1
      have hjl : (j : Int) < (S.files.length : Int) := Int.ofNat_lt.2 (List.getElem?_eq_some_iff.1 hjp).1
      clear l1 q1 hjp
      have Wx0 := Aside0.mk x0
      have Wx1 := Aside0.mk x1
      have Wx2 := Aside0.mk x2
      replace x0 := (HB.out.cell (World.block_lt_of_cell? w _ Wx0.out)).trans Wx0.out
      replace x1 := (HB.out.cell (World.block_lt_of_cell? w _ Wx1.out)).trans Wx1.out
      replace x2 := (HB.out.cell (World.block_lt_of_cell? w _ Wx2.out)).trans Wx2.out
      have hlb : f.b.length ≤ 1000000000000 := by have h1 := used_mem (get_mem hg2); have h2 := HUS.out; have h3 : used (cnt S).files = used S.files := rfl; simp only at h1; omega
      have HLB : Aside0 (f.b.length ≤ 1000000000000) := ⟨hlb⟩
      clear hlb
      go_upto_region 7 with (first | (go_at_call 47; with_reducible refine (named_doc2 n _).mono ?_; rw [HV.out]; rintro e w5 ⟨rfl, hb⟩; have n_B2 := Aside0.mk (blk_below B2.out hb); have n_B4 := Aside0.mk (blk_below B4.out hb); have n_HB := Aside0.mk (below_step HB.out hb); clear B2 B4 HB; have B2 := n_B2; have B4 := n_B4; have HB := n_HB; clear n_B2 n_B4 n_HB; clear hb; clear bB2_0 bB2_1 bB2_2 bB2_3 bB2_4 bB2_f; have bB2_0 := (blk_cell B2.out 0).trans (show _ = some (.int .i64 S.room) from rfl); have bB2_1 := (blk_cell B2.out 1).trans (show _ = some (.slice Af S.fails.length cf) from rfl); have bB2_2 := (blk_cell B2.out 2).trans (show _ = some (.slice Ap S.parts.length cp) from rfl); have bB2_3 := (blk_cell B2.out 3).trans (show _ = some (.slice (some ad) S.files.length c) from rfl); have bB2_4 := (blk_cell B2.out 4).trans (show _ = some (.int .i64 (S.calls + 1)) from rfl); have bB2_f := fun j => blk_frozen B2.out j; clear bB4_0 bB4_1 bB4_2 bB4_3 bB4_4 bB4_f; have bB4_0 := (blk_cell B4.out 0).trans (show _ = some (.int .i64 0) from rfl); have bB4_1 := (blk_cell B4.out 1).trans (show _ = some (.slice none 0 0) from rfl); have bB4_2 := (blk_cell B4.out 2).trans (show _ = some (.slice none 0 0) from rfl); have bB4_3 := (blk_cell B4.out 3).trans (show _ = some (.slice none 0 0) from rfl); have bB4_4 := (blk_cell B4.out 4).trans (show _ = some (.int .i64 0) from rfl); have bB4_f := fun j => blk_frozen B4.out j; clear x0 x1 x2; have x0 := (HB.out.cell (World.block_lt_of_cell? w _ Wx0.out)).trans Wx0.out; have x1 := (HB.out.cell (World.block_lt_of_cell? w _ Wx1.out)).trans Wx1.out; have x2 := (HB.out.cell (World.block_lt_of_cell? w _ Wx2.out)).trans Wx2.out) | (go_at_call 48; refine (find_doc Af cf Ap cp (some ad) c (cnt S) n _ ((HI.out.below HB.out).cnt) HLN.out).mono ?_; rw [HF.out]; rintro e w5 ⟨rfl, hb⟩; have n_B2 := Aside0.mk (blk_below B2.out hb); have n_B4 := Aside0.mk (blk_below B4.out hb); have n_HB := Aside0.mk (below_step HB.out hb); clear B2 B4 HB; have B2 := n_B2; have B4 := n_B4; have HB := n_HB; clear n_B2 n_B4 n_HB; clear hb; clear bB2_0 bB2_1 bB2_2 bB2_3 bB2_4 bB2_f; have bB2_0 := (blk_cell B2.out 0).trans (show _ = some (.int .i64 S.room) from rfl); have bB2_1 := (blk_cell B2.out 1).trans (show _ = some (.slice Af S.fails.length cf) from rfl); have bB2_2 := (blk_cell B2.out 2).trans (show _ = some (.slice Ap S.parts.length cp) from rfl); have bB2_3 := (blk_cell B2.out 3).trans (show _ = some (.slice (some ad) S.files.length c) from rfl); have bB2_4 := (blk_cell B2.out 4).trans (show _ = some (.int .i64 (S.calls + 1)) from rfl); have bB2_f := fun j => blk_frozen B2.out j; clear bB4_0 bB4_1 bB4_2 bB4_3 bB4_4 bB4_f; have bB4_0 := (blk_cell B4.out 0).trans (show _ = some (.int .i64 0) from rfl); have bB4_1 := (blk_cell B4.out 1).trans (show _ = some (.slice none 0 0) from rfl); have bB4_2 := (blk_cell B4.out 2).trans (show _ = some (.slice none 0 0) from rfl); have bB4_3 := (blk_cell B4.out 3).trans (show _ = some (.slice none 0 0) from rfl); have bB4_4 := (blk_cell B4.out 4).trans (show _ = some (.int .i64 0) from rfl); have bB4_f := fun j => blk_frozen B4.out j; clear x0 x1 x2; have x0 := (HB.out.cell (World.block_lt_of_cell? w _ Wx0.out)).trans Wx0.out; have x1 := (HB.out.cell (World.block_lt_of_cell? w _ Wx1.out)).trans Wx1.out; have x2 := (HB.out.cell (World.block_lt_of_cell? w _ Wx2.out)).trans Wx2.out))
      clear bB2_0 bB2_1 bB2_2 bB2_3 bB2_4 bB2_f
      clear bB4_0 bB4_1 bB4_2 bB4_3 bB4_4 bB4_f
      clear x0 x1 x2
      rename World => wb
      refine start_ (n := 6) (S := fun w' => Below wb.heap.size wb w') (ds := []) #[false, false, false, false, false, false] (by kernel_rfl) rfl rfl (below_drew (Below.refl _ _)) (fun hHeld => ?_)
      refine with_tabW r38_7.tab r38_7.bits (fun HT_ HW_ => ?_)
      generalize wb.drew = wd at hHeld ⊢
      refine pure_ (i := 0) (N := some 30) (v := ?_) (a' := ?_) #[true, false, false, false, false, false] rfl rfl (any_of HT_.out (by kernel_rfl)) (fun _ _ _ h => h) (Or.inl ⟨by rfl, ?_⟩) ?_ ?_
      rotate_left
      · intro w'
        go_simp
        with_reducible rfl
      rotate_left
      · simp only [Act.put, List.setIfInBounds_toArray, List.set_cons_zero, List.set_cons_succ, i64_w, i32_w]
        rfl
      refine take_ (i := 1) (N := some 31) (v := ?_) (a' := ?_) #[true, true, false, false, false, false] rfl rfl (take_ofW HT_.out HW_.out (by kernel_rfl)) (fun _ _ _ h => h) (Or.inl ⟨by rfl, ?_⟩) hHeld ?_ ?_
      rotate_left
      · rintro w' hbq
        have c_0 := (blk_cell (blk_below B2.out hbq) 0).trans (show _ = some (.int .i64 S.room) from rfl)
        have c_1 := (blk_cell (blk_below B2.out hbq) 1).trans (show _ = some (.slice Af S.fails.length cf) from rfl)
        have c_2 := (blk_cell (blk_below B2.out hbq) 2).trans (show _ = some (.slice Ap S.parts.length cp) from rfl)
        have c_3 := (blk_cell (blk_below B2.out hbq) 3).trans (show _ = some (.slice (some ad) S.files.length c) from rfl)
        have c_4 := (blk_cell (blk_below B2.out hbq) 4).trans (show _ = some (.int .i64 (S.calls + 1)) from rfl)
        go_simp
        with_reducible rfl
      rotate_left
      · simp only [Act.put, List.setIfInBounds_toArray, List.set_cons_zero, List.set_cons_succ, i64_w, i32_w]
        rfl
      refine take_ (i := 2) (N := some 32) (v := ?_) (a' := ?_) #[true, true, true, false, false, false] rfl rfl (take_ofW HT_.out HW_.out (by kernel_rfl)) (fun _ _ _ h => h) (Or.inl ⟨by rfl, ?_⟩) hHeld ?_ ?_
      rotate_left
      · rintro w' hbq
        have c_0 := (blk_cell (blk_below B2.out hbq) 0).trans (show _ = some (.int .i64 S.room) from rfl)
        have c_1 := (blk_cell (blk_below B2.out hbq) 1).trans (show _ = some (.slice Af S.fails.length cf) from rfl)
        have c_2 := (blk_cell (blk_below B2.out hbq) 2).trans (show _ = some (.slice Ap S.parts.length cp) from rfl)
        have c_3 := (blk_cell (blk_below B2.out hbq) 3).trans (show _ = some (.slice (some ad) S.files.length c) from rfl)
        have c_4 := (blk_cell (blk_below B2.out hbq) 4).trans (show _ = some (.int .i64 (S.calls + 1)) from rfl)
        go_simp
        with_reducible rfl
      rotate_left
      · simp only [Act.put, List.setIfInBounds_toArray, List.set_cons_zero, List.set_cons_succ, i64_w, i32_w]
        rfl
      refine one_ (i := 3) (N := some 33) #[true, true, true, true, false, false] rfl rfl (one_of HT_.out (by kernel_rfl)) (by decide) (fun K hK => ?_)
      refine goes_ Try.func44 (by kernel_rfl) rfl #[docV Af cf Ap cp (some ad) c (cnt S)] (by rfl) rfl rfl (by first | done | rfl | (simp only [List.map_toArray, List.map_cons, List.map_nil]; rfl)) ?_
      refine (used_doc Af cf Ap cp (some ad) c (cnt S) wd (((HI.out.below HB.out).below hHeld).cnt) HLN.out HUS.out).mono ?_
      rw [show used (cnt S).files = used S.files from rfl]
      rintro e0 w6 ⟨rfl, hb⟩
      refine ⟨_, rfl, ?_⟩
      have HX := Aside0.mk (below_step hHeld hb)
      refine hK.out _ _ HX.out (fun hHeld => ?_)
      clear hK K hb hHeld
      refine norm_ (a' := ?_) ?_ ?_
      rotate_left
      · show Act.put _ (some 33) _ = _
        simp only [Act.put, List.setIfInBounds_toArray, List.set_cons_zero, List.set_cons_succ, i64_w, i32_w]
        rfl
      refine pure_ (i := 4) (N := some 34) (v := ?_) (a' := ?_) #[true, true, true, true, true, false] rfl rfl (any_of HT_.out (by kernel_rfl)) (fun _ _ _ h => h) (Or.inl ⟨by rfl, ?_⟩) ?_ ?_
      rotate_left
      · intro w'
        go_simp
        (try rw [hsub])
        (try rw [hwr])
        with_reducible rfl
      rotate_left
      · simp only [Act.put, List.setIfInBounds_toArray, List.set_cons_zero, List.set_cons_succ, i64_w, i32_w]
        rfl
      refine pure_ (i := 5) (N := some 9) (v := ?_) (a' := ?_) #[true, true, true, true, true, true] rfl rfl (any_of HT_.out (by kernel_rfl)) (fun _ _ _ h => h) (Or.inl ⟨by rfl, ?_⟩) ?_ ?_
      rotate_left
      · intro w'
        go_simp
        with_reducible rfl
      rotate_left
      · simp only [Act.put, List.setIfInBounds_toArray, List.set_cons_zero, List.set_cons_succ, i64_w, i32_w]
        rfl
      refine done_ (done_of HT_.out (by kernel_rfl)) ?_
      have hb := HX.out
      have n_B2 := Aside0.mk (blk_below B2.out hb); have n_B4 := Aside0.mk (blk_below B4.out hb); have n_HB := Aside0.mk (below_step HB.out hb); clear B2 B4 HB; have B2 := n_B2; have B4 := n_B4; have HB := n_HB; clear n_B2 n_B4 n_HB
      clear hb HX
      have bB2_0 := (blk_cell B2.out 0).trans (show _ = some (.int .i64 S.room) from rfl)
      have bB2_1 := (blk_cell B2.out 1).trans (show _ = some (.slice Af S.fails.length cf) from rfl)
      have bB2_2 := (blk_cell B2.out 2).trans (show _ = some (.slice Ap S.parts.length cp) from rfl)
      have bB2_3 := (blk_cell B2.out 3).trans (show _ = some (.slice (some ad) S.files.length c) from rfl)
      have bB2_4 := (blk_cell B2.out 4).trans (show _ = some (.int .i64 (S.calls + 1)) from rfl)
      have bB2_f := fun j => blk_frozen B2.out j
      have bB4_0 := (blk_cell B4.out 0).trans (show _ = some (.int .i64 0) from rfl)
      have bB4_1 := (blk_cell B4.out 1).trans (show _ = some (.slice none 0 0) from rfl)
      have bB4_2 := (blk_cell B4.out 2).trans (show _ = some (.slice none 0 0) from rfl)
      have bB4_3 := (blk_cell B4.out 3).trans (show _ = some (.slice none 0 0) from rfl)
      have bB4_4 := (blk_cell B4.out 4).trans (show _ = some (.int .i64 0) from rfl)
      have bB4_f := fun j => blk_frozen B4.out j
      have x0 := (HB.out.cell (World.block_lt_of_cell? w _ Wx0.out)).trans Wx0.out
      have x1 := (HB.out.cell (World.block_lt_of_cell? w _ Wx1.out)).trans Wx1.out
      have x2 := (HB.out.cell (World.block_lt_of_cell? w _ Wx2.out)).trans Wx2.out
      have hn0 : ¬ lf < 0 := by omega
      obtain ⟨pt, hpt⟩ : ∃ pt, partOf (refusedP (cnt S).fails (cnt S).parts (cnt S).calls) = pt := ⟨_, rfl⟩
      have HPT := Aside0.mk hpt
      clear hpt
      have hpt0 : 0 ≤ pt := by rw [← HPT.out]; exact part_nonneg _ _ _
      by_cases hrf : isRef S = true
      · have HRF : Aside0 ((refusedP (cnt S).fails (cnt S).parts (cnt S).calls).isSome = true) := ⟨hrf⟩
        have HRI2 : Aside0 (isRef S = true) := ⟨hrf⟩
        by_cases h1 : pt < (b.length : Int)
        · by_cases h2 : lf < pt
          · obtain ⟨m, hm⟩ : ∃ m : Nat, lf = (m : Int) := ⟨lf.toNat, by omega⟩
            subst hm
            have HAX : Aside0 (appX S b pt true = (m, 12)) := ⟨by unfold appX; rw [HLE.out]; (first | rw [if_pos rfl] | rw [if_neg (by decide)]); (try rw [if_neg (by omega)]); (first | done | rfl | (congr 1; omega))⟩
            have HML : Aside0 (m ≤ b.length) := ⟨by omega⟩
            obtain ⟨fb, hfb⟩ : ∃ fb, f.b ++ b.take m = fb := ⟨_, rfl⟩
            have HFBE := Aside0.mk hfb
            clear hfb
            go_upto_region 22 with (first | (go_at_call 61; refine (refused_doc Af cf Ap cp (some ad) c (cnt S) _ ((HI.out.below HB.out).cnt) HFN.out).mono ?_; rw [HPT.out, HRF.out]; rintro e w5 ⟨rfl, hb⟩; have n_B2 := Aside0.mk (blk_below B2.out hb); have n_B4 := Aside0.mk (blk_below B4.out hb); have n_HB := Aside0.mk (below_step HB.out hb); clear B2 B4 HB; have B2 := n_B2; have B4 := n_B4; have HB := n_HB; clear n_B2 n_B4 n_HB; clear hb; clear bB2_0 bB2_1 bB2_2 bB2_3 bB2_4 bB2_f; have bB2_0 := (blk_cell B2.out 0).trans (show _ = some (.int .i64 S.room) from rfl); have bB2_1 := (blk_cell B2.out 1).trans (show _ = some (.slice Af S.fails.length cf) from rfl); have bB2_2 := (blk_cell B2.out 2).trans (show _ = some (.slice Ap S.parts.length cp) from rfl); have bB2_3 := (blk_cell B2.out 3).trans (show _ = some (.slice (some ad) S.files.length c) from rfl); have bB2_4 := (blk_cell B2.out 4).trans (show _ = some (.int .i64 (S.calls + 1)) from rfl); have bB2_f := fun j => blk_frozen B2.out j; clear bB4_0 bB4_1 bB4_2 bB4_3 bB4_4 bB4_f; have bB4_0 := (blk_cell B4.out 0).trans (show _ = some (.int .i64 0) from rfl); have bB4_1 := (blk_cell B4.out 1).trans (show _ = some (.slice none 0 0) from rfl); have bB4_2 := (blk_cell B4.out 2).trans (show _ = some (.slice none 0 0) from rfl); have bB4_3 := (blk_cell B4.out 3).trans (show _ = some (.slice none 0 0) from rfl); have bB4_4 := (blk_cell B4.out 4).trans (show _ = some (.int .i64 0) from rfl); have bB4_f := fun j => blk_frozen B4.out j; clear x0 x1 x2; have x0 := (HB.out.cell (World.block_lt_of_cell? w _ Wx0.out)).trans Wx0.out; have x1 := (HB.out.cell (World.block_lt_of_cell? w _ Wx1.out)).trans Wx1.out; have x2 := (HB.out.cell (World.block_lt_of_cell? w _ Wx2.out)).trans Wx2.out) | ((with_reducible refine gate_dst (N := 14) rfl ?_); refine box_event ?hg (N := 14) ?hd (cs := #[.string ByteArray.empty, .slice none 0 0, .int .i64 0]) (t := 57) ?hr ?_; (case hd => rfl); (case hg => rfl); (case hr => first | (go_simp; done) | (go_simp; rfl)); intro g9 hg w3 hbox hb; have NE_g2_g9 : Aside0 (g2 ≠ g9) := ⟨by rw [hg]; exact Nat.ne_of_lt (blk_lt B2.out)⟩; have NE_g4_g9 : Aside0 (g4 ≠ g9) := ⟨by rw [hg]; exact Nat.ne_of_lt (blk_lt B4.out)⟩; have GE_g9 : Aside0 (w.heap.size ≤ g9) := ⟨by rw [hg]; exact below_size HB.out⟩; have n_B2 := Aside0.mk (blk_below B2.out hb); have n_B4 := Aside0.mk (blk_below B4.out hb); have n_HB := Aside0.mk (below_step HB.out hb); clear B2 B4 HB; have B2 := n_B2; have B4 := n_B4; have HB := n_HB; clear n_B2 n_B4 n_HB; have B9 := Aside0.mk hbox; clear hg hbox hb; have bB9_0 := (blk_cell B9.out 0).trans (show _ = some (.string ByteArray.empty) from rfl); have bB9_1 := (blk_cell B9.out 1).trans (show _ = some (.slice none 0 0) from rfl); have bB9_2 := (blk_cell B9.out 2).trans (show _ = some (.int .i64 0) from rfl); have bB9_f := fun j => blk_frozen B9.out j))
            clear bB2_0 bB2_1 bB2_2 bB2_3 bB2_4 bB2_f
            clear bB4_0 bB4_1 bB4_2 bB4_3 bB4_4 bB4_f
            clear bB9_0 bB9_1 bB9_2 bB9_f
            clear x0 x1 x2
            rename World => wz
            have s0 := blk_put (cs' := #[.string (str n), .slice none 0 0, .int .i64 0]) B9.out 0 (.string (str n)) rfl
            have h0 := below_set (j := 0) (v := .string (str n)) HB.out GE_g9.out
            have s1 := blk_put (cs' := #[.string (str n), .slice A1 f.b.length c1, .int .i64 0]) s0 1 (.slice A1 f.b.length c1) rfl
            have h1 := below_set (j := 1) (v := .slice A1 f.b.length c1) h0 GE_g9.out
            have s2 := blk_put (cs' := #[.string (str n), .slice A1 f.b.length c1, .int .i64 f.safe]) s1 2 (.int .i64 f.safe) rfl
            have h2 := below_set (j := 2) (v := .int .i64 f.safe) h1 GE_g9.out
            have hs : ∀ k, k ≠ g9 → (World.setCell (World.setCell (World.setCell wz ⟨g9, 0, none⟩ (.string (str n))) ⟨g9, 1, none⟩ (.slice A1 f.b.length c1)) ⟨g9, 2, none⟩ (.int .i64 f.safe)).heap[k]? = wz.heap[k]? := fun k hk => ((Below.heap_setCell (World.setCell (World.setCell wz ⟨g9, 0, none⟩ (.string (str n))) ⟨g9, 1, none⟩ (.slice A1 f.b.length c1)) ⟨g9, 2, none⟩ (.int .i64 f.safe) k hk).trans ((Below.heap_setCell (World.setCell wz ⟨g9, 0, none⟩ (.string (str n))) ⟨g9, 1, none⟩ (.slice A1 f.b.length c1) k hk).trans (Below.heap_setCell wz ⟨g9, 0, none⟩ (.string (str n)) k hk)))
            generalize (World.setCell (World.setCell (World.setCell wz ⟨g9, 0, none⟩ (.string (str n))) ⟨g9, 1, none⟩ (.slice A1 f.b.length c1)) ⟨g9, 2, none⟩ (.int .i64 f.safe)) = wa at s2 h2 hs ⊢
            have n_B2 := Aside0.mk ((hs g2 NE_g2_g9.out).trans B2.out); have n_B4 := Aside0.mk ((hs g4 NE_g4_g9.out).trans B4.out); have n_HB := Aside0.mk (h2); clear B2 B4 HB; have B2 := n_B2; have B4 := n_B4; have HB := n_HB; clear n_B2 n_B4 n_HB
            clear B9
            have B9 := Aside0.mk s2
            clear hs s0 s1 s2 h0 h1 h2
            have bB9_0 := (blk_cell B9.out 0).trans (show _ = some (.string (str n)) from rfl)
            have bB9_1 := (blk_cell B9.out 1).trans (show _ = some (.slice A1 f.b.length c1) from rfl)
            have bB9_2 := (blk_cell B9.out 2).trans (show _ = some (.int .i64 f.safe) from rfl)
            have bB9_f := fun j => blk_frozen B9.out j
            have HL9 : Aside0 (f.b.length ≤ 1000000000000 ∧ b.length ≤ 1000000 ∧ m ≤ b.length) := ⟨HLB.out, hbl, HML.out⟩
            go_upto_region 24 with (first | ((with_reducible refine gate_builtin (b := .append) (xs := #[.tmp 62, .tmp 64]) rfl ?_); at_builtin; (refine Kd.R_append_rows (Kd.int .u8) (w0 := w) w.heap.size rfl (.tmp 62) (.tmp 64) 30 5 (.int .u8 0) 1 rfl Try.underlying30 infoU8 rfl (by decide) (by decide) _ [] f.b _ _ _ (fun k => k ≠ g2 ∧ k ≠ g4 ∧ k ≠ g9) (fun _ => False) rfl rfl (Kd.R_nil _ _ _ _ _) (Kd.F_now (Kd.F_below HQF.out HB.out)) (fun _ _ h => h) (fun _ hk => hk.elim) (fun k hk => ⟨by have := blk_lt B2.out; omega, by have := blk_lt B4.out; omega, by have := blk_lt B9.out; omega⟩) HB.out (below_size HB.out) (by have h1 := HL9.out; (try simp only [List.length_nil]); omega) ?_); intro v1 w1 ho hb hg hat; have n_B2 := Aside0.mk ((hg.block g2 (blk_lt B2.out) (by intro e; cases e)).trans B2.out); have n_B4 := Aside0.mk ((hg.block g4 (blk_lt B4.out) (by intro e; cases e)).trans B4.out); have n_B9 := Aside0.mk ((hg.block g9 (blk_lt B9.out) (by intro e; cases e)).trans B9.out); have n_HB := Aside0.mk hb; clear HB B2 B4 B9; have HB := n_HB; have B2 := n_B2; have B4 := n_B4; have B9 := n_B9; clear n_HB n_B2 n_B4 n_B9; rw [List.nil_append] at ho; obtain ⟨A8, c8, hv8⟩ := R_form ho; subst hv8; have HRA := Aside0.mk ho; clear ho hb hg hat; clear bB9_0 bB9_1 bB9_2 bB9_f; have bB9_0 := (blk_cell B9.out 0).trans (show _ = some (.string (str n)) from rfl); have bB9_1 := (blk_cell B9.out 1).trans (show _ = some (.slice A1 f.b.length c1) from rfl); have bB9_2 := (blk_cell B9.out 2).trans (show _ = some (.int .i64 f.safe) from rfl); have bB9_f := fun j => blk_frozen B9.out j))
            have hcut : ∀ W : World, (Instr.slice 30 (.slice Ab b.length cb) none (some (.int .i64 (m : Int))) none).run Try.prog W = .ok (.slice Ab m cb) W := fun W => cut_h W Ab b.length cb (m) (Nat.le_trans HML.out HBC.out)
            go_upto_region 25 with (first | ((with_reducible refine gate_builtin (b := .append) (xs := #[.tmp 66, .tmp 69]) rfl ?_); at_builtin; (refine Kd.R_append_rows (Kd.int .u8) (w0 := w) w.heap.size rfl (.tmp 66) (.tmp 69) 30 5 (.int .u8 0) 1 rfl Try.underlying30 infoU8 rfl (by decide) (by decide) _ f.b (b.take m) _ _ _ (fun k => k ≠ g2 ∧ k ≠ g4 ∧ k ≠ g9) (fun _ => False) rfl rfl HRA.out (by have hq := Kd.C_take (Kd.C_below HFB.out HB.out) HML.out; rw [List.length_take, Nat.min_eq_left HML.out] at hq; exact hq) (fun _ _ h => h) (fun _ hk => hk.elim) (fun k hk => ⟨by have := blk_lt B2.out; omega, by have := blk_lt B4.out; omega, by have := blk_lt B9.out; omega⟩) HB.out (below_size HB.out) (by have h1 := HL9.out; (try simp only [List.length_nil]); omega) ?_); intro v1 w1 ho hb hg hat; have n_B2 := Aside0.mk ((hg.block g2 (blk_lt B2.out) (fun e => (HRA.out.1 g2 e.symm).1 rfl)).trans B2.out); have n_B4 := Aside0.mk ((hg.block g4 (blk_lt B4.out) (fun e => (HRA.out.1 g4 e.symm).2.1 rfl)).trans B4.out); have n_B9 := Aside0.mk ((hg.block g9 (blk_lt B9.out) (fun e => (HRA.out.1 g9 e.symm).2.2 rfl)).trans B9.out); have n_HB := Aside0.mk hb; clear HB B2 B4 B9; have HB := n_HB; have B2 := n_B2; have B4 := n_B4; have B9 := n_B9; clear n_HB n_B2 n_B4 n_B9; rw [HFBE.out] at ho; obtain ⟨A7, c7, hv7⟩ := R_form ho; subst hv7; clear HRA; have HRA := Aside0.mk ho; clear ho hb hg hat; clear bB9_0 bB9_1 bB9_2 bB9_f; have bB9_0 := (blk_cell B9.out 0).trans (show _ = some (.string (str n)) from rfl); have bB9_1 := (blk_cell B9.out 1).trans (show _ = some (.slice A1 f.b.length c1) from rfl); have bB9_2 := (blk_cell B9.out 2).trans (show _ = some (.int .i64 f.safe) from rfl); have bB9_f := fun j => blk_frozen B9.out j))
            clear bB9_0 bB9_1 bB9_2 bB9_f
            rename World => wz
            have s0 := blk_put (cs' := #[.string (str n), .slice A7 fb.length c7, .int .i64 f.safe]) B9.out 1 (.slice A7 fb.length c7) rfl
            have h0 := below_set (j := 1) (v := .slice A7 fb.length c7) HB.out GE_g9.out
            have hs : ∀ k, k ≠ g9 → (World.setCell wz ⟨g9, 1, none⟩ (.slice A7 fb.length c7)).heap[k]? = wz.heap[k]? := fun k hk => (Below.heap_setCell wz ⟨g9, 1, none⟩ (.slice A7 fb.length c7) k hk)
            generalize (World.setCell wz ⟨g9, 1, none⟩ (.slice A7 fb.length c7)) = wb at s0 h0 hs ⊢
            have n_B2 := Aside0.mk ((hs g2 NE_g2_g9.out).trans B2.out); have n_B4 := Aside0.mk ((hs g4 NE_g4_g9.out).trans B4.out); have n_HRA := Aside0.mk (Kd.R_move HRA.out (fun k hk => hs k hk.2.2)); have n_HB := Aside0.mk (h0); clear B2 B4 HRA HB; have B2 := n_B2; have B4 := n_B4; have HRA := n_HRA; have HB := n_HB; clear n_B2 n_B4 n_HRA n_HB
            clear B9
            have B9 := Aside0.mk s0
            clear hs s0 h0
            have bB2_0 := (blk_cell B2.out 0).trans (show _ = some (.int .i64 S.room) from rfl)
            have bB2_1 := (blk_cell B2.out 1).trans (show _ = some (.slice Af S.fails.length cf) from rfl)
            have bB2_2 := (blk_cell B2.out 2).trans (show _ = some (.slice Ap S.parts.length cp) from rfl)
            have bB2_3 := (blk_cell B2.out 3).trans (show _ = some (.slice (some ad) S.files.length c) from rfl)
            have bB2_4 := (blk_cell B2.out 4).trans (show _ = some (.int .i64 (S.calls + 1)) from rfl)
            have bB2_f := fun j => blk_frozen B2.out j
            have bB4_0 := (blk_cell B4.out 0).trans (show _ = some (.int .i64 0) from rfl)
            have bB4_1 := (blk_cell B4.out 1).trans (show _ = some (.slice none 0 0) from rfl)
            have bB4_2 := (blk_cell B4.out 2).trans (show _ = some (.slice none 0 0) from rfl)
            have bB4_3 := (blk_cell B4.out 3).trans (show _ = some (.slice none 0 0) from rfl)
            have bB4_4 := (blk_cell B4.out 4).trans (show _ = some (.int .i64 0) from rfl)
            have bB4_f := fun j => blk_frozen B4.out j
            have bB9_0 := (blk_cell B9.out 0).trans (show _ = some (.string (str n)) from rfl)
            have bB9_1 := (blk_cell B9.out 1).trans (show _ = some (.slice A7 fb.length c7) from rfl)
            have bB9_2 := (blk_cell B9.out 2).trans (show _ = some (.int .i64 f.safe) from rfl)
            have bB9_f := fun j => blk_frozen B9.out j
            go_wp2_with (first | (go_at_call 62; refine (with_doc (fun k => (P k ∧ k < w.heap.size) ∨ ((fun k => k ≠ g2 ∧ k ≠ g4 ∧ k ≠ g9) k ∧ w.heap.size ≤ k)) Af cf Ap cp (some ad) c (cnt S) n n ⟨fb, f.safe⟩ A7 c7 false _ ((HI.out.below HB.out).cnt.mono (fun k hk => .inl hk)) (Kd.F_mono (Kd.R_F (Kd.R_bound HRA.out)) (fun k hk => .inr ⟨hk.1, hk.2.1⟩)) (Kd.R_reads' HRA.out).2.1 HL2.out).mono ?_; rintro e w5 ⟨A9, c9, rfl, hd, hb⟩; replace hd := hd.mono (P' := fun k => (P k ∨ w.heap.size ≤ k) ∧ k ≠ g2 ∧ k ≠ g4 ∧ k ≠ g9) (fun k hk => ⟨hk.elim (fun hk => hk.elim (fun h => .inl h.1) (fun h => .inr h.2)) (fun h => .inr (Nat.le_trans (below_size HB.out) h)), (fun e => by subst e; have q1 := GE_g2.out; have q2 := blk_lt B2.out; rcases hk with hk | hk; (· rcases hk with hk | hk; (· omega); (· exact hk.1.1 rfl)); (· omega)), (fun e => by subst e; have q1 := GE_g4.out; have q2 := blk_lt B4.out; rcases hk with hk | hk; (· rcases hk with hk | hk; (· omega); (· exact hk.1.2.1 rfl)); (· omega)), (fun e => by subst e; have q1 := GE_g9.out; have q2 := blk_lt B9.out; rcases hk with hk | hk; (· rcases hk with hk | hk; (· omega); (· exact hk.1.2.2 rfl)); (· omega))⟩); have n_B2 := Aside0.mk (blk_below B2.out hb); have n_B4 := Aside0.mk (blk_below B4.out hb); have n_B9 := Aside0.mk (blk_below B9.out hb); have n_HB := Aside0.mk (below_step HB.out hb); clear B2 B4 B9 HB; have B2 := n_B2; have B4 := n_B4; have B9 := n_B9; have HB := n_HB; clear n_B2 n_B4 n_B9 n_HB; clear hb; clear bB2_0 bB2_1 bB2_2 bB2_3 bB2_4 bB2_f; have bB2_0 := (blk_cell B2.out 0).trans (show _ = some (.int .i64 S.room) from rfl); have bB2_1 := (blk_cell B2.out 1).trans (show _ = some (.slice Af S.fails.length cf) from rfl); have bB2_2 := (blk_cell B2.out 2).trans (show _ = some (.slice Ap S.parts.length cp) from rfl); have bB2_3 := (blk_cell B2.out 3).trans (show _ = some (.slice (some ad) S.files.length c) from rfl); have bB2_4 := (blk_cell B2.out 4).trans (show _ = some (.int .i64 (S.calls + 1)) from rfl); have bB2_f := fun j => blk_frozen B2.out j; clear bB4_0 bB4_1 bB4_2 bB4_3 bB4_4 bB4_f; have bB4_0 := (blk_cell B4.out 0).trans (show _ = some (.int .i64 0) from rfl); have bB4_1 := (blk_cell B4.out 1).trans (show _ = some (.slice none 0 0) from rfl); have bB4_2 := (blk_cell B4.out 2).trans (show _ = some (.slice none 0 0) from rfl); have bB4_3 := (blk_cell B4.out 3).trans (show _ = some (.slice none 0 0) from rfl); have bB4_4 := (blk_cell B4.out 4).trans (show _ = some (.int .i64 0) from rfl); have bB4_f := fun j => blk_frozen B4.out j; clear bB9_0 bB9_1 bB9_2 bB9_f; have bB9_0 := (blk_cell B9.out 0).trans (show _ = some (.string (str n)) from rfl); have bB9_1 := (blk_cell B9.out 1).trans (show _ = some (.slice A7 fb.length c7) from rfl); have bB9_2 := (blk_cell B9.out 2).trans (show _ = some (.int .i64 f.safe) from rfl); have bB9_f := fun j => blk_frozen B9.out j; rw [withR_false n ⟨fb, f.safe⟩ _ HRI.out] at hd ⊢; generalize hS9 : ({ cnt S with files := put n ⟨fb, f.safe⟩ (cnt S).files } : DA) = S9 at hd ⊢; have HS9 := Aside0.mk hS9; clear hS9; have HD := Aside0.mk hd; clear hd))
            clear bB2_0 bB2_1 bB2_2 bB2_3 bB2_4 bB2_f
            clear bB4_0 bB4_1 bB4_2 bB4_3 bB4_4 bB4_f
            clear bB9_0 bB9_1 bB9_2 bB9_f
            rename World => wy
            have s0 := blk_put (cs' := #[.int .i64 S9.room, .slice none 0 0, .slice none 0 0, .slice none 0 0, .int .i64 0]) B4.out 0 (.int .i64 S9.room) rfl
            have h0 := below_set (j := 0) (v := .int .i64 S9.room) HB.out GE_g4.out
            have s1 := blk_put (cs' := #[.int .i64 S9.room, .slice Af S9.fails.length cf, .slice none 0 0, .slice none 0 0, .int .i64 0]) s0 1 (.slice Af S9.fails.length cf) rfl
            have h1 := below_set (j := 1) (v := .slice Af S9.fails.length cf) h0 GE_g4.out
            have s2 := blk_put (cs' := #[.int .i64 S9.room, .slice Af S9.fails.length cf, .slice Ap S9.parts.length cp, .slice none 0 0, .int .i64 0]) s1 2 (.slice Ap S9.parts.length cp) rfl
            have h2 := below_set (j := 2) (v := .slice Ap S9.parts.length cp) h1 GE_g4.out
            have s3 := blk_put (cs' := #[.int .i64 S9.room, .slice Af S9.fails.length cf, .slice Ap S9.parts.length cp, .slice A9 S9.files.length c9, .int .i64 0]) s2 3 (.slice A9 S9.files.length c9) rfl
            have h3 := below_set (j := 3) (v := .slice A9 S9.files.length c9) h2 GE_g4.out
            have s4 := blk_put (cs' := #[.int .i64 S9.room, .slice Af S9.fails.length cf, .slice Ap S9.parts.length cp, .slice A9 S9.files.length c9, .int .i64 S9.calls]) s3 4 (.int .i64 S9.calls) rfl
            have h4 := below_set (j := 4) (v := .int .i64 S9.calls) h3 GE_g4.out
            have hs : ∀ k, k ≠ g4 → (World.setCell (World.setCell (World.setCell (World.setCell (World.setCell wy ⟨g4, 0, none⟩ (.int .i64 S9.room)) ⟨g4, 1, none⟩ (.slice Af S9.fails.length cf)) ⟨g4, 2, none⟩ (.slice Ap S9.parts.length cp)) ⟨g4, 3, none⟩ (.slice A9 S9.files.length c9)) ⟨g4, 4, none⟩ (.int .i64 S9.calls)).heap[k]? = wy.heap[k]? := fun k hk => ((Below.heap_setCell (World.setCell (World.setCell (World.setCell (World.setCell wy ⟨g4, 0, none⟩ (.int .i64 S9.room)) ⟨g4, 1, none⟩ (.slice Af S9.fails.length cf)) ⟨g4, 2, none⟩ (.slice Ap S9.parts.length cp)) ⟨g4, 3, none⟩ (.slice A9 S9.files.length c9)) ⟨g4, 4, none⟩ (.int .i64 S9.calls) k hk).trans ((Below.heap_setCell (World.setCell (World.setCell (World.setCell wy ⟨g4, 0, none⟩ (.int .i64 S9.room)) ⟨g4, 1, none⟩ (.slice Af S9.fails.length cf)) ⟨g4, 2, none⟩ (.slice Ap S9.parts.length cp)) ⟨g4, 3, none⟩ (.slice A9 S9.files.length c9) k hk).trans ((Below.heap_setCell (World.setCell (World.setCell wy ⟨g4, 0, none⟩ (.int .i64 S9.room)) ⟨g4, 1, none⟩ (.slice Af S9.fails.length cf)) ⟨g4, 2, none⟩ (.slice Ap S9.parts.length cp) k hk).trans ((Below.heap_setCell (World.setCell wy ⟨g4, 0, none⟩ (.int .i64 S9.room)) ⟨g4, 1, none⟩ (.slice Af S9.fails.length cf) k hk).trans (Below.heap_setCell wy ⟨g4, 0, none⟩ (.int .i64 S9.room) k hk)))))
            generalize (World.setCell (World.setCell (World.setCell (World.setCell (World.setCell wy ⟨g4, 0, none⟩ (.int .i64 S9.room)) ⟨g4, 1, none⟩ (.slice Af S9.fails.length cf)) ⟨g4, 2, none⟩ (.slice Ap S9.parts.length cp)) ⟨g4, 3, none⟩ (.slice A9 S9.files.length c9)) ⟨g4, 4, none⟩ (.int .i64 S9.calls)) = w9 at s4 h4 hs ⊢
            have n_B2 := Aside0.mk ((hs g2 NE_g2_g4.out).trans B2.out); have n_B9 := Aside0.mk ((hs g9 (fun e => NE_g4_g9.out e.symm)).trans B9.out); have n_HD := Aside0.mk (HD.out.step (fun k hk _ => hs k hk.2.2.1)); have n_HB := Aside0.mk (h4); clear B2 B9 HD HB; have B2 := n_B2; have B9 := n_B9; have HD := n_HD; have HB := n_HB; clear n_B2 n_B9 n_HD n_HB
            clear B4
            have B4 := Aside0.mk s4
            clear hs s0 s1 s2 s3 s4 h0 h1 h2 h3 h4
            refine bodyPost_ret (results_ct rfl _ _ g4 49 #[.int .i64 S9.room, .slice Af S9.fails.length cf, .slice Ap S9.parts.length cp, .slice A9 S9.files.length c9, .int .i64 S9.calls] (0, 0) _ rfl B4.out Try.underlying49 rfl (by kernel_rfl)) rfl ?_
            have e : r = (S9, 12) := by rw [← HR.out, ← HS9.out]; exact appendP_put HV.out hg2 HPT.out HRI2.out HAX.out HFBE.out
            rw [e]
            exact ⟨A9, c9, rfl, HD.out.mono (fun k hk => hk.1), HB.out⟩
          · obtain ⟨m, hm⟩ : ∃ m : Nat, pt = (m : Int) := ⟨pt.toNat, by omega⟩
            subst hm
            have HAX : Aside0 (appX S b (m : Int) true = (m, 12)) := ⟨by unfold appX; rw [HLE.out]; (first | rw [if_pos rfl] | rw [if_neg (by decide)]); (try rw [if_neg (by omega)]); (first | done | rfl | (congr 1; omega))⟩
            have HML : Aside0 (m ≤ b.length) := ⟨by omega⟩
            obtain ⟨fb, hfb⟩ : ∃ fb, f.b ++ b.take m = fb := ⟨_, rfl⟩
            have HFBE := Aside0.mk hfb
            clear hfb
            go_upto_region 22 with (first | (go_at_call 61; refine (refused_doc Af cf Ap cp (some ad) c (cnt S) _ ((HI.out.below HB.out).cnt) HFN.out).mono ?_; rw [HPT.out, HRF.out]; rintro e w5 ⟨rfl, hb⟩; have n_B2 := Aside0.mk (blk_below B2.out hb); have n_B4 := Aside0.mk (blk_below B4.out hb); have n_HB := Aside0.mk (below_step HB.out hb); clear B2 B4 HB; have B2 := n_B2; have B4 := n_B4; have HB := n_HB; clear n_B2 n_B4 n_HB; clear hb; clear bB2_0 bB2_1 bB2_2 bB2_3 bB2_4 bB2_f; have bB2_0 := (blk_cell B2.out 0).trans (show _ = some (.int .i64 S.room) from rfl); have bB2_1 := (blk_cell B2.out 1).trans (show _ = some (.slice Af S.fails.length cf) from rfl); have bB2_2 := (blk_cell B2.out 2).trans (show _ = some (.slice Ap S.parts.length cp) from rfl); have bB2_3 := (blk_cell B2.out 3).trans (show _ = some (.slice (some ad) S.files.length c) from rfl); have bB2_4 := (blk_cell B2.out 4).trans (show _ = some (.int .i64 (S.calls + 1)) from rfl); have bB2_f := fun j => blk_frozen B2.out j; clear bB4_0 bB4_1 bB4_2 bB4_3 bB4_4 bB4_f; have bB4_0 := (blk_cell B4.out 0).trans (show _ = some (.int .i64 0) from rfl); have bB4_1 := (blk_cell B4.out 1).trans (show _ = some (.slice none 0 0) from rfl); have bB4_2 := (blk_cell B4.out 2).trans (show _ = some (.slice none 0 0) from rfl); have bB4_3 := (blk_cell B4.out 3).trans (show _ = some (.slice none 0 0) from rfl); have bB4_4 := (blk_cell B4.out 4).trans (show _ = some (.int .i64 0) from rfl); have bB4_f := fun j => blk_frozen B4.out j; clear x0 x1 x2; have x0 := (HB.out.cell (World.block_lt_of_cell? w _ Wx0.out)).trans Wx0.out; have x1 := (HB.out.cell (World.block_lt_of_cell? w _ Wx1.out)).trans Wx1.out; have x2 := (HB.out.cell (World.block_lt_of_cell? w _ Wx2.out)).trans Wx2.out) | ((with_reducible refine gate_dst (N := 14) rfl ?_); refine box_event ?hg (N := 14) ?hd (cs := #[.string ByteArray.empty, .slice none 0 0, .int .i64 0]) (t := 57) ?hr ?_; (case hd => rfl); (case hg => rfl); (case hr => first | (go_simp; done) | (go_simp; rfl)); intro g9 hg w3 hbox hb; have NE_g2_g9 : Aside0 (g2 ≠ g9) := ⟨by rw [hg]; exact Nat.ne_of_lt (blk_lt B2.out)⟩; have NE_g4_g9 : Aside0 (g4 ≠ g9) := ⟨by rw [hg]; exact Nat.ne_of_lt (blk_lt B4.out)⟩; have GE_g9 : Aside0 (w.heap.size ≤ g9) := ⟨by rw [hg]; exact below_size HB.out⟩; have n_B2 := Aside0.mk (blk_below B2.out hb); have n_B4 := Aside0.mk (blk_below B4.out hb); have n_HB := Aside0.mk (below_step HB.out hb); clear B2 B4 HB; have B2 := n_B2; have B4 := n_B4; have HB := n_HB; clear n_B2 n_B4 n_HB; have B9 := Aside0.mk hbox; clear hg hbox hb; have bB9_0 := (blk_cell B9.out 0).trans (show _ = some (.string ByteArray.empty) from rfl); have bB9_1 := (blk_cell B9.out 1).trans (show _ = some (.slice none 0 0) from rfl); have bB9_2 := (blk_cell B9.out 2).trans (show _ = some (.int .i64 0) from rfl); have bB9_f := fun j => blk_frozen B9.out j))
            clear bB2_0 bB2_1 bB2_2 bB2_3 bB2_4 bB2_f
            clear bB4_0 bB4_1 bB4_2 bB4_3 bB4_4 bB4_f
            clear bB9_0 bB9_1 bB9_2 bB9_f
            clear x0 x1 x2
            rename World => wz
            have s0 := blk_put (cs' := #[.string (str n), .slice none 0 0, .int .i64 0]) B9.out 0 (.string (str n)) rfl
            have h0 := below_set (j := 0) (v := .string (str n)) HB.out GE_g9.out
            have s1 := blk_put (cs' := #[.string (str n), .slice A1 f.b.length c1, .int .i64 0]) s0 1 (.slice A1 f.b.length c1) rfl
            have h1 := below_set (j := 1) (v := .slice A1 f.b.length c1) h0 GE_g9.out
            have s2 := blk_put (cs' := #[.string (str n), .slice A1 f.b.length c1, .int .i64 f.safe]) s1 2 (.int .i64 f.safe) rfl
            have h2 := below_set (j := 2) (v := .int .i64 f.safe) h1 GE_g9.out
            have hs : ∀ k, k ≠ g9 → (World.setCell (World.setCell (World.setCell wz ⟨g9, 0, none⟩ (.string (str n))) ⟨g9, 1, none⟩ (.slice A1 f.b.length c1)) ⟨g9, 2, none⟩ (.int .i64 f.safe)).heap[k]? = wz.heap[k]? := fun k hk => ((Below.heap_setCell (World.setCell (World.setCell wz ⟨g9, 0, none⟩ (.string (str n))) ⟨g9, 1, none⟩ (.slice A1 f.b.length c1)) ⟨g9, 2, none⟩ (.int .i64 f.safe) k hk).trans ((Below.heap_setCell (World.setCell wz ⟨g9, 0, none⟩ (.string (str n))) ⟨g9, 1, none⟩ (.slice A1 f.b.length c1) k hk).trans (Below.heap_setCell wz ⟨g9, 0, none⟩ (.string (str n)) k hk)))
            generalize (World.setCell (World.setCell (World.setCell wz ⟨g9, 0, none⟩ (.string (str n))) ⟨g9, 1, none⟩ (.slice A1 f.b.length c1)) ⟨g9, 2, none⟩ (.int .i64 f.safe)) = wa at s2 h2 hs ⊢
            have n_B2 := Aside0.mk ((hs g2 NE_g2_g9.out).trans B2.out); have n_B4 := Aside0.mk ((hs g4 NE_g4_g9.out).trans B4.out); have n_HB := Aside0.mk (h2); clear B2 B4 HB; have B2 := n_B2; have B4 := n_B4; have HB := n_HB; clear n_B2 n_B4 n_HB
            clear B9
            have B9 := Aside0.mk s2
            clear hs s0 s1 s2 h0 h1 h2
            have bB9_0 := (blk_cell B9.out 0).trans (show _ = some (.string (str n)) from rfl)
            have bB9_1 := (blk_cell B9.out 1).trans (show _ = some (.slice A1 f.b.length c1) from rfl)
            have bB9_2 := (blk_cell B9.out 2).trans (show _ = some (.int .i64 f.safe) from rfl)
            have bB9_f := fun j => blk_frozen B9.out j
            have HL9 : Aside0 (f.b.length ≤ 1000000000000 ∧ b.length ≤ 1000000 ∧ m ≤ b.length) := ⟨HLB.out, hbl, HML.out⟩
            go_upto_region 24 with (first | ((with_reducible refine gate_builtin (b := .append) (xs := #[.tmp 62, .tmp 64]) rfl ?_); at_builtin; (refine Kd.R_append_rows (Kd.int .u8) (w0 := w) w.heap.size rfl (.tmp 62) (.tmp 64) 30 5 (.int .u8 0) 1 rfl Try.underlying30 infoU8 rfl (by decide) (by decide) _ [] f.b _ _ _ (fun k => k ≠ g2 ∧ k ≠ g4 ∧ k ≠ g9) (fun _ => False) rfl rfl (Kd.R_nil _ _ _ _ _) (Kd.F_now (Kd.F_below HQF.out HB.out)) (fun _ _ h => h) (fun _ hk => hk.elim) (fun k hk => ⟨by have := blk_lt B2.out; omega, by have := blk_lt B4.out; omega, by have := blk_lt B9.out; omega⟩) HB.out (below_size HB.out) (by have h1 := HL9.out; (try simp only [List.length_nil]); omega) ?_); intro v1 w1 ho hb hg hat; have n_B2 := Aside0.mk ((hg.block g2 (blk_lt B2.out) (by intro e; cases e)).trans B2.out); have n_B4 := Aside0.mk ((hg.block g4 (blk_lt B4.out) (by intro e; cases e)).trans B4.out); have n_B9 := Aside0.mk ((hg.block g9 (blk_lt B9.out) (by intro e; cases e)).trans B9.out); have n_HB := Aside0.mk hb; clear HB B2 B4 B9; have HB := n_HB; have B2 := n_B2; have B4 := n_B4; have B9 := n_B9; clear n_HB n_B2 n_B4 n_B9; rw [List.nil_append] at ho; obtain ⟨A8, c8, hv8⟩ := R_form ho; subst hv8; have HRA := Aside0.mk ho; clear ho hb hg hat; clear bB9_0 bB9_1 bB9_2 bB9_f; have bB9_0 := (blk_cell B9.out 0).trans (show _ = some (.string (str n)) from rfl); have bB9_1 := (blk_cell B9.out 1).trans (show _ = some (.slice A1 f.b.length c1) from rfl); have bB9_2 := (blk_cell B9.out 2).trans (show _ = some (.int .i64 f.safe) from rfl); have bB9_f := fun j => blk_frozen B9.out j))
            have hcut : ∀ W : World, (Instr.slice 30 (.slice Ab b.length cb) none (some (.int .i64 (m : Int))) none).run Try.prog W = .ok (.slice Ab m cb) W := fun W => cut_h W Ab b.length cb (m) (Nat.le_trans HML.out HBC.out)
            go_upto_region 25 with (first | ((with_reducible refine gate_builtin (b := .append) (xs := #[.tmp 66, .tmp 69]) rfl ?_); at_builtin; (refine Kd.R_append_rows (Kd.int .u8) (w0 := w) w.heap.size rfl (.tmp 66) (.tmp 69) 30 5 (.int .u8 0) 1 rfl Try.underlying30 infoU8 rfl (by decide) (by decide) _ f.b (b.take m) _ _ _ (fun k => k ≠ g2 ∧ k ≠ g4 ∧ k ≠ g9) (fun _ => False) rfl rfl HRA.out (by have hq := Kd.C_take (Kd.C_below HFB.out HB.out) HML.out; rw [List.length_take, Nat.min_eq_left HML.out] at hq; exact hq) (fun _ _ h => h) (fun _ hk => hk.elim) (fun k hk => ⟨by have := blk_lt B2.out; omega, by have := blk_lt B4.out; omega, by have := blk_lt B9.out; omega⟩) HB.out (below_size HB.out) (by have h1 := HL9.out; (try simp only [List.length_nil]); omega) ?_); intro v1 w1 ho hb hg hat; have n_B2 := Aside0.mk ((hg.block g2 (blk_lt B2.out) (fun e => (HRA.out.1 g2 e.symm).1 rfl)).trans B2.out); have n_B4 := Aside0.mk ((hg.block g4 (blk_lt B4.out) (fun e => (HRA.out.1 g4 e.symm).2.1 rfl)).trans B4.out); have n_B9 := Aside0.mk ((hg.block g9 (blk_lt B9.out) (fun e => (HRA.out.1 g9 e.symm).2.2 rfl)).trans B9.out); have n_HB := Aside0.mk hb; clear HB B2 B4 B9; have HB := n_HB; have B2 := n_B2; have B4 := n_B4; have B9 := n_B9; clear n_HB n_B2 n_B4 n_B9; rw [HFBE.out] at ho; obtain ⟨A7, c7, hv7⟩ := R_form ho; subst hv7; clear HRA; have HRA := Aside0.mk ho; clear ho hb hg hat; clear bB9_0 bB9_1 bB9_2 bB9_f; have bB9_0 := (blk_cell B9.out 0).trans (show _ = some (.string (str n)) from rfl); have bB9_1 := (blk_cell B9.out 1).trans (show _ = some (.slice A1 f.b.length c1) from rfl); have bB9_2 := (blk_cell B9.out 2).trans (show _ = some (.int .i64 f.safe) from rfl); have bB9_f := fun j => blk_frozen B9.out j))
            clear bB9_0 bB9_1 bB9_2 bB9_f
            rename World => wz
            have s0 := blk_put (cs' := #[.string (str n), .slice A7 fb.length c7, .int .i64 f.safe]) B9.out 1 (.slice A7 fb.length c7) rfl
            have h0 := below_set (j := 1) (v := .slice A7 fb.length c7) HB.out GE_g9.out
            have hs : ∀ k, k ≠ g9 → (World.setCell wz ⟨g9, 1, none⟩ (.slice A7 fb.length c7)).heap[k]? = wz.heap[k]? := fun k hk => (Below.heap_setCell wz ⟨g9, 1, none⟩ (.slice A7 fb.length c7) k hk)
            generalize (World.setCell wz ⟨g9, 1, none⟩ (.slice A7 fb.length c7)) = wb at s0 h0 hs ⊢
            have n_B2 := Aside0.mk ((hs g2 NE_g2_g9.out).trans B2.out); have n_B4 := Aside0.mk ((hs g4 NE_g4_g9.out).trans B4.out); have n_HRA := Aside0.mk (Kd.R_move HRA.out (fun k hk => hs k hk.2.2)); have n_HB := Aside0.mk (h0); clear B2 B4 HRA HB; have B2 := n_B2; have B4 := n_B4; have HRA := n_HRA; have HB := n_HB; clear n_B2 n_B4 n_HRA n_HB
            clear B9
            have B9 := Aside0.mk s0
            clear hs s0 h0
            have bB2_0 := (blk_cell B2.out 0).trans (show _ = some (.int .i64 S.room) from rfl)
            have bB2_1 := (blk_cell B2.out 1).trans (show _ = some (.slice Af S.fails.length cf) from rfl)
            have bB2_2 := (blk_cell B2.out 2).trans (show _ = some (.slice Ap S.parts.length cp) from rfl)
            have bB2_3 := (blk_cell B2.out 3).trans (show _ = some (.slice (some ad) S.files.length c) from rfl)
            have bB2_4 := (blk_cell B2.out 4).trans (show _ = some (.int .i64 (S.calls + 1)) from rfl)
            have bB2_f := fun j => blk_frozen B2.out j
            have bB4_0 := (blk_cell B4.out 0).trans (show _ = some (.int .i64 0) from rfl)
            have bB4_1 := (blk_cell B4.out 1).trans (show _ = some (.slice none 0 0) from rfl)
            have bB4_2 := (blk_cell B4.out 2).trans (show _ = some (.slice none 0 0) from rfl)
            have bB4_3 := (blk_cell B4.out 3).trans (show _ = some (.slice none 0 0) from rfl)
            have bB4_4 := (blk_cell B4.out 4).trans (show _ = some (.int .i64 0) from rfl)
            have bB4_f := fun j => blk_frozen B4.out j
            have bB9_0 := (blk_cell B9.out 0).trans (show _ = some (.string (str n)) from rfl)
            have bB9_1 := (blk_cell B9.out 1).trans (show _ = some (.slice A7 fb.length c7) from rfl)
            have bB9_2 := (blk_cell B9.out 2).trans (show _ = some (.int .i64 f.safe) from rfl)
            have bB9_f := fun j => blk_frozen B9.out j
            go_wp2_with (first | (go_at_call 62; refine (with_doc (fun k => (P k ∧ k < w.heap.size) ∨ ((fun k => k ≠ g2 ∧ k ≠ g4 ∧ k ≠ g9) k ∧ w.heap.size ≤ k)) Af cf Ap cp (some ad) c (cnt S) n n ⟨fb, f.safe⟩ A7 c7 false _ ((HI.out.below HB.out).cnt.mono (fun k hk => .inl hk)) (Kd.F_mono (Kd.R_F (Kd.R_bound HRA.out)) (fun k hk => .inr ⟨hk.1, hk.2.1⟩)) (Kd.R_reads' HRA.out).2.1 HL2.out).mono ?_; rintro e w5 ⟨A9, c9, rfl, hd, hb⟩; replace hd := hd.mono (P' := fun k => (P k ∨ w.heap.size ≤ k) ∧ k ≠ g2 ∧ k ≠ g4 ∧ k ≠ g9) (fun k hk => ⟨hk.elim (fun hk => hk.elim (fun h => .inl h.1) (fun h => .inr h.2)) (fun h => .inr (Nat.le_trans (below_size HB.out) h)), (fun e => by subst e; have q1 := GE_g2.out; have q2 := blk_lt B2.out; rcases hk with hk | hk; (· rcases hk with hk | hk; (· omega); (· exact hk.1.1 rfl)); (· omega)), (fun e => by subst e; have q1 := GE_g4.out; have q2 := blk_lt B4.out; rcases hk with hk | hk; (· rcases hk with hk | hk; (· omega); (· exact hk.1.2.1 rfl)); (· omega)), (fun e => by subst e; have q1 := GE_g9.out; have q2 := blk_lt B9.out; rcases hk with hk | hk; (· rcases hk with hk | hk; (· omega); (· exact hk.1.2.2 rfl)); (· omega))⟩); have n_B2 := Aside0.mk (blk_below B2.out hb); have n_B4 := Aside0.mk (blk_below B4.out hb); have n_B9 := Aside0.mk (blk_below B9.out hb); have n_HB := Aside0.mk (below_step HB.out hb); clear B2 B4 B9 HB; have B2 := n_B2; have B4 := n_B4; have B9 := n_B9; have HB := n_HB; clear n_B2 n_B4 n_B9 n_HB; clear hb; clear bB2_0 bB2_1 bB2_2 bB2_3 bB2_4 bB2_f; have bB2_0 := (blk_cell B2.out 0).trans (show _ = some (.int .i64 S.room) from rfl); have bB2_1 := (blk_cell B2.out 1).trans (show _ = some (.slice Af S.fails.length cf) from rfl); have bB2_2 := (blk_cell B2.out 2).trans (show _ = some (.slice Ap S.parts.length cp) from rfl); have bB2_3 := (blk_cell B2.out 3).trans (show _ = some (.slice (some ad) S.files.length c) from rfl); have bB2_4 := (blk_cell B2.out 4).trans (show _ = some (.int .i64 (S.calls + 1)) from rfl); have bB2_f := fun j => blk_frozen B2.out j; clear bB4_0 bB4_1 bB4_2 bB4_3 bB4_4 bB4_f; have bB4_0 := (blk_cell B4.out 0).trans (show _ = some (.int .i64 0) from rfl); have bB4_1 := (blk_cell B4.out 1).trans (show _ = some (.slice none 0 0) from rfl); have bB4_2 := (blk_cell B4.out 2).trans (show _ = some (.slice none 0 0) from rfl); have bB4_3 := (blk_cell B4.out 3).trans (show _ = some (.slice none 0 0) from rfl); have bB4_4 := (blk_cell B4.out 4).trans (show _ = some (.int .i64 0) from rfl); have bB4_f := fun j => blk_frozen B4.out j; clear bB9_0 bB9_1 bB9_2 bB9_f; have bB9_0 := (blk_cell B9.out 0).trans (show _ = some (.string (str n)) from rfl); have bB9_1 := (blk_cell B9.out 1).trans (show _ = some (.slice A7 fb.length c7) from rfl); have bB9_2 := (blk_cell B9.out 2).trans (show _ = some (.int .i64 f.safe) from rfl); have bB9_f := fun j => blk_frozen B9.out j; rw [withR_false n ⟨fb, f.safe⟩ _ HRI.out] at hd ⊢; generalize hS9 : ({ cnt S with files := put n ⟨fb, f.safe⟩ (cnt S).files } : DA) = S9 at hd ⊢; have HS9 := Aside0.mk hS9; clear hS9; have HD := Aside0.mk hd; clear hd))
            clear bB2_0 bB2_1 bB2_2 bB2_3 bB2_4 bB2_f
            clear bB4_0 bB4_1 bB4_2 bB4_3 bB4_4 bB4_f
            clear bB9_0 bB9_1 bB9_2 bB9_f
            rename World => wy
            have s0 := blk_put (cs' := #[.int .i64 S9.room, .slice none 0 0, .slice none 0 0, .slice none 0 0, .int .i64 0]) B4.out 0 (.int .i64 S9.room) rfl
            have h0 := below_set (j := 0) (v := .int .i64 S9.room) HB.out GE_g4.out
            have s1 := blk_put (cs' := #[.int .i64 S9.room, .slice Af S9.fails.length cf, .slice none 0 0, .slice none 0 0, .int .i64 0]) s0 1 (.slice Af S9.fails.length cf) rfl
            have h1 := below_set (j := 1) (v := .slice Af S9.fails.length cf) h0 GE_g4.out
            have s2 := blk_put (cs' := #[.int .i64 S9.room, .slice Af S9.fails.length cf, .slice Ap S9.parts.length cp, .slice none 0 0, .int .i64 0]) s1 2 (.slice Ap S9.parts.length cp) rfl
            have h2 := below_set (j := 2) (v := .slice Ap S9.parts.length cp) h1 GE_g4.out
            have s3 := blk_put (cs' := #[.int .i64 S9.room, .slice Af S9.fails.length cf, .slice Ap S9.parts.length cp, .slice A9 S9.files.length c9, .int .i64 0]) s2 3 (.slice A9 S9.files.length c9) rfl
            have h3 := below_set (j := 3) (v := .slice A9 S9.files.length c9) h2 GE_g4.out
            have s4 := blk_put (cs' := #[.int .i64 S9.room, .slice Af S9.fails.length cf, .slice Ap S9.parts.length cp, .slice A9 S9.files.length c9, .int .i64 S9.calls]) s3 4 (.int .i64 S9.calls) rfl
            have h4 := below_set (j := 4) (v := .int .i64 S9.calls) h3 GE_g4.out
            have hs : ∀ k, k ≠ g4 → (World.setCell (World.setCell (World.setCell (World.setCell (World.setCell wy ⟨g4, 0, none⟩ (.int .i64 S9.room)) ⟨g4, 1, none⟩ (.slice Af S9.fails.length cf)) ⟨g4, 2, none⟩ (.slice Ap S9.parts.length cp)) ⟨g4, 3, none⟩ (.slice A9 S9.files.length c9)) ⟨g4, 4, none⟩ (.int .i64 S9.calls)).heap[k]? = wy.heap[k]? := fun k hk => ((Below.heap_setCell (World.setCell (World.setCell (World.setCell (World.setCell wy ⟨g4, 0, none⟩ (.int .i64 S9.room)) ⟨g4, 1, none⟩ (.slice Af S9.fails.length cf)) ⟨g4, 2, none⟩ (.slice Ap S9.parts.length cp)) ⟨g4, 3, none⟩ (.slice A9 S9.files.length c9)) ⟨g4, 4, none⟩ (.int .i64 S9.calls) k hk).trans ((Below.heap_setCell (World.setCell (World.setCell (World.setCell wy ⟨g4, 0, none⟩ (.int .i64 S9.room)) ⟨g4, 1, none⟩ (.slice Af S9.fails.length cf)) ⟨g4, 2, none⟩ (.slice Ap S9.parts.length cp)) ⟨g4, 3, none⟩ (.slice A9 S9.files.length c9) k hk).trans ((Below.heap_setCell (World.setCell (World.setCell wy ⟨g4, 0, none⟩ (.int .i64 S9.room)) ⟨g4, 1, none⟩ (.slice Af S9.fails.length cf)) ⟨g4, 2, none⟩ (.slice Ap S9.parts.length cp) k hk).trans ((Below.heap_setCell (World.setCell wy ⟨g4, 0, none⟩ (.int .i64 S9.room)) ⟨g4, 1, none⟩ (.slice Af S9.fails.length cf) k hk).trans (Below.heap_setCell wy ⟨g4, 0, none⟩ (.int .i64 S9.room) k hk)))))
            generalize (World.setCell (World.setCell (World.setCell (World.setCell (World.setCell wy ⟨g4, 0, none⟩ (.int .i64 S9.room)) ⟨g4, 1, none⟩ (.slice Af S9.fails.length cf)) ⟨g4, 2, none⟩ (.slice Ap S9.parts.length cp)) ⟨g4, 3, none⟩ (.slice A9 S9.files.length c9)) ⟨g4, 4, none⟩ (.int .i64 S9.calls)) = w9 at s4 h4 hs ⊢
            have n_B2 := Aside0.mk ((hs g2 NE_g2_g4.out).trans B2.out); have n_B9 := Aside0.mk ((hs g9 (fun e => NE_g4_g9.out e.symm)).trans B9.out); have n_HD := Aside0.mk (HD.out.step (fun k hk _ => hs k hk.2.2.1)); have n_HB := Aside0.mk (h4); clear B2 B9 HD HB; have B2 := n_B2; have B9 := n_B9; have HD := n_HD; have HB := n_HB; clear n_B2 n_B9 n_HD n_HB
            clear B4
            have B4 := Aside0.mk s4
            clear hs s0 s1 s2 s3 s4 h0 h1 h2 h3 h4
            refine bodyPost_ret (results_ct rfl _ _ g4 49 #[.int .i64 S9.room, .slice Af S9.fails.length cf, .slice Ap S9.parts.length cp, .slice A9 S9.files.length c9, .int .i64 S9.calls] (0, 0) _ rfl B4.out Try.underlying49 rfl (by kernel_rfl)) rfl ?_
            have e : r = (S9, 12) := by rw [← HR.out, ← HS9.out]; exact appendP_put HV.out hg2 HPT.out HRI2.out HAX.out HFBE.out
            rw [e]
            exact ⟨A9, c9, rfl, HD.out.mono (fun k hk => hk.1), HB.out⟩
        · by_cases h2 : lf < (b.length : Int)
          · obtain ⟨m, hm⟩ : ∃ m : Nat, lf = (m : Int) := ⟨lf.toNat, by omega⟩
            subst hm
            have HAX : Aside0 (appX S b pt true = (m, 12)) := ⟨by unfold appX; rw [HLE.out]; (first | rw [if_pos rfl] | rw [if_neg (by decide)]); (try rw [if_neg (by omega)]); (first | done | rfl | (congr 1; omega))⟩
            have HML : Aside0 (m ≤ b.length) := ⟨by omega⟩
            obtain ⟨fb, hfb⟩ : ∃ fb, f.b ++ b.take m = fb := ⟨_, rfl⟩
            have HFBE := Aside0.mk hfb
            clear hfb
            go_upto_region 22 with (first | (go_at_call 61; refine (refused_doc Af cf Ap cp (some ad) c (cnt S) _ ((HI.out.below HB.out).cnt) HFN.out).mono ?_; rw [HPT.out, HRF.out]; rintro e w5 ⟨rfl, hb⟩; have n_B2 := Aside0.mk (blk_below B2.out hb); have n_B4 := Aside0.mk (blk_below B4.out hb); have n_HB := Aside0.mk (below_step HB.out hb); clear B2 B4 HB; have B2 := n_B2; have B4 := n_B4; have HB := n_HB; clear n_B2 n_B4 n_HB; clear hb; clear bB2_0 bB2_1 bB2_2 bB2_3 bB2_4 bB2_f; have bB2_0 := (blk_cell B2.out 0).trans (show _ = some (.int .i64 S.room) from rfl); have bB2_1 := (blk_cell B2.out 1).trans (show _ = some (.slice Af S.fails.length cf) from rfl); have bB2_2 := (blk_cell B2.out 2).trans (show _ = some (.slice Ap S.parts.length cp) from rfl); have bB2_3 := (blk_cell B2.out 3).trans (show _ = some (.slice (some ad) S.files.length c) from rfl); have bB2_4 := (blk_cell B2.out 4).trans (show _ = some (.int .i64 (S.calls + 1)) from rfl); have bB2_f := fun j => blk_frozen B2.out j; clear bB4_0 bB4_1 bB4_2 bB4_3 bB4_4 bB4_f; have bB4_0 := (blk_cell B4.out 0).trans (show _ = some (.int .i64 0) from rfl); have bB4_1 := (blk_cell B4.out 1).trans (show _ = some (.slice none 0 0) from rfl); have bB4_2 := (blk_cell B4.out 2).trans (show _ = some (.slice none 0 0) from rfl); have bB4_3 := (blk_cell B4.out 3).trans (show _ = some (.slice none 0 0) from rfl); have bB4_4 := (blk_cell B4.out 4).trans (show _ = some (.int .i64 0) from rfl); have bB4_f := fun j => blk_frozen B4.out j; clear x0 x1 x2; have x0 := (HB.out.cell (World.block_lt_of_cell? w _ Wx0.out)).trans Wx0.out; have x1 := (HB.out.cell (World.block_lt_of_cell? w _ Wx1.out)).trans Wx1.out; have x2 := (HB.out.cell (World.block_lt_of_cell? w _ Wx2.out)).trans Wx2.out) | ((with_reducible refine gate_dst (N := 14) rfl ?_); refine box_event ?hg (N := 14) ?hd (cs := #[.string ByteArray.empty, .slice none 0 0, .int .i64 0]) (t := 57) ?hr ?_; (case hd => rfl); (case hg => rfl); (case hr => first | (go_simp; done) | (go_simp; rfl)); intro g9 hg w3 hbox hb; have NE_g2_g9 : Aside0 (g2 ≠ g9) := ⟨by rw [hg]; exact Nat.ne_of_lt (blk_lt B2.out)⟩; have NE_g4_g9 : Aside0 (g4 ≠ g9) := ⟨by rw [hg]; exact Nat.ne_of_lt (blk_lt B4.out)⟩; have GE_g9 : Aside0 (w.heap.size ≤ g9) := ⟨by rw [hg]; exact below_size HB.out⟩; have n_B2 := Aside0.mk (blk_below B2.out hb); have n_B4 := Aside0.mk (blk_below B4.out hb); have n_HB := Aside0.mk (below_step HB.out hb); clear B2 B4 HB; have B2 := n_B2; have B4 := n_B4; have HB := n_HB; clear n_B2 n_B4 n_HB; have B9 := Aside0.mk hbox; clear hg hbox hb; have bB9_0 := (blk_cell B9.out 0).trans (show _ = some (.string ByteArray.empty) from rfl); have bB9_1 := (blk_cell B9.out 1).trans (show _ = some (.slice none 0 0) from rfl); have bB9_2 := (blk_cell B9.out 2).trans (show _ = some (.int .i64 0) from rfl); have bB9_f := fun j => blk_frozen B9.out j))
            clear bB2_0 bB2_1 bB2_2 bB2_3 bB2_4 bB2_f
            clear bB4_0 bB4_1 bB4_2 bB4_3 bB4_4 bB4_f
            clear bB9_0 bB9_1 bB9_2 bB9_f
            clear x0 x1 x2
            rename World => wz
            have s0 := blk_put (cs' := #[.string (str n), .slice none 0 0, .int .i64 0]) B9.out 0 (.string (str n)) rfl
            have h0 := below_set (j := 0) (v := .string (str n)) HB.out GE_g9.out
            have s1 := blk_put (cs' := #[.string (str n), .slice A1 f.b.length c1, .int .i64 0]) s0 1 (.slice A1 f.b.length c1) rfl
            have h1 := below_set (j := 1) (v := .slice A1 f.b.length c1) h0 GE_g9.out
            have s2 := blk_put (cs' := #[.string (str n), .slice A1 f.b.length c1, .int .i64 f.safe]) s1 2 (.int .i64 f.safe) rfl
            have h2 := below_set (j := 2) (v := .int .i64 f.safe) h1 GE_g9.out
            have hs : ∀ k, k ≠ g9 → (World.setCell (World.setCell (World.setCell wz ⟨g9, 0, none⟩ (.string (str n))) ⟨g9, 1, none⟩ (.slice A1 f.b.length c1)) ⟨g9, 2, none⟩ (.int .i64 f.safe)).heap[k]? = wz.heap[k]? := fun k hk => ((Below.heap_setCell (World.setCell (World.setCell wz ⟨g9, 0, none⟩ (.string (str n))) ⟨g9, 1, none⟩ (.slice A1 f.b.length c1)) ⟨g9, 2, none⟩ (.int .i64 f.safe) k hk).trans ((Below.heap_setCell (World.setCell wz ⟨g9, 0, none⟩ (.string (str n))) ⟨g9, 1, none⟩ (.slice A1 f.b.length c1) k hk).trans (Below.heap_setCell wz ⟨g9, 0, none⟩ (.string (str n)) k hk)))
            generalize (World.setCell (World.setCell (World.setCell wz ⟨g9, 0, none⟩ (.string (str n))) ⟨g9, 1, none⟩ (.slice A1 f.b.length c1)) ⟨g9, 2, none⟩ (.int .i64 f.safe)) = wa at s2 h2 hs ⊢
            have n_B2 := Aside0.mk ((hs g2 NE_g2_g9.out).trans B2.out); have n_B4 := Aside0.mk ((hs g4 NE_g4_g9.out).trans B4.out); have n_HB := Aside0.mk (h2); clear B2 B4 HB; have B2 := n_B2; have B4 := n_B4; have HB := n_HB; clear n_B2 n_B4 n_HB
            clear B9
            have B9 := Aside0.mk s2
            clear hs s0 s1 s2 h0 h1 h2
            have bB9_0 := (blk_cell B9.out 0).trans (show _ = some (.string (str n)) from rfl)
            have bB9_1 := (blk_cell B9.out 1).trans (show _ = some (.slice A1 f.b.length c1) from rfl)
            have bB9_2 := (blk_cell B9.out 2).trans (show _ = some (.int .i64 f.safe) from rfl)
            have bB9_f := fun j => blk_frozen B9.out j
            have HL9 : Aside0 (f.b.length ≤ 1000000000000 ∧ b.length ≤ 1000000 ∧ m ≤ b.length) := ⟨HLB.out, hbl, HML.out⟩
            go_upto_region 24 with (first | ((with_reducible refine gate_builtin (b := .append) (xs := #[.tmp 62, .tmp 64]) rfl ?_); at_builtin; (refine Kd.R_append_rows (Kd.int .u8) (w0 := w) w.heap.size rfl (.tmp 62) (.tmp 64) 30 5 (.int .u8 0) 1 rfl Try.underlying30 infoU8 rfl (by decide) (by decide) _ [] f.b _ _ _ (fun k => k ≠ g2 ∧ k ≠ g4 ∧ k ≠ g9) (fun _ => False) rfl rfl (Kd.R_nil _ _ _ _ _) (Kd.F_now (Kd.F_below HQF.out HB.out)) (fun _ _ h => h) (fun _ hk => hk.elim) (fun k hk => ⟨by have := blk_lt B2.out; omega, by have := blk_lt B4.out; omega, by have := blk_lt B9.out; omega⟩) HB.out (below_size HB.out) (by have h1 := HL9.out; (try simp only [List.length_nil]); omega) ?_); intro v1 w1 ho hb hg hat; have n_B2 := Aside0.mk ((hg.block g2 (blk_lt B2.out) (by intro e; cases e)).trans B2.out); have n_B4 := Aside0.mk ((hg.block g4 (blk_lt B4.out) (by intro e; cases e)).trans B4.out); have n_B9 := Aside0.mk ((hg.block g9 (blk_lt B9.out) (by intro e; cases e)).trans B9.out); have n_HB := Aside0.mk hb; clear HB B2 B4 B9; have HB := n_HB; have B2 := n_B2; have B4 := n_B4; have B9 := n_B9; clear n_HB n_B2 n_B4 n_B9; rw [List.nil_append] at ho; obtain ⟨A8, c8, hv8⟩ := R_form ho; subst hv8; have HRA := Aside0.mk ho; clear ho hb hg hat; clear bB9_0 bB9_1 bB9_2 bB9_f; have bB9_0 := (blk_cell B9.out 0).trans (show _ = some (.string (str n)) from rfl); have bB9_1 := (blk_cell B9.out 1).trans (show _ = some (.slice A1 f.b.length c1) from rfl); have bB9_2 := (blk_cell B9.out 2).trans (show _ = some (.int .i64 f.safe) from rfl); have bB9_f := fun j => blk_frozen B9.out j))
            have hcut : ∀ W : World, (Instr.slice 30 (.slice Ab b.length cb) none (some (.int .i64 (m : Int))) none).run Try.prog W = .ok (.slice Ab m cb) W := fun W => cut_h W Ab b.length cb (m) (Nat.le_trans HML.out HBC.out)
            go_upto_region 25 with (first | ((with_reducible refine gate_builtin (b := .append) (xs := #[.tmp 66, .tmp 69]) rfl ?_); at_builtin; (refine Kd.R_append_rows (Kd.int .u8) (w0 := w) w.heap.size rfl (.tmp 66) (.tmp 69) 30 5 (.int .u8 0) 1 rfl Try.underlying30 infoU8 rfl (by decide) (by decide) _ f.b (b.take m) _ _ _ (fun k => k ≠ g2 ∧ k ≠ g4 ∧ k ≠ g9) (fun _ => False) rfl rfl HRA.out (by have hq := Kd.C_take (Kd.C_below HFB.out HB.out) HML.out; rw [List.length_take, Nat.min_eq_left HML.out] at hq; exact hq) (fun _ _ h => h) (fun _ hk => hk.elim) (fun k hk => ⟨by have := blk_lt B2.out; omega, by have := blk_lt B4.out; omega, by have := blk_lt B9.out; omega⟩) HB.out (below_size HB.out) (by have h1 := HL9.out; (try simp only [List.length_nil]); omega) ?_); intro v1 w1 ho hb hg hat; have n_B2 := Aside0.mk ((hg.block g2 (blk_lt B2.out) (fun e => (HRA.out.1 g2 e.symm).1 rfl)).trans B2.out); have n_B4 := Aside0.mk ((hg.block g4 (blk_lt B4.out) (fun e => (HRA.out.1 g4 e.symm).2.1 rfl)).trans B4.out); have n_B9 := Aside0.mk ((hg.block g9 (blk_lt B9.out) (fun e => (HRA.out.1 g9 e.symm).2.2 rfl)).trans B9.out); have n_HB := Aside0.mk hb; clear HB B2 B4 B9; have HB := n_HB; have B2 := n_B2; have B4 := n_B4; have B9 := n_B9; clear n_HB n_B2 n_B4 n_B9; rw [HFBE.out] at ho; obtain ⟨A7, c7, hv7⟩ := R_form ho; subst hv7; clear HRA; have HRA := Aside0.mk ho; clear ho hb hg hat; clear bB9_0 bB9_1 bB9_2 bB9_f; have bB9_0 := (blk_cell B9.out 0).trans (show _ = some (.string (str n)) from rfl); have bB9_1 := (blk_cell B9.out 1).trans (show _ = some (.slice A1 f.b.length c1) from rfl); have bB9_2 := (blk_cell B9.out 2).trans (show _ = some (.int .i64 f.safe) from rfl); have bB9_f := fun j => blk_frozen B9.out j))
            clear bB9_0 bB9_1 bB9_2 bB9_f
            rename World => wz
            have s0 := blk_put (cs' := #[.string (str n), .slice A7 fb.length c7, .int .i64 f.safe]) B9.out 1 (.slice A7 fb.length c7) rfl
            have h0 := below_set (j := 1) (v := .slice A7 fb.length c7) HB.out GE_g9.out
            have hs : ∀ k, k ≠ g9 → (World.setCell wz ⟨g9, 1, none⟩ (.slice A7 fb.length c7)).heap[k]? = wz.heap[k]? := fun k hk => (Below.heap_setCell wz ⟨g9, 1, none⟩ (.slice A7 fb.length c7) k hk)
            generalize (World.setCell wz ⟨g9, 1, none⟩ (.slice A7 fb.length c7)) = wb at s0 h0 hs ⊢
            have n_B2 := Aside0.mk ((hs g2 NE_g2_g9.out).trans B2.out); have n_B4 := Aside0.mk ((hs g4 NE_g4_g9.out).trans B4.out); have n_HRA := Aside0.mk (Kd.R_move HRA.out (fun k hk => hs k hk.2.2)); have n_HB := Aside0.mk (h0); clear B2 B4 HRA HB; have B2 := n_B2; have B4 := n_B4; have HRA := n_HRA; have HB := n_HB; clear n_B2 n_B4 n_HRA n_HB
            clear B9
            have B9 := Aside0.mk s0
            clear hs s0 h0
            have bB2_0 := (blk_cell B2.out 0).trans (show _ = some (.int .i64 S.room) from rfl)
            have bB2_1 := (blk_cell B2.out 1).trans (show _ = some (.slice Af S.fails.length cf) from rfl)
            have bB2_2 := (blk_cell B2.out 2).trans (show _ = some (.slice Ap S.parts.length cp) from rfl)
            have bB2_3 := (blk_cell B2.out 3).trans (show _ = some (.slice (some ad) S.files.length c) from rfl)
            have bB2_4 := (blk_cell B2.out 4).trans (show _ = some (.int .i64 (S.calls + 1)) from rfl)
            have bB2_f := fun j => blk_frozen B2.out j
            have bB4_0 := (blk_cell B4.out 0).trans (show _ = some (.int .i64 0) from rfl)
            have bB4_1 := (blk_cell B4.out 1).trans (show _ = some (.slice none 0 0) from rfl)
            have bB4_2 := (blk_cell B4.out 2).trans (show _ = some (.slice none 0 0) from rfl)
            have bB4_3 := (blk_cell B4.out 3).trans (show _ = some (.slice none 0 0) from rfl)
            have bB4_4 := (blk_cell B4.out 4).trans (show _ = some (.int .i64 0) from rfl)
            have bB4_f := fun j => blk_frozen B4.out j
            have bB9_0 := (blk_cell B9.out 0).trans (show _ = some (.string (str n)) from rfl)
            have bB9_1 := (blk_cell B9.out 1).trans (show _ = some (.slice A7 fb.length c7) from rfl)
            have bB9_2 := (blk_cell B9.out 2).trans (show _ = some (.int .i64 f.safe) from rfl)
            have bB9_f := fun j => blk_frozen B9.out j
            go_wp2_with (first | (go_at_call 62; refine (with_doc (fun k => (P k ∧ k < w.heap.size) ∨ ((fun k => k ≠ g2 ∧ k ≠ g4 ∧ k ≠ g9) k ∧ w.heap.size ≤ k)) Af cf Ap cp (some ad) c (cnt S) n n ⟨fb, f.safe⟩ A7 c7 false _ ((HI.out.below HB.out).cnt.mono (fun k hk => .inl hk)) (Kd.F_mono (Kd.R_F (Kd.R_bound HRA.out)) (fun k hk => .inr ⟨hk.1, hk.2.1⟩)) (Kd.R_reads' HRA.out).2.1 HL2.out).mono ?_; rintro e w5 ⟨A9, c9, rfl, hd, hb⟩; replace hd := hd.mono (P' := fun k => (P k ∨ w.heap.size ≤ k) ∧ k ≠ g2 ∧ k ≠ g4 ∧ k ≠ g9) (fun k hk => ⟨hk.elim (fun hk => hk.elim (fun h => .inl h.1) (fun h => .inr h.2)) (fun h => .inr (Nat.le_trans (below_size HB.out) h)), (fun e => by subst e; have q1 := GE_g2.out; have q2 := blk_lt B2.out; rcases hk with hk | hk; (· rcases hk with hk | hk; (· omega); (· exact hk.1.1 rfl)); (· omega)), (fun e => by subst e; have q1 := GE_g4.out; have q2 := blk_lt B4.out; rcases hk with hk | hk; (· rcases hk with hk | hk; (· omega); (· exact hk.1.2.1 rfl)); (· omega)), (fun e => by subst e; have q1 := GE_g9.out; have q2 := blk_lt B9.out; rcases hk with hk | hk; (· rcases hk with hk | hk; (· omega); (· exact hk.1.2.2 rfl)); (· omega))⟩); have n_B2 := Aside0.mk (blk_below B2.out hb); have n_B4 := Aside0.mk (blk_below B4.out hb); have n_B9 := Aside0.mk (blk_below B9.out hb); have n_HB := Aside0.mk (below_step HB.out hb); clear B2 B4 B9 HB; have B2 := n_B2; have B4 := n_B4; have B9 := n_B9; have HB := n_HB; clear n_B2 n_B4 n_B9 n_HB; clear hb; clear bB2_0 bB2_1 bB2_2 bB2_3 bB2_4 bB2_f; have bB2_0 := (blk_cell B2.out 0).trans (show _ = some (.int .i64 S.room) from rfl); have bB2_1 := (blk_cell B2.out 1).trans (show _ = some (.slice Af S.fails.length cf) from rfl); have bB2_2 := (blk_cell B2.out 2).trans (show _ = some (.slice Ap S.parts.length cp) from rfl); have bB2_3 := (blk_cell B2.out 3).trans (show _ = some (.slice (some ad) S.files.length c) from rfl); have bB2_4 := (blk_cell B2.out 4).trans (show _ = some (.int .i64 (S.calls + 1)) from rfl); have bB2_f := fun j => blk_frozen B2.out j; clear bB4_0 bB4_1 bB4_2 bB4_3 bB4_4 bB4_f; have bB4_0 := (blk_cell B4.out 0).trans (show _ = some (.int .i64 0) from rfl); have bB4_1 := (blk_cell B4.out 1).trans (show _ = some (.slice none 0 0) from rfl); have bB4_2 := (blk_cell B4.out 2).trans (show _ = some (.slice none 0 0) from rfl); have bB4_3 := (blk_cell B4.out 3).trans (show _ = some (.slice none 0 0) from rfl); have bB4_4 := (blk_cell B4.out 4).trans (show _ = some (.int .i64 0) from rfl); have bB4_f := fun j => blk_frozen B4.out j; clear bB9_0 bB9_1 bB9_2 bB9_f; have bB9_0 := (blk_cell B9.out 0).trans (show _ = some (.string (str n)) from rfl); have bB9_1 := (blk_cell B9.out 1).trans (show _ = some (.slice A7 fb.length c7) from rfl); have bB9_2 := (blk_cell B9.out 2).trans (show _ = some (.int .i64 f.safe) from rfl); have bB9_f := fun j => blk_frozen B9.out j; rw [withR_false n ⟨fb, f.safe⟩ _ HRI.out] at hd ⊢; generalize hS9 : ({ cnt S with files := put n ⟨fb, f.safe⟩ (cnt S).files } : DA) = S9 at hd ⊢; have HS9 := Aside0.mk hS9; clear hS9; have HD := Aside0.mk hd; clear hd))
            clear bB2_0 bB2_1 bB2_2 bB2_3 bB2_4 bB2_f
            clear bB4_0 bB4_1 bB4_2 bB4_3 bB4_4 bB4_f
            clear bB9_0 bB9_1 bB9_2 bB9_f
            rename World => wy
            have s0 := blk_put (cs' := #[.int .i64 S9.room, .slice none 0 0, .slice none 0 0, .slice none 0 0, .int .i64 0]) B4.out 0 (.int .i64 S9.room) rfl
            have h0 := below_set (j := 0) (v := .int .i64 S9.room) HB.out GE_g4.out
            have s1 := blk_put (cs' := #[.int .i64 S9.room, .slice Af S9.fails.length cf, .slice none 0 0, .slice none 0 0, .int .i64 0]) s0 1 (.slice Af S9.fails.length cf) rfl
            have h1 := below_set (j := 1) (v := .slice Af S9.fails.length cf) h0 GE_g4.out
            have s2 := blk_put (cs' := #[.int .i64 S9.room, .slice Af S9.fails.length cf, .slice Ap S9.parts.length cp, .slice none 0 0, .int .i64 0]) s1 2 (.slice Ap S9.parts.length cp) rfl
            have h2 := below_set (j := 2) (v := .slice Ap S9.parts.length cp) h1 GE_g4.out
            have s3 := blk_put (cs' := #[.int .i64 S9.room, .slice Af S9.fails.length cf, .slice Ap S9.parts.length cp, .slice A9 S9.files.length c9, .int .i64 0]) s2 3 (.slice A9 S9.files.length c9) rfl
            have h3 := below_set (j := 3) (v := .slice A9 S9.files.length c9) h2 GE_g4.out
            have s4 := blk_put (cs' := #[.int .i64 S9.room, .slice Af S9.fails.length cf, .slice Ap S9.parts.length cp, .slice A9 S9.files.length c9, .int .i64 S9.calls]) s3 4 (.int .i64 S9.calls) rfl
            have h4 := below_set (j := 4) (v := .int .i64 S9.calls) h3 GE_g4.out
            have hs : ∀ k, k ≠ g4 → (World.setCell (World.setCell (World.setCell (World.setCell (World.setCell wy ⟨g4, 0, none⟩ (.int .i64 S9.room)) ⟨g4, 1, none⟩ (.slice Af S9.fails.length cf)) ⟨g4, 2, none⟩ (.slice Ap S9.parts.length cp)) ⟨g4, 3, none⟩ (.slice A9 S9.files.length c9)) ⟨g4, 4, none⟩ (.int .i64 S9.calls)).heap[k]? = wy.heap[k]? := fun k hk => ((Below.heap_setCell (World.setCell (World.setCell (World.setCell (World.setCell wy ⟨g4, 0, none⟩ (.int .i64 S9.room)) ⟨g4, 1, none⟩ (.slice Af S9.fails.length cf)) ⟨g4, 2, none⟩ (.slice Ap S9.parts.length cp)) ⟨g4, 3, none⟩ (.slice A9 S9.files.length c9)) ⟨g4, 4, none⟩ (.int .i64 S9.calls) k hk).trans ((Below.heap_setCell (World.setCell (World.setCell (World.setCell wy ⟨g4, 0, none⟩ (.int .i64 S9.room)) ⟨g4, 1, none⟩ (.slice Af S9.fails.length cf)) ⟨g4, 2, none⟩ (.slice Ap S9.parts.length cp)) ⟨g4, 3, none⟩ (.slice A9 S9.files.length c9) k hk).trans ((Below.heap_setCell (World.setCell (World.setCell wy ⟨g4, 0, none⟩ (.int .i64 S9.room)) ⟨g4, 1, none⟩ (.slice Af S9.fails.length cf)) ⟨g4, 2, none⟩ (.slice Ap S9.parts.length cp) k hk).trans ((Below.heap_setCell (World.setCell wy ⟨g4, 0, none⟩ (.int .i64 S9.room)) ⟨g4, 1, none⟩ (.slice Af S9.fails.length cf) k hk).trans (Below.heap_setCell wy ⟨g4, 0, none⟩ (.int .i64 S9.room) k hk)))))
            generalize (World.setCell (World.setCell (World.setCell (World.setCell (World.setCell wy ⟨g4, 0, none⟩ (.int .i64 S9.room)) ⟨g4, 1, none⟩ (.slice Af S9.fails.length cf)) ⟨g4, 2, none⟩ (.slice Ap S9.parts.length cp)) ⟨g4, 3, none⟩ (.slice A9 S9.files.length c9)) ⟨g4, 4, none⟩ (.int .i64 S9.calls)) = w9 at s4 h4 hs ⊢
            have n_B2 := Aside0.mk ((hs g2 NE_g2_g4.out).trans B2.out); have n_B9 := Aside0.mk ((hs g9 (fun e => NE_g4_g9.out e.symm)).trans B9.out); have n_HD := Aside0.mk (HD.out.step (fun k hk _ => hs k hk.2.2.1)); have n_HB := Aside0.mk (h4); clear B2 B9 HD HB; have B2 := n_B2; have B9 := n_B9; have HD := n_HD; have HB := n_HB; clear n_B2 n_B9 n_HD n_HB
            clear B4
            have B4 := Aside0.mk s4
            clear hs s0 s1 s2 s3 s4 h0 h1 h2 h3 h4
            refine bodyPost_ret (results_ct rfl _ _ g4 49 #[.int .i64 S9.room, .slice Af S9.fails.length cf, .slice Ap S9.parts.length cp, .slice A9 S9.files.length c9, .int .i64 S9.calls] (0, 0) _ rfl B4.out Try.underlying49 rfl (by kernel_rfl)) rfl ?_
            have e : r = (S9, 12) := by rw [← HR.out, ← HS9.out]; exact appendP_put HV.out hg2 HPT.out HRI2.out HAX.out HFBE.out
            rw [e]
            exact ⟨A9, c9, rfl, HD.out.mono (fun k hk => hk.1), HB.out⟩
          · have HAX : Aside0 (appX S b pt true = (b.length, 12)) := ⟨by unfold appX; rw [HLE.out]; (first | rw [if_pos rfl] | rw [if_neg (by decide)]); (try rw [if_neg (by omega)]); (first | done | rfl | (congr 1; omega))⟩
            have HML : Aside0 (b.length ≤ b.length) := ⟨by omega⟩
            obtain ⟨fb, hfb⟩ : ∃ fb, f.b ++ b.take b.length = fb := ⟨_, rfl⟩
            have HFBE := Aside0.mk hfb
            clear hfb
            go_upto_region 22 with (first | (go_at_call 61; refine (refused_doc Af cf Ap cp (some ad) c (cnt S) _ ((HI.out.below HB.out).cnt) HFN.out).mono ?_; rw [HPT.out, HRF.out]; rintro e w5 ⟨rfl, hb⟩; have n_B2 := Aside0.mk (blk_below B2.out hb); have n_B4 := Aside0.mk (blk_below B4.out hb); have n_HB := Aside0.mk (below_step HB.out hb); clear B2 B4 HB; have B2 := n_B2; have B4 := n_B4; have HB := n_HB; clear n_B2 n_B4 n_HB; clear hb; clear bB2_0 bB2_1 bB2_2 bB2_3 bB2_4 bB2_f; have bB2_0 := (blk_cell B2.out 0).trans (show _ = some (.int .i64 S.room) from rfl); have bB2_1 := (blk_cell B2.out 1).trans (show _ = some (.slice Af S.fails.length cf) from rfl); have bB2_2 := (blk_cell B2.out 2).trans (show _ = some (.slice Ap S.parts.length cp) from rfl); have bB2_3 := (blk_cell B2.out 3).trans (show _ = some (.slice (some ad) S.files.length c) from rfl); have bB2_4 := (blk_cell B2.out 4).trans (show _ = some (.int .i64 (S.calls + 1)) from rfl); have bB2_f := fun j => blk_frozen B2.out j; clear bB4_0 bB4_1 bB4_2 bB4_3 bB4_4 bB4_f; have bB4_0 := (blk_cell B4.out 0).trans (show _ = some (.int .i64 0) from rfl); have bB4_1 := (blk_cell B4.out 1).trans (show _ = some (.slice none 0 0) from rfl); have bB4_2 := (blk_cell B4.out 2).trans (show _ = some (.slice none 0 0) from rfl); have bB4_3 := (blk_cell B4.out 3).trans (show _ = some (.slice none 0 0) from rfl); have bB4_4 := (blk_cell B4.out 4).trans (show _ = some (.int .i64 0) from rfl); have bB4_f := fun j => blk_frozen B4.out j; clear x0 x1 x2; have x0 := (HB.out.cell (World.block_lt_of_cell? w _ Wx0.out)).trans Wx0.out; have x1 := (HB.out.cell (World.block_lt_of_cell? w _ Wx1.out)).trans Wx1.out; have x2 := (HB.out.cell (World.block_lt_of_cell? w _ Wx2.out)).trans Wx2.out) | ((with_reducible refine gate_dst (N := 14) rfl ?_); refine box_event ?hg (N := 14) ?hd (cs := #[.string ByteArray.empty, .slice none 0 0, .int .i64 0]) (t := 57) ?hr ?_; (case hd => rfl); (case hg => rfl); (case hr => first | (go_simp; done) | (go_simp; rfl)); intro g9 hg w3 hbox hb; have NE_g2_g9 : Aside0 (g2 ≠ g9) := ⟨by rw [hg]; exact Nat.ne_of_lt (blk_lt B2.out)⟩; have NE_g4_g9 : Aside0 (g4 ≠ g9) := ⟨by rw [hg]; exact Nat.ne_of_lt (blk_lt B4.out)⟩; have GE_g9 : Aside0 (w.heap.size ≤ g9) := ⟨by rw [hg]; exact below_size HB.out⟩; have n_B2 := Aside0.mk (blk_below B2.out hb); have n_B4 := Aside0.mk (blk_below B4.out hb); have n_HB := Aside0.mk (below_step HB.out hb); clear B2 B4 HB; have B2 := n_B2; have B4 := n_B4; have HB := n_HB; clear n_B2 n_B4 n_HB; have B9 := Aside0.mk hbox; clear hg hbox hb; have bB9_0 := (blk_cell B9.out 0).trans (show _ = some (.string ByteArray.empty) from rfl); have bB9_1 := (blk_cell B9.out 1).trans (show _ = some (.slice none 0 0) from rfl); have bB9_2 := (blk_cell B9.out 2).trans (show _ = some (.int .i64 0) from rfl); have bB9_f := fun j => blk_frozen B9.out j))
            clear bB2_0 bB2_1 bB2_2 bB2_3 bB2_4 bB2_f
            clear bB4_0 bB4_1 bB4_2 bB4_3 bB4_4 bB4_f
            clear bB9_0 bB9_1 bB9_2 bB9_f
            clear x0 x1 x2
            rename World => wz
            have s0 := blk_put (cs' := #[.string (str n), .slice none 0 0, .int .i64 0]) B9.out 0 (.string (str n)) rfl
            have h0 := below_set (j := 0) (v := .string (str n)) HB.out GE_g9.out
            have s1 := blk_put (cs' := #[.string (str n), .slice A1 f.b.length c1, .int .i64 0]) s0 1 (.slice A1 f.b.length c1) rfl
            have h1 := below_set (j := 1) (v := .slice A1 f.b.length c1) h0 GE_g9.out
            have s2 := blk_put (cs' := #[.string (str n), .slice A1 f.b.length c1, .int .i64 f.safe]) s1 2 (.int .i64 f.safe) rfl
            have h2 := below_set (j := 2) (v := .int .i64 f.safe) h1 GE_g9.out
            have hs : ∀ k, k ≠ g9 → (World.setCell (World.setCell (World.setCell wz ⟨g9, 0, none⟩ (.string (str n))) ⟨g9, 1, none⟩ (.slice A1 f.b.length c1)) ⟨g9, 2, none⟩ (.int .i64 f.safe)).heap[k]? = wz.heap[k]? := fun k hk => ((Below.heap_setCell (World.setCell (World.setCell wz ⟨g9, 0, none⟩ (.string (str n))) ⟨g9, 1, none⟩ (.slice A1 f.b.length c1)) ⟨g9, 2, none⟩ (.int .i64 f.safe) k hk).trans ((Below.heap_setCell (World.setCell wz ⟨g9, 0, none⟩ (.string (str n))) ⟨g9, 1, none⟩ (.slice A1 f.b.length c1) k hk).trans (Below.heap_setCell wz ⟨g9, 0, none⟩ (.string (str n)) k hk)))
            generalize (World.setCell (World.setCell (World.setCell wz ⟨g9, 0, none⟩ (.string (str n))) ⟨g9, 1, none⟩ (.slice A1 f.b.length c1)) ⟨g9, 2, none⟩ (.int .i64 f.safe)) = wa at s2 h2 hs ⊢
            have n_B2 := Aside0.mk ((hs g2 NE_g2_g9.out).trans B2.out); have n_B4 := Aside0.mk ((hs g4 NE_g4_g9.out).trans B4.out); have n_HB := Aside0.mk (h2); clear B2 B4 HB; have B2 := n_B2; have B4 := n_B4; have HB := n_HB; clear n_B2 n_B4 n_HB
            clear B9
            have B9 := Aside0.mk s2
            clear hs s0 s1 s2 h0 h1 h2
            have bB9_0 := (blk_cell B9.out 0).trans (show _ = some (.string (str n)) from rfl)
            have bB9_1 := (blk_cell B9.out 1).trans (show _ = some (.slice A1 f.b.length c1) from rfl)
            have bB9_2 := (blk_cell B9.out 2).trans (show _ = some (.int .i64 f.safe) from rfl)
            have bB9_f := fun j => blk_frozen B9.out j
            have HL9 : Aside0 (f.b.length ≤ 1000000000000 ∧ b.length ≤ 1000000 ∧ b.length ≤ b.length) := ⟨HLB.out, hbl, HML.out⟩
            go_upto_region 24 with (first | ((with_reducible refine gate_builtin (b := .append) (xs := #[.tmp 62, .tmp 64]) rfl ?_); at_builtin; (refine Kd.R_append_rows (Kd.int .u8) (w0 := w) w.heap.size rfl (.tmp 62) (.tmp 64) 30 5 (.int .u8 0) 1 rfl Try.underlying30 infoU8 rfl (by decide) (by decide) _ [] f.b _ _ _ (fun k => k ≠ g2 ∧ k ≠ g4 ∧ k ≠ g9) (fun _ => False) rfl rfl (Kd.R_nil _ _ _ _ _) (Kd.F_now (Kd.F_below HQF.out HB.out)) (fun _ _ h => h) (fun _ hk => hk.elim) (fun k hk => ⟨by have := blk_lt B2.out; omega, by have := blk_lt B4.out; omega, by have := blk_lt B9.out; omega⟩) HB.out (below_size HB.out) (by have h1 := HL9.out; (try simp only [List.length_nil]); omega) ?_); intro v1 w1 ho hb hg hat; have n_B2 := Aside0.mk ((hg.block g2 (blk_lt B2.out) (by intro e; cases e)).trans B2.out); have n_B4 := Aside0.mk ((hg.block g4 (blk_lt B4.out) (by intro e; cases e)).trans B4.out); have n_B9 := Aside0.mk ((hg.block g9 (blk_lt B9.out) (by intro e; cases e)).trans B9.out); have n_HB := Aside0.mk hb; clear HB B2 B4 B9; have HB := n_HB; have B2 := n_B2; have B4 := n_B4; have B9 := n_B9; clear n_HB n_B2 n_B4 n_B9; rw [List.nil_append] at ho; obtain ⟨A8, c8, hv8⟩ := R_form ho; subst hv8; have HRA := Aside0.mk ho; clear ho hb hg hat; clear bB9_0 bB9_1 bB9_2 bB9_f; have bB9_0 := (blk_cell B9.out 0).trans (show _ = some (.string (str n)) from rfl); have bB9_1 := (blk_cell B9.out 1).trans (show _ = some (.slice A1 f.b.length c1) from rfl); have bB9_2 := (blk_cell B9.out 2).trans (show _ = some (.int .i64 f.safe) from rfl); have bB9_f := fun j => blk_frozen B9.out j))
            have hcut : ∀ W : World, (Instr.slice 30 (.slice Ab b.length cb) none (some (.int .i64 (b.length : Int))) none).run Try.prog W = .ok (.slice Ab b.length cb) W := fun W => cut_h W Ab b.length cb (b.length) (Nat.le_trans HML.out HBC.out)
            go_upto_region 25 with (first | ((with_reducible refine gate_builtin (b := .append) (xs := #[.tmp 66, .tmp 69]) rfl ?_); at_builtin; (refine Kd.R_append_rows (Kd.int .u8) (w0 := w) w.heap.size rfl (.tmp 66) (.tmp 69) 30 5 (.int .u8 0) 1 rfl Try.underlying30 infoU8 rfl (by decide) (by decide) _ f.b (b.take b.length) _ _ _ (fun k => k ≠ g2 ∧ k ≠ g4 ∧ k ≠ g9) (fun _ => False) rfl rfl HRA.out (by have hq := Kd.C_take (Kd.C_below HFB.out HB.out) HML.out; rw [List.length_take, Nat.min_eq_left HML.out] at hq; exact hq) (fun _ _ h => h) (fun _ hk => hk.elim) (fun k hk => ⟨by have := blk_lt B2.out; omega, by have := blk_lt B4.out; omega, by have := blk_lt B9.out; omega⟩) HB.out (below_size HB.out) (by have h1 := HL9.out; (try simp only [List.length_nil]); omega) ?_); intro v1 w1 ho hb hg hat; have n_B2 := Aside0.mk ((hg.block g2 (blk_lt B2.out) (fun e => (HRA.out.1 g2 e.symm).1 rfl)).trans B2.out); have n_B4 := Aside0.mk ((hg.block g4 (blk_lt B4.out) (fun e => (HRA.out.1 g4 e.symm).2.1 rfl)).trans B4.out); have n_B9 := Aside0.mk ((hg.block g9 (blk_lt B9.out) (fun e => (HRA.out.1 g9 e.symm).2.2 rfl)).trans B9.out); have n_HB := Aside0.mk hb; clear HB B2 B4 B9; have HB := n_HB; have B2 := n_B2; have B4 := n_B4; have B9 := n_B9; clear n_HB n_B2 n_B4 n_B9; rw [HFBE.out] at ho; obtain ⟨A7, c7, hv7⟩ := R_form ho; subst hv7; clear HRA; have HRA := Aside0.mk ho; clear ho hb hg hat; clear bB9_0 bB9_1 bB9_2 bB9_f; have bB9_0 := (blk_cell B9.out 0).trans (show _ = some (.string (str n)) from rfl); have bB9_1 := (blk_cell B9.out 1).trans (show _ = some (.slice A1 f.b.length c1) from rfl); have bB9_2 := (blk_cell B9.out 2).trans (show _ = some (.int .i64 f.safe) from rfl); have bB9_f := fun j => blk_frozen B9.out j))
            clear bB9_0 bB9_1 bB9_2 bB9_f
            rename World => wz
            have s0 := blk_put (cs' := #[.string (str n), .slice A7 fb.length c7, .int .i64 f.safe]) B9.out 1 (.slice A7 fb.length c7) rfl
            have h0 := below_set (j := 1) (v := .slice A7 fb.length c7) HB.out GE_g9.out
            have hs : ∀ k, k ≠ g9 → (World.setCell wz ⟨g9, 1, none⟩ (.slice A7 fb.length c7)).heap[k]? = wz.heap[k]? := fun k hk => (Below.heap_setCell wz ⟨g9, 1, none⟩ (.slice A7 fb.length c7) k hk)
            generalize (World.setCell wz ⟨g9, 1, none⟩ (.slice A7 fb.length c7)) = wb at s0 h0 hs ⊢
            have n_B2 := Aside0.mk ((hs g2 NE_g2_g9.out).trans B2.out); have n_B4 := Aside0.mk ((hs g4 NE_g4_g9.out).trans B4.out); have n_HRA := Aside0.mk (Kd.R_move HRA.out (fun k hk => hs k hk.2.2)); have n_HB := Aside0.mk (h0); clear B2 B4 HRA HB; have B2 := n_B2; have B4 := n_B4; have HRA := n_HRA; have HB := n_HB; clear n_B2 n_B4 n_HRA n_HB
            clear B9
            have B9 := Aside0.mk s0
            clear hs s0 h0
            have bB2_0 := (blk_cell B2.out 0).trans (show _ = some (.int .i64 S.room) from rfl)
            have bB2_1 := (blk_cell B2.out 1).trans (show _ = some (.slice Af S.fails.length cf) from rfl)
            have bB2_2 := (blk_cell B2.out 2).trans (show _ = some (.slice Ap S.parts.length cp) from rfl)
            have bB2_3 := (blk_cell B2.out 3).trans (show _ = some (.slice (some ad) S.files.length c) from rfl)
            have bB2_4 := (blk_cell B2.out 4).trans (show _ = some (.int .i64 (S.calls + 1)) from rfl)
            have bB2_f := fun j => blk_frozen B2.out j
            have bB4_0 := (blk_cell B4.out 0).trans (show _ = some (.int .i64 0) from rfl)
            have bB4_1 := (blk_cell B4.out 1).trans (show _ = some (.slice none 0 0) from rfl)
            have bB4_2 := (blk_cell B4.out 2).trans (show _ = some (.slice none 0 0) from rfl)
            have bB4_3 := (blk_cell B4.out 3).trans (show _ = some (.slice none 0 0) from rfl)
            have bB4_4 := (blk_cell B4.out 4).trans (show _ = some (.int .i64 0) from rfl)
            have bB4_f := fun j => blk_frozen B4.out j
            have bB9_0 := (blk_cell B9.out 0).trans (show _ = some (.string (str n)) from rfl)
            have bB9_1 := (blk_cell B9.out 1).trans (show _ = some (.slice A7 fb.length c7) from rfl)
            have bB9_2 := (blk_cell B9.out 2).trans (show _ = some (.int .i64 f.safe) from rfl)
            have bB9_f := fun j => blk_frozen B9.out j
            go_wp2_with (first | (go_at_call 62; refine (with_doc (fun k => (P k ∧ k < w.heap.size) ∨ ((fun k => k ≠ g2 ∧ k ≠ g4 ∧ k ≠ g9) k ∧ w.heap.size ≤ k)) Af cf Ap cp (some ad) c (cnt S) n n ⟨fb, f.safe⟩ A7 c7 false _ ((HI.out.below HB.out).cnt.mono (fun k hk => .inl hk)) (Kd.F_mono (Kd.R_F (Kd.R_bound HRA.out)) (fun k hk => .inr ⟨hk.1, hk.2.1⟩)) (Kd.R_reads' HRA.out).2.1 HL2.out).mono ?_; rintro e w5 ⟨A9, c9, rfl, hd, hb⟩; replace hd := hd.mono (P' := fun k => (P k ∨ w.heap.size ≤ k) ∧ k ≠ g2 ∧ k ≠ g4 ∧ k ≠ g9) (fun k hk => ⟨hk.elim (fun hk => hk.elim (fun h => .inl h.1) (fun h => .inr h.2)) (fun h => .inr (Nat.le_trans (below_size HB.out) h)), (fun e => by subst e; have q1 := GE_g2.out; have q2 := blk_lt B2.out; rcases hk with hk | hk; (· rcases hk with hk | hk; (· omega); (· exact hk.1.1 rfl)); (· omega)), (fun e => by subst e; have q1 := GE_g4.out; have q2 := blk_lt B4.out; rcases hk with hk | hk; (· rcases hk with hk | hk; (· omega); (· exact hk.1.2.1 rfl)); (· omega)), (fun e => by subst e; have q1 := GE_g9.out; have q2 := blk_lt B9.out; rcases hk with hk | hk; (· rcases hk with hk | hk; (· omega); (· exact hk.1.2.2 rfl)); (· omega))⟩); have n_B2 := Aside0.mk (blk_below B2.out hb); have n_B4 := Aside0.mk (blk_below B4.out hb); have n_B9 := Aside0.mk (blk_below B9.out hb); have n_HB := Aside0.mk (below_step HB.out hb); clear B2 B4 B9 HB; have B2 := n_B2; have B4 := n_B4; have B9 := n_B9; have HB := n_HB; clear n_B2 n_B4 n_B9 n_HB; clear hb; clear bB2_0 bB2_1 bB2_2 bB2_3 bB2_4 bB2_f; have bB2_0 := (blk_cell B2.out 0).trans (show _ = some (.int .i64 S.room) from rfl); have bB2_1 := (blk_cell B2.out 1).trans (show _ = some (.slice Af S.fails.length cf) from rfl); have bB2_2 := (blk_cell B2.out 2).trans (show _ = some (.slice Ap S.parts.length cp) from rfl); have bB2_3 := (blk_cell B2.out 3).trans (show _ = some (.slice (some ad) S.files.length c) from rfl); have bB2_4 := (blk_cell B2.out 4).trans (show _ = some (.int .i64 (S.calls + 1)) from rfl); have bB2_f := fun j => blk_frozen B2.out j; clear bB4_0 bB4_1 bB4_2 bB4_3 bB4_4 bB4_f; have bB4_0 := (blk_cell B4.out 0).trans (show _ = some (.int .i64 0) from rfl); have bB4_1 := (blk_cell B4.out 1).trans (show _ = some (.slice none 0 0) from rfl); have bB4_2 := (blk_cell B4.out 2).trans (show _ = some (.slice none 0 0) from rfl); have bB4_3 := (blk_cell B4.out 3).trans (show _ = some (.slice none 0 0) from rfl); have bB4_4 := (blk_cell B4.out 4).trans (show _ = some (.int .i64 0) from rfl); have bB4_f := fun j => blk_frozen B4.out j; clear bB9_0 bB9_1 bB9_2 bB9_f; have bB9_0 := (blk_cell B9.out 0).trans (show _ = some (.string (str n)) from rfl); have bB9_1 := (blk_cell B9.out 1).trans (show _ = some (.slice A7 fb.length c7) from rfl); have bB9_2 := (blk_cell B9.out 2).trans (show _ = some (.int .i64 f.safe) from rfl); have bB9_f := fun j => blk_frozen B9.out j; rw [withR_false n ⟨fb, f.safe⟩ _ HRI.out] at hd ⊢; generalize hS9 : ({ cnt S with files := put n ⟨fb, f.safe⟩ (cnt S).files } : DA) = S9 at hd ⊢; have HS9 := Aside0.mk hS9; clear hS9; have HD := Aside0.mk hd; clear hd))
            clear bB2_0 bB2_1 bB2_2 bB2_3 bB2_4 bB2_f
            clear bB4_0 bB4_1 bB4_2 bB4_3 bB4_4 bB4_f
            clear bB9_0 bB9_1 bB9_2 bB9_f
            rename World => wy
            have s0 := blk_put (cs' := #[.int .i64 S9.room, .slice none 0 0, .slice none 0 0, .slice none 0 0, .int .i64 0]) B4.out 0 (.int .i64 S9.room) rfl
            have h0 := below_set (j := 0) (v := .int .i64 S9.room) HB.out GE_g4.out
            have s1 := blk_put (cs' := #[.int .i64 S9.room, .slice Af S9.fails.length cf, .slice none 0 0, .slice none 0 0, .int .i64 0]) s0 1 (.slice Af S9.fails.length cf) rfl
            have h1 := below_set (j := 1) (v := .slice Af S9.fails.length cf) h0 GE_g4.out
            have s2 := blk_put (cs' := #[.int .i64 S9.room, .slice Af S9.fails.length cf, .slice Ap S9.parts.length cp, .slice none 0 0, .int .i64 0]) s1 2 (.slice Ap S9.parts.length cp) rfl
            have h2 := below_set (j := 2) (v := .slice Ap S9.parts.length cp) h1 GE_g4.out
            have s3 := blk_put (cs' := #[.int .i64 S9.room, .slice Af S9.fails.length cf, .slice Ap S9.parts.length cp, .slice A9 S9.files.length c9, .int .i64 0]) s2 3 (.slice A9 S9.files.length c9) rfl
            have h3 := below_set (j := 3) (v := .slice A9 S9.files.length c9) h2 GE_g4.out
            have s4 := blk_put (cs' := #[.int .i64 S9.room, .slice Af S9.fails.length cf, .slice Ap S9.parts.length cp, .slice A9 S9.files.length c9, .int .i64 S9.calls]) s3 4 (.int .i64 S9.calls) rfl
            have h4 := below_set (j := 4) (v := .int .i64 S9.calls) h3 GE_g4.out
            have hs : ∀ k, k ≠ g4 → (World.setCell (World.setCell (World.setCell (World.setCell (World.setCell wy ⟨g4, 0, none⟩ (.int .i64 S9.room)) ⟨g4, 1, none⟩ (.slice Af S9.fails.length cf)) ⟨g4, 2, none⟩ (.slice Ap S9.parts.length cp)) ⟨g4, 3, none⟩ (.slice A9 S9.files.length c9)) ⟨g4, 4, none⟩ (.int .i64 S9.calls)).heap[k]? = wy.heap[k]? := fun k hk => ((Below.heap_setCell (World.setCell (World.setCell (World.setCell (World.setCell wy ⟨g4, 0, none⟩ (.int .i64 S9.room)) ⟨g4, 1, none⟩ (.slice Af S9.fails.length cf)) ⟨g4, 2, none⟩ (.slice Ap S9.parts.length cp)) ⟨g4, 3, none⟩ (.slice A9 S9.files.length c9)) ⟨g4, 4, none⟩ (.int .i64 S9.calls) k hk).trans ((Below.heap_setCell (World.setCell (World.setCell (World.setCell wy ⟨g4, 0, none⟩ (.int .i64 S9.room)) ⟨g4, 1, none⟩ (.slice Af S9.fails.length cf)) ⟨g4, 2, none⟩ (.slice Ap S9.parts.length cp)) ⟨g4, 3, none⟩ (.slice A9 S9.files.length c9) k hk).trans ((Below.heap_setCell (World.setCell (World.setCell wy ⟨g4, 0, none⟩ (.int .i64 S9.room)) ⟨g4, 1, none⟩ (.slice Af S9.fails.length cf)) ⟨g4, 2, none⟩ (.slice Ap S9.parts.length cp) k hk).trans ((Below.heap_setCell (World.setCell wy ⟨g4, 0, none⟩ (.int .i64 S9.room)) ⟨g4, 1, none⟩ (.slice Af S9.fails.length cf) k hk).trans (Below.heap_setCell wy ⟨g4, 0, none⟩ (.int .i64 S9.room) k hk)))))
            generalize (World.setCell (World.setCell (World.setCell (World.setCell (World.setCell wy ⟨g4, 0, none⟩ (.int .i64 S9.room)) ⟨g4, 1, none⟩ (.slice Af S9.fails.length cf)) ⟨g4, 2, none⟩ (.slice Ap S9.parts.length cp)) ⟨g4, 3, none⟩ (.slice A9 S9.files.length c9)) ⟨g4, 4, none⟩ (.int .i64 S9.calls)) = w9 at s4 h4 hs ⊢
            have n_B2 := Aside0.mk ((hs g2 NE_g2_g4.out).trans B2.out); have n_B9 := Aside0.mk ((hs g9 (fun e => NE_g4_g9.out e.symm)).trans B9.out); have n_HD := Aside0.mk (HD.out.step (fun k hk _ => hs k hk.2.2.1)); have n_HB := Aside0.mk (h4); clear B2 B9 HD HB; have B2 := n_B2; have B9 := n_B9; have HD := n_HD; have HB := n_HB; clear n_B2 n_B9 n_HD n_HB
            clear B4
            have B4 := Aside0.mk s4
            clear hs s0 s1 s2 s3 s4 h0 h1 h2 h3 h4
            refine bodyPost_ret (results_ct rfl _ _ g4 49 #[.int .i64 S9.room, .slice Af S9.fails.length cf, .slice Ap S9.parts.length cp, .slice A9 S9.files.length c9, .int .i64 S9.calls] (0, 0) _ rfl B4.out Try.underlying49 rfl (by kernel_rfl)) rfl ?_
            have e : r = (S9, 12) := by rw [← HR.out, ← HS9.out]; exact appendP_put HV.out hg2 HPT.out HRI2.out HAX.out HFBE.out
            rw [e]
            exact ⟨A9, c9, rfl, HD.out.mono (fun k hk => hk.1), HB.out⟩
      · have hrf' : isRef S = false := by simpa using hrf
        have HRF : Aside0 ((refusedP (cnt S).fails (cnt S).parts (cnt S).calls).isSome = false) := ⟨hrf'⟩
        have HRI2 : Aside0 (isRef S = false) := ⟨hrf'⟩
        clear hrf
        by_cases h1 : lf < (b.length : Int)
        · have h1' : (b.length : Int) > lf := h1
          go_wp2_with (first | (go_at_call 61; refine (refused_doc Af cf Ap cp (some ad) c (cnt S) _ ((HI.out.below HB.out).cnt) HFN.out).mono ?_; rw [HPT.out, HRF.out]; rintro e w5 ⟨rfl, hb⟩; have n_B2 := Aside0.mk (blk_below B2.out hb); have n_B4 := Aside0.mk (blk_below B4.out hb); have n_HB := Aside0.mk (below_step HB.out hb); clear B2 B4 HB; have B2 := n_B2; have B4 := n_B4; have HB := n_HB; clear n_B2 n_B4 n_HB; clear hb; clear bB2_0 bB2_1 bB2_2 bB2_3 bB2_4 bB2_f; have bB2_0 := (blk_cell B2.out 0).trans (show _ = some (.int .i64 S.room) from rfl); have bB2_1 := (blk_cell B2.out 1).trans (show _ = some (.slice Af S.fails.length cf) from rfl); have bB2_2 := (blk_cell B2.out 2).trans (show _ = some (.slice Ap S.parts.length cp) from rfl); have bB2_3 := (blk_cell B2.out 3).trans (show _ = some (.slice (some ad) S.files.length c) from rfl); have bB2_4 := (blk_cell B2.out 4).trans (show _ = some (.int .i64 (S.calls + 1)) from rfl); have bB2_f := fun j => blk_frozen B2.out j; clear bB4_0 bB4_1 bB4_2 bB4_3 bB4_4 bB4_f; have bB4_0 := (blk_cell B4.out 0).trans (show _ = some (.int .i64 0) from rfl); have bB4_1 := (blk_cell B4.out 1).trans (show _ = some (.slice none 0 0) from rfl); have bB4_2 := (blk_cell B4.out 2).trans (show _ = some (.slice none 0 0) from rfl); have bB4_3 := (blk_cell B4.out 3).trans (show _ = some (.slice none 0 0) from rfl); have bB4_4 := (blk_cell B4.out 4).trans (show _ = some (.int .i64 0) from rfl); have bB4_f := fun j => blk_frozen B4.out j; clear x0 x1 x2; have x0 := (HB.out.cell (World.block_lt_of_cell? w _ Wx0.out)).trans Wx0.out; have x1 := (HB.out.cell (World.block_lt_of_cell? w _ Wx1.out)).trans Wx1.out; have x2 := (HB.out.cell (World.block_lt_of_cell? w _ Wx2.out)).trans Wx2.out))
          clear x0 x1 x2
          clear bB2_0 bB2_1 bB2_2 bB2_3 bB2_4 bB2_f
          clear bB4_0 bB4_1 bB4_2 bB4_3 bB4_4 bB4_f
          rename World => wy
          have s0 := blk_put (cs' := #[.int .i64 S.room, .slice none 0 0, .slice none 0 0, .slice none 0 0, .int .i64 0]) B4.out 0 (.int .i64 S.room) rfl
          have h0 := below_set (j := 0) (v := .int .i64 S.room) HB.out GE_g4.out
          have s1 := blk_put (cs' := #[.int .i64 S.room, .slice Af S.fails.length cf, .slice none 0 0, .slice none 0 0, .int .i64 0]) s0 1 (.slice Af S.fails.length cf) rfl
          have h1 := below_set (j := 1) (v := .slice Af S.fails.length cf) h0 GE_g4.out
          have s2 := blk_put (cs' := #[.int .i64 S.room, .slice Af S.fails.length cf, .slice Ap S.parts.length cp, .slice none 0 0, .int .i64 0]) s1 2 (.slice Ap S.parts.length cp) rfl
          have h2 := below_set (j := 2) (v := .slice Ap S.parts.length cp) h1 GE_g4.out
          have s3 := blk_put (cs' := #[.int .i64 S.room, .slice Af S.fails.length cf, .slice Ap S.parts.length cp, .slice (some ad) S.files.length c, .int .i64 0]) s2 3 (.slice (some ad) S.files.length c) rfl
          have h3 := below_set (j := 3) (v := .slice (some ad) S.files.length c) h2 GE_g4.out
          have s4 := blk_put (cs' := #[.int .i64 S.room, .slice Af S.fails.length cf, .slice Ap S.parts.length cp, .slice (some ad) S.files.length c, .int .i64 (S.calls + 1)]) s3 4 (.int .i64 (S.calls + 1)) rfl
          have h4 := below_set (j := 4) (v := .int .i64 (S.calls + 1)) h3 GE_g4.out
          have hs : ∀ k, k ≠ g4 → (World.setCell (World.setCell (World.setCell (World.setCell (World.setCell wy ⟨g4, 0, none⟩ (.int .i64 S.room)) ⟨g4, 1, none⟩ (.slice Af S.fails.length cf)) ⟨g4, 2, none⟩ (.slice Ap S.parts.length cp)) ⟨g4, 3, none⟩ (.slice (some ad) S.files.length c)) ⟨g4, 4, none⟩ (.int .i64 (S.calls + 1))).heap[k]? = wy.heap[k]? := fun k hk => ((Below.heap_setCell (World.setCell (World.setCell (World.setCell (World.setCell wy ⟨g4, 0, none⟩ (.int .i64 S.room)) ⟨g4, 1, none⟩ (.slice Af S.fails.length cf)) ⟨g4, 2, none⟩ (.slice Ap S.parts.length cp)) ⟨g4, 3, none⟩ (.slice (some ad) S.files.length c)) ⟨g4, 4, none⟩ (.int .i64 (S.calls + 1)) k hk).trans ((Below.heap_setCell (World.setCell (World.setCell (World.setCell wy ⟨g4, 0, none⟩ (.int .i64 S.room)) ⟨g4, 1, none⟩ (.slice Af S.fails.length cf)) ⟨g4, 2, none⟩ (.slice Ap S.parts.length cp)) ⟨g4, 3, none⟩ (.slice (some ad) S.files.length c) k hk).trans ((Below.heap_setCell (World.setCell (World.setCell wy ⟨g4, 0, none⟩ (.int .i64 S.room)) ⟨g4, 1, none⟩ (.slice Af S.fails.length cf)) ⟨g4, 2, none⟩ (.slice Ap S.parts.length cp) k hk).trans ((Below.heap_setCell (World.setCell wy ⟨g4, 0, none⟩ (.int .i64 S.room)) ⟨g4, 1, none⟩ (.slice Af S.fails.length cf) k hk).trans (Below.heap_setCell wy ⟨g4, 0, none⟩ (.int .i64 S.room) k hk)))))
          generalize (World.setCell (World.setCell (World.setCell (World.setCell (World.setCell wy ⟨g4, 0, none⟩ (.int .i64 S.room)) ⟨g4, 1, none⟩ (.slice Af S.fails.length cf)) ⟨g4, 2, none⟩ (.slice Ap S.parts.length cp)) ⟨g4, 3, none⟩ (.slice (some ad) S.files.length c)) ⟨g4, 4, none⟩ (.int .i64 (S.calls + 1))) = w9 at s4 h4 hs ⊢
          have n_B2 := Aside0.mk ((hs g2 NE_g2_g4.out).trans B2.out); have n_HB := Aside0.mk (h4); clear B2 HB; have B2 := n_B2; have HB := n_HB; clear n_B2 n_HB
          clear B4
          have B4 := Aside0.mk s4
          clear hs s0 s1 s2 s3 s4 h0 h1 h2 h3 h4
          refine bodyPost_ret (results_ct rfl _ _ g4 49 #[.int .i64 S.room, .slice Af S.fails.length cf, .slice Ap S.parts.length cp, .slice (some ad) S.files.length c, .int .i64 (S.calls + 1)] (0, 0) _ rfl B4.out Try.underlying49 rfl (by kernel_rfl)) rfl ?_
          have e : r = (cnt S, 13) := by rw [← HR.out]; exact appendP_full HRI.out HV.out hg2 HRI2.out HLE.out h1
          rw [e]
          exact ⟨_, c, rfl, (HI.out.below HB.out).cnt.mono (fun k hk => .inl hk.1), HB.out⟩
        · have h1' : ¬ (b.length : Int) > lf := h1
          have HAX : Aside0 (appX S b pt false = (b.length, 0)) := ⟨by unfold appX; rw [HLE.out]; (first | rw [if_pos rfl] | rw [if_neg (by decide)]); (try rw [if_neg (by omega)]); (first | done | rfl | (congr 1; omega))⟩
          have HML : Aside0 (b.length ≤ b.length) := ⟨by omega⟩
          obtain ⟨fb, hfb⟩ : ∃ fb, f.b ++ b.take b.length = fb := ⟨_, rfl⟩
          have HFBE := Aside0.mk hfb
          clear hfb
          go_upto_region 22 with (first | (go_at_call 61; refine (refused_doc Af cf Ap cp (some ad) c (cnt S) _ ((HI.out.below HB.out).cnt) HFN.out).mono ?_; rw [HPT.out, HRF.out]; rintro e w5 ⟨rfl, hb⟩; have n_B2 := Aside0.mk (blk_below B2.out hb); have n_B4 := Aside0.mk (blk_below B4.out hb); have n_HB := Aside0.mk (below_step HB.out hb); clear B2 B4 HB; have B2 := n_B2; have B4 := n_B4; have HB := n_HB; clear n_B2 n_B4 n_HB; clear hb; clear bB2_0 bB2_1 bB2_2 bB2_3 bB2_4 bB2_f; have bB2_0 := (blk_cell B2.out 0).trans (show _ = some (.int .i64 S.room) from rfl); have bB2_1 := (blk_cell B2.out 1).trans (show _ = some (.slice Af S.fails.length cf) from rfl); have bB2_2 := (blk_cell B2.out 2).trans (show _ = some (.slice Ap S.parts.length cp) from rfl); have bB2_3 := (blk_cell B2.out 3).trans (show _ = some (.slice (some ad) S.files.length c) from rfl); have bB2_4 := (blk_cell B2.out 4).trans (show _ = some (.int .i64 (S.calls + 1)) from rfl); have bB2_f := fun j => blk_frozen B2.out j; clear bB4_0 bB4_1 bB4_2 bB4_3 bB4_4 bB4_f; have bB4_0 := (blk_cell B4.out 0).trans (show _ = some (.int .i64 0) from rfl); have bB4_1 := (blk_cell B4.out 1).trans (show _ = some (.slice none 0 0) from rfl); have bB4_2 := (blk_cell B4.out 2).trans (show _ = some (.slice none 0 0) from rfl); have bB4_3 := (blk_cell B4.out 3).trans (show _ = some (.slice none 0 0) from rfl); have bB4_4 := (blk_cell B4.out 4).trans (show _ = some (.int .i64 0) from rfl); have bB4_f := fun j => blk_frozen B4.out j; clear x0 x1 x2; have x0 := (HB.out.cell (World.block_lt_of_cell? w _ Wx0.out)).trans Wx0.out; have x1 := (HB.out.cell (World.block_lt_of_cell? w _ Wx1.out)).trans Wx1.out; have x2 := (HB.out.cell (World.block_lt_of_cell? w _ Wx2.out)).trans Wx2.out) | ((with_reducible refine gate_dst (N := 14) rfl ?_); refine box_event ?hg (N := 14) ?hd (cs := #[.string ByteArray.empty, .slice none 0 0, .int .i64 0]) (t := 57) ?hr ?_; (case hd => rfl); (case hg => rfl); (case hr => first | (go_simp; done) | (go_simp; rfl)); intro g9 hg w3 hbox hb; have NE_g2_g9 : Aside0 (g2 ≠ g9) := ⟨by rw [hg]; exact Nat.ne_of_lt (blk_lt B2.out)⟩; have NE_g4_g9 : Aside0 (g4 ≠ g9) := ⟨by rw [hg]; exact Nat.ne_of_lt (blk_lt B4.out)⟩; have GE_g9 : Aside0 (w.heap.size ≤ g9) := ⟨by rw [hg]; exact below_size HB.out⟩; have n_B2 := Aside0.mk (blk_below B2.out hb); have n_B4 := Aside0.mk (blk_below B4.out hb); have n_HB := Aside0.mk (below_step HB.out hb); clear B2 B4 HB; have B2 := n_B2; have B4 := n_B4; have HB := n_HB; clear n_B2 n_B4 n_HB; have B9 := Aside0.mk hbox; clear hg hbox hb; have bB9_0 := (blk_cell B9.out 0).trans (show _ = some (.string ByteArray.empty) from rfl); have bB9_1 := (blk_cell B9.out 1).trans (show _ = some (.slice none 0 0) from rfl); have bB9_2 := (blk_cell B9.out 2).trans (show _ = some (.int .i64 0) from rfl); have bB9_f := fun j => blk_frozen B9.out j))
          clear bB2_0 bB2_1 bB2_2 bB2_3 bB2_4 bB2_f
          clear bB4_0 bB4_1 bB4_2 bB4_3 bB4_4 bB4_f
          clear bB9_0 bB9_1 bB9_2 bB9_f
          clear x0 x1 x2
          rename World => wz
          have s0 := blk_put (cs' := #[.string (str n), .slice none 0 0, .int .i64 0]) B9.out 0 (.string (str n)) rfl
          have h0 := below_set (j := 0) (v := .string (str n)) HB.out GE_g9.out
          have s1 := blk_put (cs' := #[.string (str n), .slice A1 f.b.length c1, .int .i64 0]) s0 1 (.slice A1 f.b.length c1) rfl
          have h1 := below_set (j := 1) (v := .slice A1 f.b.length c1) h0 GE_g9.out
          have s2 := blk_put (cs' := #[.string (str n), .slice A1 f.b.length c1, .int .i64 f.safe]) s1 2 (.int .i64 f.safe) rfl
          have h2 := below_set (j := 2) (v := .int .i64 f.safe) h1 GE_g9.out
          have hs : ∀ k, k ≠ g9 → (World.setCell (World.setCell (World.setCell wz ⟨g9, 0, none⟩ (.string (str n))) ⟨g9, 1, none⟩ (.slice A1 f.b.length c1)) ⟨g9, 2, none⟩ (.int .i64 f.safe)).heap[k]? = wz.heap[k]? := fun k hk => ((Below.heap_setCell (World.setCell (World.setCell wz ⟨g9, 0, none⟩ (.string (str n))) ⟨g9, 1, none⟩ (.slice A1 f.b.length c1)) ⟨g9, 2, none⟩ (.int .i64 f.safe) k hk).trans ((Below.heap_setCell (World.setCell wz ⟨g9, 0, none⟩ (.string (str n))) ⟨g9, 1, none⟩ (.slice A1 f.b.length c1) k hk).trans (Below.heap_setCell wz ⟨g9, 0, none⟩ (.string (str n)) k hk)))
          generalize (World.setCell (World.setCell (World.setCell wz ⟨g9, 0, none⟩ (.string (str n))) ⟨g9, 1, none⟩ (.slice A1 f.b.length c1)) ⟨g9, 2, none⟩ (.int .i64 f.safe)) = wa at s2 h2 hs ⊢
          have n_B2 := Aside0.mk ((hs g2 NE_g2_g9.out).trans B2.out); have n_B4 := Aside0.mk ((hs g4 NE_g4_g9.out).trans B4.out); have n_HB := Aside0.mk (h2); clear B2 B4 HB; have B2 := n_B2; have B4 := n_B4; have HB := n_HB; clear n_B2 n_B4 n_HB
          clear B9
          have B9 := Aside0.mk s2
          clear hs s0 s1 s2 h0 h1 h2
          have bB9_0 := (blk_cell B9.out 0).trans (show _ = some (.string (str n)) from rfl)
          have bB9_1 := (blk_cell B9.out 1).trans (show _ = some (.slice A1 f.b.length c1) from rfl)
          have bB9_2 := (blk_cell B9.out 2).trans (show _ = some (.int .i64 f.safe) from rfl)
          have bB9_f := fun j => blk_frozen B9.out j
          have HL9 : Aside0 (f.b.length ≤ 1000000000000 ∧ b.length ≤ 1000000 ∧ b.length ≤ b.length) := ⟨HLB.out, hbl, HML.out⟩
          go_upto_region 24 with (first | ((with_reducible refine gate_builtin (b := .append) (xs := #[.tmp 62, .tmp 64]) rfl ?_); at_builtin; (refine Kd.R_append_rows (Kd.int .u8) (w0 := w) w.heap.size rfl (.tmp 62) (.tmp 64) 30 5 (.int .u8 0) 1 rfl Try.underlying30 infoU8 rfl (by decide) (by decide) _ [] f.b _ _ _ (fun k => k ≠ g2 ∧ k ≠ g4 ∧ k ≠ g9) (fun _ => False) rfl rfl (Kd.R_nil _ _ _ _ _) (Kd.F_now (Kd.F_below HQF.out HB.out)) (fun _ _ h => h) (fun _ hk => hk.elim) (fun k hk => ⟨by have := blk_lt B2.out; omega, by have := blk_lt B4.out; omega, by have := blk_lt B9.out; omega⟩) HB.out (below_size HB.out) (by have h1 := HL9.out; (try simp only [List.length_nil]); omega) ?_); intro v1 w1 ho hb hg hat; have n_B2 := Aside0.mk ((hg.block g2 (blk_lt B2.out) (by intro e; cases e)).trans B2.out); have n_B4 := Aside0.mk ((hg.block g4 (blk_lt B4.out) (by intro e; cases e)).trans B4.out); have n_B9 := Aside0.mk ((hg.block g9 (blk_lt B9.out) (by intro e; cases e)).trans B9.out); have n_HB := Aside0.mk hb; clear HB B2 B4 B9; have HB := n_HB; have B2 := n_B2; have B4 := n_B4; have B9 := n_B9; clear n_HB n_B2 n_B4 n_B9; rw [List.nil_append] at ho; obtain ⟨A8, c8, hv8⟩ := R_form ho; subst hv8; have HRA := Aside0.mk ho; clear ho hb hg hat; clear bB9_0 bB9_1 bB9_2 bB9_f; have bB9_0 := (blk_cell B9.out 0).trans (show _ = some (.string (str n)) from rfl); have bB9_1 := (blk_cell B9.out 1).trans (show _ = some (.slice A1 f.b.length c1) from rfl); have bB9_2 := (blk_cell B9.out 2).trans (show _ = some (.int .i64 f.safe) from rfl); have bB9_f := fun j => blk_frozen B9.out j))
          have hcut : ∀ W : World, (Instr.slice 30 (.slice Ab b.length cb) none (some (.int .i64 (b.length : Int))) none).run Try.prog W = .ok (.slice Ab b.length cb) W := fun W => cut_h W Ab b.length cb (b.length) (Nat.le_trans HML.out HBC.out)
          go_upto_region 25 with (first | ((with_reducible refine gate_builtin (b := .append) (xs := #[.tmp 66, .tmp 69]) rfl ?_); at_builtin; (refine Kd.R_append_rows (Kd.int .u8) (w0 := w) w.heap.size rfl (.tmp 66) (.tmp 69) 30 5 (.int .u8 0) 1 rfl Try.underlying30 infoU8 rfl (by decide) (by decide) _ f.b (b.take b.length) _ _ _ (fun k => k ≠ g2 ∧ k ≠ g4 ∧ k ≠ g9) (fun _ => False) rfl rfl HRA.out (by have hq := Kd.C_take (Kd.C_below HFB.out HB.out) HML.out; rw [List.length_take, Nat.min_eq_left HML.out] at hq; exact hq) (fun _ _ h => h) (fun _ hk => hk.elim) (fun k hk => ⟨by have := blk_lt B2.out; omega, by have := blk_lt B4.out; omega, by have := blk_lt B9.out; omega⟩) HB.out (below_size HB.out) (by have h1 := HL9.out; (try simp only [List.length_nil]); omega) ?_); intro v1 w1 ho hb hg hat; have n_B2 := Aside0.mk ((hg.block g2 (blk_lt B2.out) (fun e => (HRA.out.1 g2 e.symm).1 rfl)).trans B2.out); have n_B4 := Aside0.mk ((hg.block g4 (blk_lt B4.out) (fun e => (HRA.out.1 g4 e.symm).2.1 rfl)).trans B4.out); have n_B9 := Aside0.mk ((hg.block g9 (blk_lt B9.out) (fun e => (HRA.out.1 g9 e.symm).2.2 rfl)).trans B9.out); have n_HB := Aside0.mk hb; clear HB B2 B4 B9; have HB := n_HB; have B2 := n_B2; have B4 := n_B4; have B9 := n_B9; clear n_HB n_B2 n_B4 n_B9; rw [HFBE.out] at ho; obtain ⟨A7, c7, hv7⟩ := R_form ho; subst hv7; clear HRA; have HRA := Aside0.mk ho; clear ho hb hg hat; clear bB9_0 bB9_1 bB9_2 bB9_f; have bB9_0 := (blk_cell B9.out 0).trans (show _ = some (.string (str n)) from rfl); have bB9_1 := (blk_cell B9.out 1).trans (show _ = some (.slice A1 f.b.length c1) from rfl); have bB9_2 := (blk_cell B9.out 2).trans (show _ = some (.int .i64 f.safe) from rfl); have bB9_f := fun j => blk_frozen B9.out j))
          clear bB9_0 bB9_1 bB9_2 bB9_f
          rename World => wz
          have s0 := blk_put (cs' := #[.string (str n), .slice A7 fb.length c7, .int .i64 f.safe]) B9.out 1 (.slice A7 fb.length c7) rfl
          have h0 := below_set (j := 1) (v := .slice A7 fb.length c7) HB.out GE_g9.out
          have hs : ∀ k, k ≠ g9 → (World.setCell wz ⟨g9, 1, none⟩ (.slice A7 fb.length c7)).heap[k]? = wz.heap[k]? := fun k hk => (Below.heap_setCell wz ⟨g9, 1, none⟩ (.slice A7 fb.length c7) k hk)
          generalize (World.setCell wz ⟨g9, 1, none⟩ (.slice A7 fb.length c7)) = wb at s0 h0 hs ⊢
          have n_B2 := Aside0.mk ((hs g2 NE_g2_g9.out).trans B2.out); have n_B4 := Aside0.mk ((hs g4 NE_g4_g9.out).trans B4.out); have n_HRA := Aside0.mk (Kd.R_move HRA.out (fun k hk => hs k hk.2.2)); have n_HB := Aside0.mk (h0); clear B2 B4 HRA HB; have B2 := n_B2; have B4 := n_B4; have HRA := n_HRA; have HB := n_HB; clear n_B2 n_B4 n_HRA n_HB
          clear B9
          have B9 := Aside0.mk s0
          clear hs s0 h0
          have bB2_0 := (blk_cell B2.out 0).trans (show _ = some (.int .i64 S.room) from rfl)
          have bB2_1 := (blk_cell B2.out 1).trans (show _ = some (.slice Af S.fails.length cf) from rfl)
          have bB2_2 := (blk_cell B2.out 2).trans (show _ = some (.slice Ap S.parts.length cp) from rfl)
          have bB2_3 := (blk_cell B2.out 3).trans (show _ = some (.slice (some ad) S.files.length c) from rfl)
          have bB2_4 := (blk_cell B2.out 4).trans (show _ = some (.int .i64 (S.calls + 1)) from rfl)
          have bB2_f := fun j => blk_frozen B2.out j
          have bB4_0 := (blk_cell B4.out 0).trans (show _ = some (.int .i64 0) from rfl)
          have bB4_1 := (blk_cell B4.out 1).trans (show _ = some (.slice none 0 0) from rfl)
          have bB4_2 := (blk_cell B4.out 2).trans (show _ = some (.slice none 0 0) from rfl)
          have bB4_3 := (blk_cell B4.out 3).trans (show _ = some (.slice none 0 0) from rfl)
          have bB4_4 := (blk_cell B4.out 4).trans (show _ = some (.int .i64 0) from rfl)
          have bB4_f := fun j => blk_frozen B4.out j
          have bB9_0 := (blk_cell B9.out 0).trans (show _ = some (.string (str n)) from rfl)
          have bB9_1 := (blk_cell B9.out 1).trans (show _ = some (.slice A7 fb.length c7) from rfl)
          have bB9_2 := (blk_cell B9.out 2).trans (show _ = some (.int .i64 f.safe) from rfl)
          have bB9_f := fun j => blk_frozen B9.out j
          go_wp2_with (first | (go_at_call 62; refine (with_doc (fun k => (P k ∧ k < w.heap.size) ∨ ((fun k => k ≠ g2 ∧ k ≠ g4 ∧ k ≠ g9) k ∧ w.heap.size ≤ k)) Af cf Ap cp (some ad) c (cnt S) n n ⟨fb, f.safe⟩ A7 c7 false _ ((HI.out.below HB.out).cnt.mono (fun k hk => .inl hk)) (Kd.F_mono (Kd.R_F (Kd.R_bound HRA.out)) (fun k hk => .inr ⟨hk.1, hk.2.1⟩)) (Kd.R_reads' HRA.out).2.1 HL2.out).mono ?_; rintro e w5 ⟨A9, c9, rfl, hd, hb⟩; replace hd := hd.mono (P' := fun k => (P k ∨ w.heap.size ≤ k) ∧ k ≠ g2 ∧ k ≠ g4 ∧ k ≠ g9) (fun k hk => ⟨hk.elim (fun hk => hk.elim (fun h => .inl h.1) (fun h => .inr h.2)) (fun h => .inr (Nat.le_trans (below_size HB.out) h)), (fun e => by subst e; have q1 := GE_g2.out; have q2 := blk_lt B2.out; rcases hk with hk | hk; (· rcases hk with hk | hk; (· omega); (· exact hk.1.1 rfl)); (· omega)), (fun e => by subst e; have q1 := GE_g4.out; have q2 := blk_lt B4.out; rcases hk with hk | hk; (· rcases hk with hk | hk; (· omega); (· exact hk.1.2.1 rfl)); (· omega)), (fun e => by subst e; have q1 := GE_g9.out; have q2 := blk_lt B9.out; rcases hk with hk | hk; (· rcases hk with hk | hk; (· omega); (· exact hk.1.2.2 rfl)); (· omega))⟩); have n_B2 := Aside0.mk (blk_below B2.out hb); have n_B4 := Aside0.mk (blk_below B4.out hb); have n_B9 := Aside0.mk (blk_below B9.out hb); have n_HB := Aside0.mk (below_step HB.out hb); clear B2 B4 B9 HB; have B2 := n_B2; have B4 := n_B4; have B9 := n_B9; have HB := n_HB; clear n_B2 n_B4 n_B9 n_HB; clear hb; clear bB2_0 bB2_1 bB2_2 bB2_3 bB2_4 bB2_f; have bB2_0 := (blk_cell B2.out 0).trans (show _ = some (.int .i64 S.room) from rfl); have bB2_1 := (blk_cell B2.out 1).trans (show _ = some (.slice Af S.fails.length cf) from rfl); have bB2_2 := (blk_cell B2.out 2).trans (show _ = some (.slice Ap S.parts.length cp) from rfl); have bB2_3 := (blk_cell B2.out 3).trans (show _ = some (.slice (some ad) S.files.length c) from rfl); have bB2_4 := (blk_cell B2.out 4).trans (show _ = some (.int .i64 (S.calls + 1)) from rfl); have bB2_f := fun j => blk_frozen B2.out j; clear bB4_0 bB4_1 bB4_2 bB4_3 bB4_4 bB4_f; have bB4_0 := (blk_cell B4.out 0).trans (show _ = some (.int .i64 0) from rfl); have bB4_1 := (blk_cell B4.out 1).trans (show _ = some (.slice none 0 0) from rfl); have bB4_2 := (blk_cell B4.out 2).trans (show _ = some (.slice none 0 0) from rfl); have bB4_3 := (blk_cell B4.out 3).trans (show _ = some (.slice none 0 0) from rfl); have bB4_4 := (blk_cell B4.out 4).trans (show _ = some (.int .i64 0) from rfl); have bB4_f := fun j => blk_frozen B4.out j; clear bB9_0 bB9_1 bB9_2 bB9_f; have bB9_0 := (blk_cell B9.out 0).trans (show _ = some (.string (str n)) from rfl); have bB9_1 := (blk_cell B9.out 1).trans (show _ = some (.slice A7 fb.length c7) from rfl); have bB9_2 := (blk_cell B9.out 2).trans (show _ = some (.int .i64 f.safe) from rfl); have bB9_f := fun j => blk_frozen B9.out j; rw [withR_false n ⟨fb, f.safe⟩ _ HRI.out] at hd ⊢; generalize hS9 : ({ cnt S with files := put n ⟨fb, f.safe⟩ (cnt S).files } : DA) = S9 at hd ⊢; have HS9 := Aside0.mk hS9; clear hS9; have HD := Aside0.mk hd; clear hd))
          clear bB2_0 bB2_1 bB2_2 bB2_3 bB2_4 bB2_f
          clear bB4_0 bB4_1 bB4_2 bB4_3 bB4_4 bB4_f
          clear bB9_0 bB9_1 bB9_2 bB9_f
          rename World => wy
          have s0 := blk_put (cs' := #[.int .i64 S9.room, .slice none 0 0, .slice none 0 0, .slice none 0 0, .int .i64 0]) B4.out 0 (.int .i64 S9.room) rfl
          have h0 := below_set (j := 0) (v := .int .i64 S9.room) HB.out GE_g4.out
          have s1 := blk_put (cs' := #[.int .i64 S9.room, .slice Af S9.fails.length cf, .slice none 0 0, .slice none 0 0, .int .i64 0]) s0 1 (.slice Af S9.fails.length cf) rfl
          have h1 := below_set (j := 1) (v := .slice Af S9.fails.length cf) h0 GE_g4.out
          have s2 := blk_put (cs' := #[.int .i64 S9.room, .slice Af S9.fails.length cf, .slice Ap S9.parts.length cp, .slice none 0 0, .int .i64 0]) s1 2 (.slice Ap S9.parts.length cp) rfl
          have h2 := below_set (j := 2) (v := .slice Ap S9.parts.length cp) h1 GE_g4.out
          have s3 := blk_put (cs' := #[.int .i64 S9.room, .slice Af S9.fails.length cf, .slice Ap S9.parts.length cp, .slice A9 S9.files.length c9, .int .i64 0]) s2 3 (.slice A9 S9.files.length c9) rfl
          have h3 := below_set (j := 3) (v := .slice A9 S9.files.length c9) h2 GE_g4.out
          have s4 := blk_put (cs' := #[.int .i64 S9.room, .slice Af S9.fails.length cf, .slice Ap S9.parts.length cp, .slice A9 S9.files.length c9, .int .i64 S9.calls]) s3 4 (.int .i64 S9.calls) rfl
          have h4 := below_set (j := 4) (v := .int .i64 S9.calls) h3 GE_g4.out
          have hs : ∀ k, k ≠ g4 → (World.setCell (World.setCell (World.setCell (World.setCell (World.setCell wy ⟨g4, 0, none⟩ (.int .i64 S9.room)) ⟨g4, 1, none⟩ (.slice Af S9.fails.length cf)) ⟨g4, 2, none⟩ (.slice Ap S9.parts.length cp)) ⟨g4, 3, none⟩ (.slice A9 S9.files.length c9)) ⟨g4, 4, none⟩ (.int .i64 S9.calls)).heap[k]? = wy.heap[k]? := fun k hk => ((Below.heap_setCell (World.setCell (World.setCell (World.setCell (World.setCell wy ⟨g4, 0, none⟩ (.int .i64 S9.room)) ⟨g4, 1, none⟩ (.slice Af S9.fails.length cf)) ⟨g4, 2, none⟩ (.slice Ap S9.parts.length cp)) ⟨g4, 3, none⟩ (.slice A9 S9.files.length c9)) ⟨g4, 4, none⟩ (.int .i64 S9.calls) k hk).trans ((Below.heap_setCell (World.setCell (World.setCell (World.setCell wy ⟨g4, 0, none⟩ (.int .i64 S9.room)) ⟨g4, 1, none⟩ (.slice Af S9.fails.length cf)) ⟨g4, 2, none⟩ (.slice Ap S9.parts.length cp)) ⟨g4, 3, none⟩ (.slice A9 S9.files.length c9) k hk).trans ((Below.heap_setCell (World.setCell (World.setCell wy ⟨g4, 0, none⟩ (.int .i64 S9.room)) ⟨g4, 1, none⟩ (.slice Af S9.fails.length cf)) ⟨g4, 2, none⟩ (.slice Ap S9.parts.length cp) k hk).trans ((Below.heap_setCell (World.setCell wy ⟨g4, 0, none⟩ (.int .i64 S9.room)) ⟨g4, 1, none⟩ (.slice Af S9.fails.length cf) k hk).trans (Below.heap_setCell wy ⟨g4, 0, none⟩ (.int .i64 S9.room) k hk)))))
          generalize (World.setCell (World.setCell (World.setCell (World.setCell (World.setCell wy ⟨g4, 0, none⟩ (.int .i64 S9.room)) ⟨g4, 1, none⟩ (.slice Af S9.fails.length cf)) ⟨g4, 2, none⟩ (.slice Ap S9.parts.length cp)) ⟨g4, 3, none⟩ (.slice A9 S9.files.length c9)) ⟨g4, 4, none⟩ (.int .i64 S9.calls)) = w9 at s4 h4 hs ⊢
          have n_B2 := Aside0.mk ((hs g2 NE_g2_g4.out).trans B2.out); have n_B9 := Aside0.mk ((hs g9 (fun e => NE_g4_g9.out e.symm)).trans B9.out); have n_HD := Aside0.mk (HD.out.step (fun k hk _ => hs k hk.2.2.1)); have n_HB := Aside0.mk (h4); clear B2 B9 HD HB; have B2 := n_B2; have B9 := n_B9; have HD := n_HD; have HB := n_HB; clear n_B2 n_B9 n_HD n_HB
          clear B4
          have B4 := Aside0.mk s4
          clear hs s0 s1 s2 s3 s4 h0 h1 h2 h3 h4
          refine bodyPost_ret (results_ct rfl _ _ g4 49 #[.int .i64 S9.room, .slice Af S9.fails.length cf, .slice Ap S9.parts.length cp, .slice A9 S9.files.length c9, .int .i64 S9.calls] (0, 0) _ rfl B4.out Try.underlying49 rfl (by kernel_rfl)) rfl ?_
          have e : r = (S9, 0) := by rw [← HR.out, ← HS9.out]; exact appendP_put HV.out hg2 HPT.out HRI2.out HAX.out HFBE.out
          rw [e]
          exact ⟨A9, c9, rfl, HD.out.mono (fun k hk => hk.1), HB.out⟩

end Go.Proofs.Yteibdmpjlpcgbaa.XDisk
