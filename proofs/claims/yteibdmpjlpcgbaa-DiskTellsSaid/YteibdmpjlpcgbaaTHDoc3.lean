/- The document's disk: Rename. -/
import Derived.Test.YteibdmpjlpcgbaaTHDoc2
namespace Go.Proofs.Yteibdmpjlpcgbaa.XDisk
open Go Go.RowKit Go.Proofs.YteibdmpjlpcgbaaW.PrintWords Go.Proofs.YteibdmpjlpcgbaaW.PrintLast Go.Proofs.YteibdmpjlpcgbaaW.PrintMore
open Go.Proofs.Yteibdmpjlpcgbaa
set_option linter.unusedVariables false
set_option linter.unusedSimpArgs false
def r40_12.T : Bool × List (List Nat × List Nat) := (true, [([], []), ([], []), ([], []), ([0, 1, 2], [0, 1, 2]), ([], []), ([], []), ([3, 4, 5, 3], [3, 4, 5]), ([6, 6, 0, 1, 2, 3, 4, 5, 6], [6]), ([7, 0, 1, 2, 3, 4, 5, 6, 7], [])])
def r40_12.B : List Nat := [0, 0, 0, 7, 0, 0, 63, 127, 255]
theorem r40_12.tab : rtab .any (opsOf Try.f40 12) = r40_12.T := by kernel_rfl
theorem r40_12.bits : waitsOk r40_12.T.2 r40_12.B = true := by kernel_rfl
set_option maxHeartbeats 16000000 in
set_option maxRecDepth 100000 in
theorem rename_doc (P : Nat → Prop) (Af : Option Addr) (cf : Nat) (Ap : Option Addr) (cp : Nat) (A : Option Addr) (c : Nat) (S : DA) (old n : Nm) (w : World) (h : DocIn w P Af cf Ap cp A c S) (hln : S.files.length ≤ 10000) (hfn : S.fails.length ≤ 1000000) (hri : Rising S.files) (c0 : 0 ≤ S.calls) (c1 : S.calls < 1000000) :
    Calls Try.prog 40 #[docV Af cf Ap cp A c S, .string (str old), .string (str n)] w fun e w' => DocPost w P Af cf Ap cp (renameP S old n) e w' := by
  obtain ⟨r, hr⟩ : ∃ r, renameP S old n = r := ⟨_, rfl⟩
  rw [hr]
  have HR := Aside0.mk hr
  have HI := Aside0.mk h.bound
  have HB := Aside0.mk (Below.refl w.heap.size w)
  have HLN : Aside0 ((cnt S).files.length ≤ 1000000) := ⟨by show S.files.length ≤ 1000000; omega⟩
  have HL2 : Aside0 ((cnt S).files.length ≤ 10000) := ⟨hln⟩
  have HFN : Aside0 ((cnt S).fails.length ≤ 1000000) := ⟨hfn⟩
  have HRI : Aside0 (Rising (cnt S).files) := ⟨hri⟩
  clear h hr hln hfn hri
  go_enter Try.func40, Try.ntmps40
  go_upto_region 1 with (first | ((with_reducible refine gate_dst (N := 3) rfl ?_); refine box_event ?hg (N := 3) ?hd (cs := #[.int .i64 S.room, .slice Af S.fails.length cf, .slice Ap S.parts.length cp, .slice A S.files.length c, .int .i64 S.calls]) (t := 49) ?hr ?_; (case hd => rfl); (case hg => rfl); (case hr => first | (go_simp; done) | (go_simp; rfl)); intro g2 hg w3 hbox hb; have GE_g2 : Aside0 (w.heap.size ≤ g2) := ⟨by rw [hg]; exact below_size HB.out⟩; have n_HB := Aside0.mk (below_step HB.out hb); clear HB; have HB := n_HB; clear n_HB; have B2 := Aside0.mk hbox; clear hg hbox hb) | ((with_reducible refine gate_dst (N := 6) rfl ?_); refine box_event ?hg (N := 6) ?hd (cs := #[.int .i64 0, .slice none 0 0, .slice none 0 0, .slice none 0 0, .int .i64 0]) (t := 49) ?hr ?_; (case hd => rfl); (case hg => rfl); (case hr => first | (go_simp; done) | (go_simp; rfl)); intro g4 hg w3 hbox hb; have NE_g2_g4 : Aside0 (g2 ≠ g4) := ⟨by rw [hg]; exact Nat.ne_of_lt (blk_lt B2.out)⟩; have GE_g4 : Aside0 (w.heap.size ≤ g4) := ⟨by rw [hg]; exact below_size HB.out⟩; have n_B2 := Aside0.mk (blk_below B2.out hb); have n_HB := Aside0.mk (below_step HB.out hb); clear B2 HB; have B2 := n_B2; have HB := n_HB; clear n_B2 n_HB; have B4 := Aside0.mk hbox; clear hg hbox hb))
  have bB2_0 := (blk_cell B2.out 0).trans (show _ = some (.int .i64 S.room) from rfl)
  have bB2_1 := (blk_cell B2.out 1).trans (show _ = some (.slice Af S.fails.length cf) from rfl)
  have bB2_2 := (blk_cell B2.out 2).trans (show _ = some (.slice Ap S.parts.length cp) from rfl)
  have bB2_3 := (blk_cell B2.out 3).trans (show _ = some (.slice A S.files.length c) from rfl)
  have bB2_4 := (blk_cell B2.out 4).trans (show _ = some (.int .i64 S.calls) from rfl)
  have bB2_f := fun j => blk_frozen B2.out j
  go_upto_region 2 with (fail)
  clear bB2_0 bB2_1 bB2_2 bB2_3 bB2_4 bB2_f
  rename World => wz
  have s0 := blk_put (cs' := #[.int .i64 S.room, .slice Af S.fails.length cf, .slice Ap S.parts.length cp, .slice A S.files.length c, .int .i64 (S.calls + 1)]) B2.out 4 (.int .i64 (S.calls + 1)) rfl
  have h0 := below_set (j := 4) (v := .int .i64 (S.calls + 1)) HB.out GE_g2.out
  have hs : ∀ k, k ≠ g2 → (World.setCell wz ⟨g2, 4, none⟩ (.int .i64 (S.calls + 1))).heap[k]? = wz.heap[k]? := fun k hk => (Below.heap_setCell wz ⟨g2, 4, none⟩ (.int .i64 (S.calls + 1)) k hk)
  generalize (World.setCell wz ⟨g2, 4, none⟩ (.int .i64 (S.calls + 1))) = w2 at s0 h0 hs ⊢
  have n_B4 := Aside0.mk ((hs g4 (fun e => NE_g2_g4.out e.symm)).trans B4.out); have n_HB := Aside0.mk (h0); clear B4 HB; have B4 := n_B4; have HB := n_HB; clear n_B4 n_HB
  clear B2
  have B2 := Aside0.mk s0
  clear hs s0 h0
  have bB2_0 := (blk_cell B2.out 0).trans (show _ = some (.int .i64 S.room) from rfl)
  have bB2_1 := (blk_cell B2.out 1).trans (show _ = some (.slice Af S.fails.length cf) from rfl)
  have bB2_2 := (blk_cell B2.out 2).trans (show _ = some (.slice Ap S.parts.length cp) from rfl)
  have bB2_3 := (blk_cell B2.out 3).trans (show _ = some (.slice A S.files.length c) from rfl)
  have bB2_4 := (blk_cell B2.out 4).trans (show _ = some (.int .i64 (S.calls + 1)) from rfl)
  have bB2_f := fun j => blk_frozen B2.out j
  have bB4_0 := (blk_cell B4.out 0).trans (show _ = some (.int .i64 0) from rfl)
  have bB4_1 := (blk_cell B4.out 1).trans (show _ = some (.slice none 0 0) from rfl)
  have bB4_2 := (blk_cell B4.out 2).trans (show _ = some (.slice none 0 0) from rfl)
  have bB4_3 := (blk_cell B4.out 3).trans (show _ = some (.slice none 0 0) from rfl)
  have bB4_4 := (blk_cell B4.out 4).trans (show _ = some (.int .i64 0) from rfl)
  have bB4_f := fun j => blk_frozen B4.out j
  by_cases hv1 : vN old = false
  · have HV1 := Aside0.mk hv1
    go_wp2_with (first | (go_at_call 47; with_reducible refine (named_doc2 old _).mono ?_; rw [HV1.out]; rintro e w5 ⟨rfl, hb⟩; have n_B2 := Aside0.mk (blk_below B2.out hb); have n_B4 := Aside0.mk (blk_below B4.out hb); have n_HB := Aside0.mk (below_step HB.out hb); clear B2 B4 HB; have B2 := n_B2; have B4 := n_B4; have HB := n_HB; clear n_B2 n_B4 n_HB; clear hb; clear bB2_0 bB2_1 bB2_2 bB2_3 bB2_4 bB2_f; have bB2_0 := (blk_cell B2.out 0).trans (show _ = some (.int .i64 S.room) from rfl); have bB2_1 := (blk_cell B2.out 1).trans (show _ = some (.slice Af S.fails.length cf) from rfl); have bB2_2 := (blk_cell B2.out 2).trans (show _ = some (.slice Ap S.parts.length cp) from rfl); have bB2_3 := (blk_cell B2.out 3).trans (show _ = some (.slice A S.files.length c) from rfl); have bB2_4 := (blk_cell B2.out 4).trans (show _ = some (.int .i64 (S.calls + 1)) from rfl); have bB2_f := fun j => blk_frozen B2.out j; clear bB4_0 bB4_1 bB4_2 bB4_3 bB4_4 bB4_f; have bB4_0 := (blk_cell B4.out 0).trans (show _ = some (.int .i64 0) from rfl); have bB4_1 := (blk_cell B4.out 1).trans (show _ = some (.slice none 0 0) from rfl); have bB4_2 := (blk_cell B4.out 2).trans (show _ = some (.slice none 0 0) from rfl); have bB4_3 := (blk_cell B4.out 3).trans (show _ = some (.slice none 0 0) from rfl); have bB4_4 := (blk_cell B4.out 4).trans (show _ = some (.int .i64 0) from rfl); have bB4_f := fun j => blk_frozen B4.out j))
    clear bB2_0 bB2_1 bB2_2 bB2_3 bB2_4 bB2_f
    clear bB4_0 bB4_1 bB4_2 bB4_3 bB4_4 bB4_f
    rename World => wy
    have s0 := blk_put (cs' := #[.int .i64 S.room, .slice none 0 0, .slice none 0 0, .slice none 0 0, .int .i64 0]) B4.out 0 (.int .i64 S.room) rfl
    have h0 := below_set (j := 0) (v := .int .i64 S.room) HB.out GE_g4.out
    have s1 := blk_put (cs' := #[.int .i64 S.room, .slice Af S.fails.length cf, .slice none 0 0, .slice none 0 0, .int .i64 0]) s0 1 (.slice Af S.fails.length cf) rfl
    have h1 := below_set (j := 1) (v := .slice Af S.fails.length cf) h0 GE_g4.out
    have s2 := blk_put (cs' := #[.int .i64 S.room, .slice Af S.fails.length cf, .slice Ap S.parts.length cp, .slice none 0 0, .int .i64 0]) s1 2 (.slice Ap S.parts.length cp) rfl
    have h2 := below_set (j := 2) (v := .slice Ap S.parts.length cp) h1 GE_g4.out
    have s3 := blk_put (cs' := #[.int .i64 S.room, .slice Af S.fails.length cf, .slice Ap S.parts.length cp, .slice A S.files.length c, .int .i64 0]) s2 3 (.slice A S.files.length c) rfl
    have h3 := below_set (j := 3) (v := .slice A S.files.length c) h2 GE_g4.out
    have s4 := blk_put (cs' := #[.int .i64 S.room, .slice Af S.fails.length cf, .slice Ap S.parts.length cp, .slice A S.files.length c, .int .i64 (S.calls + 1)]) s3 4 (.int .i64 (S.calls + 1)) rfl
    have h4 := below_set (j := 4) (v := .int .i64 (S.calls + 1)) h3 GE_g4.out
    have hs : ∀ k, k ≠ g4 → (World.setCell (World.setCell (World.setCell (World.setCell (World.setCell wy ⟨g4, 0, none⟩ (.int .i64 S.room)) ⟨g4, 1, none⟩ (.slice Af S.fails.length cf)) ⟨g4, 2, none⟩ (.slice Ap S.parts.length cp)) ⟨g4, 3, none⟩ (.slice A S.files.length c)) ⟨g4, 4, none⟩ (.int .i64 (S.calls + 1))).heap[k]? = wy.heap[k]? := fun k hk => ((Below.heap_setCell (World.setCell (World.setCell (World.setCell (World.setCell wy ⟨g4, 0, none⟩ (.int .i64 S.room)) ⟨g4, 1, none⟩ (.slice Af S.fails.length cf)) ⟨g4, 2, none⟩ (.slice Ap S.parts.length cp)) ⟨g4, 3, none⟩ (.slice A S.files.length c)) ⟨g4, 4, none⟩ (.int .i64 (S.calls + 1)) k hk).trans ((Below.heap_setCell (World.setCell (World.setCell (World.setCell wy ⟨g4, 0, none⟩ (.int .i64 S.room)) ⟨g4, 1, none⟩ (.slice Af S.fails.length cf)) ⟨g4, 2, none⟩ (.slice Ap S.parts.length cp)) ⟨g4, 3, none⟩ (.slice A S.files.length c) k hk).trans ((Below.heap_setCell (World.setCell (World.setCell wy ⟨g4, 0, none⟩ (.int .i64 S.room)) ⟨g4, 1, none⟩ (.slice Af S.fails.length cf)) ⟨g4, 2, none⟩ (.slice Ap S.parts.length cp) k hk).trans ((Below.heap_setCell (World.setCell wy ⟨g4, 0, none⟩ (.int .i64 S.room)) ⟨g4, 1, none⟩ (.slice Af S.fails.length cf) k hk).trans (Below.heap_setCell wy ⟨g4, 0, none⟩ (.int .i64 S.room) k hk)))))
    generalize (World.setCell (World.setCell (World.setCell (World.setCell (World.setCell wy ⟨g4, 0, none⟩ (.int .i64 S.room)) ⟨g4, 1, none⟩ (.slice Af S.fails.length cf)) ⟨g4, 2, none⟩ (.slice Ap S.parts.length cp)) ⟨g4, 3, none⟩ (.slice A S.files.length c)) ⟨g4, 4, none⟩ (.int .i64 (S.calls + 1))) = w9 at s4 h4 hs ⊢
    have n_B2 := Aside0.mk ((hs g2 NE_g2_g4.out).trans B2.out); have n_HB := Aside0.mk (h4); clear B2 HB; have B2 := n_B2; have HB := n_HB; clear n_B2 n_HB
    clear B4
    have B4 := Aside0.mk s4
    clear hs s0 s1 s2 s3 s4 h0 h1 h2 h3 h4
    refine bodyPost_ret (results_ct rfl _ _ g4 49 #[.int .i64 S.room, .slice Af S.fails.length cf, .slice Ap S.parts.length cp, .slice A S.files.length c, .int .i64 (S.calls + 1)] (0, 0) _ rfl B4.out Try.underlying49 rfl (by kernel_rfl)) rfl ?_
    have e : r = (cnt S, 2) := by rw [← HR.out]; unfold renameP; rw [if_pos (.inl hv1)]
    rw [e]
    exact ⟨A, c, rfl, (HI.out.below HB.out).cnt.mono (fun k hk => .inl hk.1), HB.out⟩
  · have HV1 : Aside0 (vN old = true) := ⟨by simpa using hv1⟩
    by_cases hv2 : vN n = false
    · have HV2 := Aside0.mk hv2
      go_wp2_with (first | (go_at_call 47; with_reducible refine (named_doc2 old _).mono ?_; rw [HV1.out]; rintro e w5 ⟨rfl, hb⟩; have n_B2 := Aside0.mk (blk_below B2.out hb); have n_B4 := Aside0.mk (blk_below B4.out hb); have n_HB := Aside0.mk (below_step HB.out hb); clear B2 B4 HB; have B2 := n_B2; have B4 := n_B4; have HB := n_HB; clear n_B2 n_B4 n_HB; clear hb; clear bB2_0 bB2_1 bB2_2 bB2_3 bB2_4 bB2_f; have bB2_0 := (blk_cell B2.out 0).trans (show _ = some (.int .i64 S.room) from rfl); have bB2_1 := (blk_cell B2.out 1).trans (show _ = some (.slice Af S.fails.length cf) from rfl); have bB2_2 := (blk_cell B2.out 2).trans (show _ = some (.slice Ap S.parts.length cp) from rfl); have bB2_3 := (blk_cell B2.out 3).trans (show _ = some (.slice A S.files.length c) from rfl); have bB2_4 := (blk_cell B2.out 4).trans (show _ = some (.int .i64 (S.calls + 1)) from rfl); have bB2_f := fun j => blk_frozen B2.out j; clear bB4_0 bB4_1 bB4_2 bB4_3 bB4_4 bB4_f; have bB4_0 := (blk_cell B4.out 0).trans (show _ = some (.int .i64 0) from rfl); have bB4_1 := (blk_cell B4.out 1).trans (show _ = some (.slice none 0 0) from rfl); have bB4_2 := (blk_cell B4.out 2).trans (show _ = some (.slice none 0 0) from rfl); have bB4_3 := (blk_cell B4.out 3).trans (show _ = some (.slice none 0 0) from rfl); have bB4_4 := (blk_cell B4.out 4).trans (show _ = some (.int .i64 0) from rfl); have bB4_f := fun j => blk_frozen B4.out j) | (go_at_call 47; with_reducible refine (named_doc2 n _).mono ?_; rw [HV2.out]; rintro e w5 ⟨rfl, hb⟩; have n_B2 := Aside0.mk (blk_below B2.out hb); have n_B4 := Aside0.mk (blk_below B4.out hb); have n_HB := Aside0.mk (below_step HB.out hb); clear B2 B4 HB; have B2 := n_B2; have B4 := n_B4; have HB := n_HB; clear n_B2 n_B4 n_HB; clear hb; clear bB2_0 bB2_1 bB2_2 bB2_3 bB2_4 bB2_f; have bB2_0 := (blk_cell B2.out 0).trans (show _ = some (.int .i64 S.room) from rfl); have bB2_1 := (blk_cell B2.out 1).trans (show _ = some (.slice Af S.fails.length cf) from rfl); have bB2_2 := (blk_cell B2.out 2).trans (show _ = some (.slice Ap S.parts.length cp) from rfl); have bB2_3 := (blk_cell B2.out 3).trans (show _ = some (.slice A S.files.length c) from rfl); have bB2_4 := (blk_cell B2.out 4).trans (show _ = some (.int .i64 (S.calls + 1)) from rfl); have bB2_f := fun j => blk_frozen B2.out j; clear bB4_0 bB4_1 bB4_2 bB4_3 bB4_4 bB4_f; have bB4_0 := (blk_cell B4.out 0).trans (show _ = some (.int .i64 0) from rfl); have bB4_1 := (blk_cell B4.out 1).trans (show _ = some (.slice none 0 0) from rfl); have bB4_2 := (blk_cell B4.out 2).trans (show _ = some (.slice none 0 0) from rfl); have bB4_3 := (blk_cell B4.out 3).trans (show _ = some (.slice none 0 0) from rfl); have bB4_4 := (blk_cell B4.out 4).trans (show _ = some (.int .i64 0) from rfl); have bB4_f := fun j => blk_frozen B4.out j))
      clear bB2_0 bB2_1 bB2_2 bB2_3 bB2_4 bB2_f
      clear bB4_0 bB4_1 bB4_2 bB4_3 bB4_4 bB4_f
      rename World => wy
      have s0 := blk_put (cs' := #[.int .i64 S.room, .slice none 0 0, .slice none 0 0, .slice none 0 0, .int .i64 0]) B4.out 0 (.int .i64 S.room) rfl
      have h0 := below_set (j := 0) (v := .int .i64 S.room) HB.out GE_g4.out
      have s1 := blk_put (cs' := #[.int .i64 S.room, .slice Af S.fails.length cf, .slice none 0 0, .slice none 0 0, .int .i64 0]) s0 1 (.slice Af S.fails.length cf) rfl
      have h1 := below_set (j := 1) (v := .slice Af S.fails.length cf) h0 GE_g4.out
      have s2 := blk_put (cs' := #[.int .i64 S.room, .slice Af S.fails.length cf, .slice Ap S.parts.length cp, .slice none 0 0, .int .i64 0]) s1 2 (.slice Ap S.parts.length cp) rfl
      have h2 := below_set (j := 2) (v := .slice Ap S.parts.length cp) h1 GE_g4.out
      have s3 := blk_put (cs' := #[.int .i64 S.room, .slice Af S.fails.length cf, .slice Ap S.parts.length cp, .slice A S.files.length c, .int .i64 0]) s2 3 (.slice A S.files.length c) rfl
      have h3 := below_set (j := 3) (v := .slice A S.files.length c) h2 GE_g4.out
      have s4 := blk_put (cs' := #[.int .i64 S.room, .slice Af S.fails.length cf, .slice Ap S.parts.length cp, .slice A S.files.length c, .int .i64 (S.calls + 1)]) s3 4 (.int .i64 (S.calls + 1)) rfl
      have h4 := below_set (j := 4) (v := .int .i64 (S.calls + 1)) h3 GE_g4.out
      have hs : ∀ k, k ≠ g4 → (World.setCell (World.setCell (World.setCell (World.setCell (World.setCell wy ⟨g4, 0, none⟩ (.int .i64 S.room)) ⟨g4, 1, none⟩ (.slice Af S.fails.length cf)) ⟨g4, 2, none⟩ (.slice Ap S.parts.length cp)) ⟨g4, 3, none⟩ (.slice A S.files.length c)) ⟨g4, 4, none⟩ (.int .i64 (S.calls + 1))).heap[k]? = wy.heap[k]? := fun k hk => ((Below.heap_setCell (World.setCell (World.setCell (World.setCell (World.setCell wy ⟨g4, 0, none⟩ (.int .i64 S.room)) ⟨g4, 1, none⟩ (.slice Af S.fails.length cf)) ⟨g4, 2, none⟩ (.slice Ap S.parts.length cp)) ⟨g4, 3, none⟩ (.slice A S.files.length c)) ⟨g4, 4, none⟩ (.int .i64 (S.calls + 1)) k hk).trans ((Below.heap_setCell (World.setCell (World.setCell (World.setCell wy ⟨g4, 0, none⟩ (.int .i64 S.room)) ⟨g4, 1, none⟩ (.slice Af S.fails.length cf)) ⟨g4, 2, none⟩ (.slice Ap S.parts.length cp)) ⟨g4, 3, none⟩ (.slice A S.files.length c) k hk).trans ((Below.heap_setCell (World.setCell (World.setCell wy ⟨g4, 0, none⟩ (.int .i64 S.room)) ⟨g4, 1, none⟩ (.slice Af S.fails.length cf)) ⟨g4, 2, none⟩ (.slice Ap S.parts.length cp) k hk).trans ((Below.heap_setCell (World.setCell wy ⟨g4, 0, none⟩ (.int .i64 S.room)) ⟨g4, 1, none⟩ (.slice Af S.fails.length cf) k hk).trans (Below.heap_setCell wy ⟨g4, 0, none⟩ (.int .i64 S.room) k hk)))))
      generalize (World.setCell (World.setCell (World.setCell (World.setCell (World.setCell wy ⟨g4, 0, none⟩ (.int .i64 S.room)) ⟨g4, 1, none⟩ (.slice Af S.fails.length cf)) ⟨g4, 2, none⟩ (.slice Ap S.parts.length cp)) ⟨g4, 3, none⟩ (.slice A S.files.length c)) ⟨g4, 4, none⟩ (.int .i64 (S.calls + 1))) = w9 at s4 h4 hs ⊢
      have n_B2 := Aside0.mk ((hs g2 NE_g2_g4.out).trans B2.out); have n_HB := Aside0.mk (h4); clear B2 HB; have B2 := n_B2; have HB := n_HB; clear n_B2 n_HB
      clear B4
      have B4 := Aside0.mk s4
      clear hs s0 s1 s2 s3 s4 h0 h1 h2 h3 h4
      refine bodyPost_ret (results_ct rfl _ _ g4 49 #[.int .i64 S.room, .slice Af S.fails.length cf, .slice Ap S.parts.length cp, .slice A S.files.length c, .int .i64 (S.calls + 1)] (0, 0) _ rfl B4.out Try.underlying49 rfl (by kernel_rfl)) rfl ?_
      have e : r = (cnt S, 2) := by rw [← HR.out]; unfold renameP; rw [if_pos (.inr hv2)]
      rw [e]
      exact ⟨A, c, rfl, (HI.out.below HB.out).cnt.mono (fun k hk => .inl hk.1), HB.out⟩
    · have HV2 : Aside0 (vN n = true) := ⟨by simpa using hv2⟩
      have hvv : ¬ (vN old = false ∨ vN n = false) := fun h => h.elim hv1 hv2
      rcases findI_get old (cnt S).files 0 with ⟨hfi, hgn⟩ | ⟨j, p, hfi, hjp, hpn, hgn⟩
      · have HF := Aside0.mk hfi
        have hg2 : get S.files old = none := hgn
        clear hfi hgn
        go_wp2_with (first | (go_at_call 47; with_reducible refine (named_doc2 old _).mono ?_; rw [HV1.out]; rintro e w5 ⟨rfl, hb⟩; have n_B2 := Aside0.mk (blk_below B2.out hb); have n_B4 := Aside0.mk (blk_below B4.out hb); have n_HB := Aside0.mk (below_step HB.out hb); clear B2 B4 HB; have B2 := n_B2; have B4 := n_B4; have HB := n_HB; clear n_B2 n_B4 n_HB; clear hb; clear bB2_0 bB2_1 bB2_2 bB2_3 bB2_4 bB2_f; have bB2_0 := (blk_cell B2.out 0).trans (show _ = some (.int .i64 S.room) from rfl); have bB2_1 := (blk_cell B2.out 1).trans (show _ = some (.slice Af S.fails.length cf) from rfl); have bB2_2 := (blk_cell B2.out 2).trans (show _ = some (.slice Ap S.parts.length cp) from rfl); have bB2_3 := (blk_cell B2.out 3).trans (show _ = some (.slice A S.files.length c) from rfl); have bB2_4 := (blk_cell B2.out 4).trans (show _ = some (.int .i64 (S.calls + 1)) from rfl); have bB2_f := fun j => blk_frozen B2.out j; clear bB4_0 bB4_1 bB4_2 bB4_3 bB4_4 bB4_f; have bB4_0 := (blk_cell B4.out 0).trans (show _ = some (.int .i64 0) from rfl); have bB4_1 := (blk_cell B4.out 1).trans (show _ = some (.slice none 0 0) from rfl); have bB4_2 := (blk_cell B4.out 2).trans (show _ = some (.slice none 0 0) from rfl); have bB4_3 := (blk_cell B4.out 3).trans (show _ = some (.slice none 0 0) from rfl); have bB4_4 := (blk_cell B4.out 4).trans (show _ = some (.int .i64 0) from rfl); have bB4_f := fun j => blk_frozen B4.out j) | (go_at_call 47; with_reducible refine (named_doc2 n _).mono ?_; rw [HV2.out]; rintro e w5 ⟨rfl, hb⟩; have n_B2 := Aside0.mk (blk_below B2.out hb); have n_B4 := Aside0.mk (blk_below B4.out hb); have n_HB := Aside0.mk (below_step HB.out hb); clear B2 B4 HB; have B2 := n_B2; have B4 := n_B4; have HB := n_HB; clear n_B2 n_B4 n_HB; clear hb; clear bB2_0 bB2_1 bB2_2 bB2_3 bB2_4 bB2_f; have bB2_0 := (blk_cell B2.out 0).trans (show _ = some (.int .i64 S.room) from rfl); have bB2_1 := (blk_cell B2.out 1).trans (show _ = some (.slice Af S.fails.length cf) from rfl); have bB2_2 := (blk_cell B2.out 2).trans (show _ = some (.slice Ap S.parts.length cp) from rfl); have bB2_3 := (blk_cell B2.out 3).trans (show _ = some (.slice A S.files.length c) from rfl); have bB2_4 := (blk_cell B2.out 4).trans (show _ = some (.int .i64 (S.calls + 1)) from rfl); have bB2_f := fun j => blk_frozen B2.out j; clear bB4_0 bB4_1 bB4_2 bB4_3 bB4_4 bB4_f; have bB4_0 := (blk_cell B4.out 0).trans (show _ = some (.int .i64 0) from rfl); have bB4_1 := (blk_cell B4.out 1).trans (show _ = some (.slice none 0 0) from rfl); have bB4_2 := (blk_cell B4.out 2).trans (show _ = some (.slice none 0 0) from rfl); have bB4_3 := (blk_cell B4.out 3).trans (show _ = some (.slice none 0 0) from rfl); have bB4_4 := (blk_cell B4.out 4).trans (show _ = some (.int .i64 0) from rfl); have bB4_f := fun j => blk_frozen B4.out j) | (go_at_call 48; refine (find_doc Af cf Ap cp A c (cnt S) old _ ((HI.out.below HB.out).cnt) HLN.out).mono ?_; rw [HF.out]; rintro e w5 ⟨rfl, hb⟩; have n_B2 := Aside0.mk (blk_below B2.out hb); have n_B4 := Aside0.mk (blk_below B4.out hb); have n_HB := Aside0.mk (below_step HB.out hb); clear B2 B4 HB; have B2 := n_B2; have B4 := n_B4; have HB := n_HB; clear n_B2 n_B4 n_HB; clear hb; clear bB2_0 bB2_1 bB2_2 bB2_3 bB2_4 bB2_f; have bB2_0 := (blk_cell B2.out 0).trans (show _ = some (.int .i64 S.room) from rfl); have bB2_1 := (blk_cell B2.out 1).trans (show _ = some (.slice Af S.fails.length cf) from rfl); have bB2_2 := (blk_cell B2.out 2).trans (show _ = some (.slice Ap S.parts.length cp) from rfl); have bB2_3 := (blk_cell B2.out 3).trans (show _ = some (.slice A S.files.length c) from rfl); have bB2_4 := (blk_cell B2.out 4).trans (show _ = some (.int .i64 (S.calls + 1)) from rfl); have bB2_f := fun j => blk_frozen B2.out j; clear bB4_0 bB4_1 bB4_2 bB4_3 bB4_4 bB4_f; have bB4_0 := (blk_cell B4.out 0).trans (show _ = some (.int .i64 0) from rfl); have bB4_1 := (blk_cell B4.out 1).trans (show _ = some (.slice none 0 0) from rfl); have bB4_2 := (blk_cell B4.out 2).trans (show _ = some (.slice none 0 0) from rfl); have bB4_3 := (blk_cell B4.out 3).trans (show _ = some (.slice none 0 0) from rfl); have bB4_4 := (blk_cell B4.out 4).trans (show _ = some (.int .i64 0) from rfl); have bB4_f := fun j => blk_frozen B4.out j))
        clear bB2_0 bB2_1 bB2_2 bB2_3 bB2_4 bB2_f
        clear bB4_0 bB4_1 bB4_2 bB4_3 bB4_4 bB4_f
        rename World => wy
        have s0 := blk_put (cs' := #[.int .i64 S.room, .slice none 0 0, .slice none 0 0, .slice none 0 0, .int .i64 0]) B4.out 0 (.int .i64 S.room) rfl
        have h0 := below_set (j := 0) (v := .int .i64 S.room) HB.out GE_g4.out
        have s1 := blk_put (cs' := #[.int .i64 S.room, .slice Af S.fails.length cf, .slice none 0 0, .slice none 0 0, .int .i64 0]) s0 1 (.slice Af S.fails.length cf) rfl
        have h1 := below_set (j := 1) (v := .slice Af S.fails.length cf) h0 GE_g4.out
        have s2 := blk_put (cs' := #[.int .i64 S.room, .slice Af S.fails.length cf, .slice Ap S.parts.length cp, .slice none 0 0, .int .i64 0]) s1 2 (.slice Ap S.parts.length cp) rfl
        have h2 := below_set (j := 2) (v := .slice Ap S.parts.length cp) h1 GE_g4.out
        have s3 := blk_put (cs' := #[.int .i64 S.room, .slice Af S.fails.length cf, .slice Ap S.parts.length cp, .slice A S.files.length c, .int .i64 0]) s2 3 (.slice A S.files.length c) rfl
        have h3 := below_set (j := 3) (v := .slice A S.files.length c) h2 GE_g4.out
        have s4 := blk_put (cs' := #[.int .i64 S.room, .slice Af S.fails.length cf, .slice Ap S.parts.length cp, .slice A S.files.length c, .int .i64 (S.calls + 1)]) s3 4 (.int .i64 (S.calls + 1)) rfl
        have h4 := below_set (j := 4) (v := .int .i64 (S.calls + 1)) h3 GE_g4.out
        have hs : ∀ k, k ≠ g4 → (World.setCell (World.setCell (World.setCell (World.setCell (World.setCell wy ⟨g4, 0, none⟩ (.int .i64 S.room)) ⟨g4, 1, none⟩ (.slice Af S.fails.length cf)) ⟨g4, 2, none⟩ (.slice Ap S.parts.length cp)) ⟨g4, 3, none⟩ (.slice A S.files.length c)) ⟨g4, 4, none⟩ (.int .i64 (S.calls + 1))).heap[k]? = wy.heap[k]? := fun k hk => ((Below.heap_setCell (World.setCell (World.setCell (World.setCell (World.setCell wy ⟨g4, 0, none⟩ (.int .i64 S.room)) ⟨g4, 1, none⟩ (.slice Af S.fails.length cf)) ⟨g4, 2, none⟩ (.slice Ap S.parts.length cp)) ⟨g4, 3, none⟩ (.slice A S.files.length c)) ⟨g4, 4, none⟩ (.int .i64 (S.calls + 1)) k hk).trans ((Below.heap_setCell (World.setCell (World.setCell (World.setCell wy ⟨g4, 0, none⟩ (.int .i64 S.room)) ⟨g4, 1, none⟩ (.slice Af S.fails.length cf)) ⟨g4, 2, none⟩ (.slice Ap S.parts.length cp)) ⟨g4, 3, none⟩ (.slice A S.files.length c) k hk).trans ((Below.heap_setCell (World.setCell (World.setCell wy ⟨g4, 0, none⟩ (.int .i64 S.room)) ⟨g4, 1, none⟩ (.slice Af S.fails.length cf)) ⟨g4, 2, none⟩ (.slice Ap S.parts.length cp) k hk).trans ((Below.heap_setCell (World.setCell wy ⟨g4, 0, none⟩ (.int .i64 S.room)) ⟨g4, 1, none⟩ (.slice Af S.fails.length cf) k hk).trans (Below.heap_setCell wy ⟨g4, 0, none⟩ (.int .i64 S.room) k hk)))))
        generalize (World.setCell (World.setCell (World.setCell (World.setCell (World.setCell wy ⟨g4, 0, none⟩ (.int .i64 S.room)) ⟨g4, 1, none⟩ (.slice Af S.fails.length cf)) ⟨g4, 2, none⟩ (.slice Ap S.parts.length cp)) ⟨g4, 3, none⟩ (.slice A S.files.length c)) ⟨g4, 4, none⟩ (.int .i64 (S.calls + 1))) = w9 at s4 h4 hs ⊢
        have n_B2 := Aside0.mk ((hs g2 NE_g2_g4.out).trans B2.out); have n_HB := Aside0.mk (h4); clear B2 HB; have B2 := n_B2; have HB := n_HB; clear n_B2 n_HB
        clear B4
        have B4 := Aside0.mk s4
        clear hs s0 s1 s2 s3 s4 h0 h1 h2 h3 h4
        refine bodyPost_ret (results_ct rfl _ _ g4 49 #[.int .i64 S.room, .slice Af S.fails.length cf, .slice Ap S.parts.length cp, .slice A S.files.length c, .int .i64 (S.calls + 1)] (0, 0) _ rfl B4.out Try.underlying49 rfl (by kernel_rfl)) rfl ?_
        have e : r = (cnt S, 10) := by rw [← HR.out]; unfold renameP; rw [if_neg hvv, hg2]
        rw [e]
        exact ⟨A, c, rfl, (HI.out.below HB.out).cnt.mono (fun k hk => .inl hk.1), HB.out⟩
      · rw [Nat.zero_add] at hfi
        have HF := Aside0.mk hfi
        clear hfi
        have hg2 : get S.files old = some p.2 := hgn
        clear hgn
        have hj0 : (0 : Int) ≤ (j : Int) := Int.natCast_nonneg j
        have hj1 : ¬ (j : Int) < 0 := by omega
        obtain ⟨pt, hpt⟩ : ∃ pt, partOf (refusedP (cnt S).fails (cnt S).parts (cnt S).calls) = pt := ⟨_, rfl⟩
        have HPT := Aside0.mk hpt
        clear hpt
        by_cases hrf : isRef S = true
        · have HRF : Aside0 ((refusedP (cnt S).fails (cnt S).parts (cnt S).calls).isSome = true) := ⟨hrf⟩
          go_wp2_with (first | (go_at_call 47; with_reducible refine (named_doc2 old _).mono ?_; rw [HV1.out]; rintro e w5 ⟨rfl, hb⟩; have n_B2 := Aside0.mk (blk_below B2.out hb); have n_B4 := Aside0.mk (blk_below B4.out hb); have n_HB := Aside0.mk (below_step HB.out hb); clear B2 B4 HB; have B2 := n_B2; have B4 := n_B4; have HB := n_HB; clear n_B2 n_B4 n_HB; clear hb; clear bB2_0 bB2_1 bB2_2 bB2_3 bB2_4 bB2_f; have bB2_0 := (blk_cell B2.out 0).trans (show _ = some (.int .i64 S.room) from rfl); have bB2_1 := (blk_cell B2.out 1).trans (show _ = some (.slice Af S.fails.length cf) from rfl); have bB2_2 := (blk_cell B2.out 2).trans (show _ = some (.slice Ap S.parts.length cp) from rfl); have bB2_3 := (blk_cell B2.out 3).trans (show _ = some (.slice A S.files.length c) from rfl); have bB2_4 := (blk_cell B2.out 4).trans (show _ = some (.int .i64 (S.calls + 1)) from rfl); have bB2_f := fun j => blk_frozen B2.out j; clear bB4_0 bB4_1 bB4_2 bB4_3 bB4_4 bB4_f; have bB4_0 := (blk_cell B4.out 0).trans (show _ = some (.int .i64 0) from rfl); have bB4_1 := (blk_cell B4.out 1).trans (show _ = some (.slice none 0 0) from rfl); have bB4_2 := (blk_cell B4.out 2).trans (show _ = some (.slice none 0 0) from rfl); have bB4_3 := (blk_cell B4.out 3).trans (show _ = some (.slice none 0 0) from rfl); have bB4_4 := (blk_cell B4.out 4).trans (show _ = some (.int .i64 0) from rfl); have bB4_f := fun j => blk_frozen B4.out j) | (go_at_call 47; with_reducible refine (named_doc2 n _).mono ?_; rw [HV2.out]; rintro e w5 ⟨rfl, hb⟩; have n_B2 := Aside0.mk (blk_below B2.out hb); have n_B4 := Aside0.mk (blk_below B4.out hb); have n_HB := Aside0.mk (below_step HB.out hb); clear B2 B4 HB; have B2 := n_B2; have B4 := n_B4; have HB := n_HB; clear n_B2 n_B4 n_HB; clear hb; clear bB2_0 bB2_1 bB2_2 bB2_3 bB2_4 bB2_f; have bB2_0 := (blk_cell B2.out 0).trans (show _ = some (.int .i64 S.room) from rfl); have bB2_1 := (blk_cell B2.out 1).trans (show _ = some (.slice Af S.fails.length cf) from rfl); have bB2_2 := (blk_cell B2.out 2).trans (show _ = some (.slice Ap S.parts.length cp) from rfl); have bB2_3 := (blk_cell B2.out 3).trans (show _ = some (.slice A S.files.length c) from rfl); have bB2_4 := (blk_cell B2.out 4).trans (show _ = some (.int .i64 (S.calls + 1)) from rfl); have bB2_f := fun j => blk_frozen B2.out j; clear bB4_0 bB4_1 bB4_2 bB4_3 bB4_4 bB4_f; have bB4_0 := (blk_cell B4.out 0).trans (show _ = some (.int .i64 0) from rfl); have bB4_1 := (blk_cell B4.out 1).trans (show _ = some (.slice none 0 0) from rfl); have bB4_2 := (blk_cell B4.out 2).trans (show _ = some (.slice none 0 0) from rfl); have bB4_3 := (blk_cell B4.out 3).trans (show _ = some (.slice none 0 0) from rfl); have bB4_4 := (blk_cell B4.out 4).trans (show _ = some (.int .i64 0) from rfl); have bB4_f := fun j => blk_frozen B4.out j) | (go_at_call 48; refine (find_doc Af cf Ap cp A c (cnt S) old _ ((HI.out.below HB.out).cnt) HLN.out).mono ?_; rw [HF.out]; rintro e w5 ⟨rfl, hb⟩; have n_B2 := Aside0.mk (blk_below B2.out hb); have n_B4 := Aside0.mk (blk_below B4.out hb); have n_HB := Aside0.mk (below_step HB.out hb); clear B2 B4 HB; have B2 := n_B2; have B4 := n_B4; have HB := n_HB; clear n_B2 n_B4 n_HB; clear hb; clear bB2_0 bB2_1 bB2_2 bB2_3 bB2_4 bB2_f; have bB2_0 := (blk_cell B2.out 0).trans (show _ = some (.int .i64 S.room) from rfl); have bB2_1 := (blk_cell B2.out 1).trans (show _ = some (.slice Af S.fails.length cf) from rfl); have bB2_2 := (blk_cell B2.out 2).trans (show _ = some (.slice Ap S.parts.length cp) from rfl); have bB2_3 := (blk_cell B2.out 3).trans (show _ = some (.slice A S.files.length c) from rfl); have bB2_4 := (blk_cell B2.out 4).trans (show _ = some (.int .i64 (S.calls + 1)) from rfl); have bB2_f := fun j => blk_frozen B2.out j; clear bB4_0 bB4_1 bB4_2 bB4_3 bB4_4 bB4_f; have bB4_0 := (blk_cell B4.out 0).trans (show _ = some (.int .i64 0) from rfl); have bB4_1 := (blk_cell B4.out 1).trans (show _ = some (.slice none 0 0) from rfl); have bB4_2 := (blk_cell B4.out 2).trans (show _ = some (.slice none 0 0) from rfl); have bB4_3 := (blk_cell B4.out 3).trans (show _ = some (.slice none 0 0) from rfl); have bB4_4 := (blk_cell B4.out 4).trans (show _ = some (.int .i64 0) from rfl); have bB4_f := fun j => blk_frozen B4.out j) | (go_at_call 61; refine (refused_doc Af cf Ap cp A c (cnt S) _ ((HI.out.below HB.out).cnt) HFN.out).mono ?_; rw [HPT.out, HRF.out]; rintro e w5 ⟨rfl, hb⟩; have n_B2 := Aside0.mk (blk_below B2.out hb); have n_B4 := Aside0.mk (blk_below B4.out hb); have n_HB := Aside0.mk (below_step HB.out hb); clear B2 B4 HB; have B2 := n_B2; have B4 := n_B4; have HB := n_HB; clear n_B2 n_B4 n_HB; clear hb; clear bB2_0 bB2_1 bB2_2 bB2_3 bB2_4 bB2_f; have bB2_0 := (blk_cell B2.out 0).trans (show _ = some (.int .i64 S.room) from rfl); have bB2_1 := (blk_cell B2.out 1).trans (show _ = some (.slice Af S.fails.length cf) from rfl); have bB2_2 := (blk_cell B2.out 2).trans (show _ = some (.slice Ap S.parts.length cp) from rfl); have bB2_3 := (blk_cell B2.out 3).trans (show _ = some (.slice A S.files.length c) from rfl); have bB2_4 := (blk_cell B2.out 4).trans (show _ = some (.int .i64 (S.calls + 1)) from rfl); have bB2_f := fun j => blk_frozen B2.out j; clear bB4_0 bB4_1 bB4_2 bB4_3 bB4_4 bB4_f; have bB4_0 := (blk_cell B4.out 0).trans (show _ = some (.int .i64 0) from rfl); have bB4_1 := (blk_cell B4.out 1).trans (show _ = some (.slice none 0 0) from rfl); have bB4_2 := (blk_cell B4.out 2).trans (show _ = some (.slice none 0 0) from rfl); have bB4_3 := (blk_cell B4.out 3).trans (show _ = some (.slice none 0 0) from rfl); have bB4_4 := (blk_cell B4.out 4).trans (show _ = some (.int .i64 0) from rfl); have bB4_f := fun j => blk_frozen B4.out j))
          clear bB2_0 bB2_1 bB2_2 bB2_3 bB2_4 bB2_f
          clear bB4_0 bB4_1 bB4_2 bB4_3 bB4_4 bB4_f
          rename World => wy
          have s0 := blk_put (cs' := #[.int .i64 S.room, .slice none 0 0, .slice none 0 0, .slice none 0 0, .int .i64 0]) B4.out 0 (.int .i64 S.room) rfl
          have h0 := below_set (j := 0) (v := .int .i64 S.room) HB.out GE_g4.out
          have s1 := blk_put (cs' := #[.int .i64 S.room, .slice Af S.fails.length cf, .slice none 0 0, .slice none 0 0, .int .i64 0]) s0 1 (.slice Af S.fails.length cf) rfl
          have h1 := below_set (j := 1) (v := .slice Af S.fails.length cf) h0 GE_g4.out
          have s2 := blk_put (cs' := #[.int .i64 S.room, .slice Af S.fails.length cf, .slice Ap S.parts.length cp, .slice none 0 0, .int .i64 0]) s1 2 (.slice Ap S.parts.length cp) rfl
          have h2 := below_set (j := 2) (v := .slice Ap S.parts.length cp) h1 GE_g4.out
          have s3 := blk_put (cs' := #[.int .i64 S.room, .slice Af S.fails.length cf, .slice Ap S.parts.length cp, .slice A S.files.length c, .int .i64 0]) s2 3 (.slice A S.files.length c) rfl
          have h3 := below_set (j := 3) (v := .slice A S.files.length c) h2 GE_g4.out
          have s4 := blk_put (cs' := #[.int .i64 S.room, .slice Af S.fails.length cf, .slice Ap S.parts.length cp, .slice A S.files.length c, .int .i64 (S.calls + 1)]) s3 4 (.int .i64 (S.calls + 1)) rfl
          have h4 := below_set (j := 4) (v := .int .i64 (S.calls + 1)) h3 GE_g4.out
          have hs : ∀ k, k ≠ g4 → (World.setCell (World.setCell (World.setCell (World.setCell (World.setCell wy ⟨g4, 0, none⟩ (.int .i64 S.room)) ⟨g4, 1, none⟩ (.slice Af S.fails.length cf)) ⟨g4, 2, none⟩ (.slice Ap S.parts.length cp)) ⟨g4, 3, none⟩ (.slice A S.files.length c)) ⟨g4, 4, none⟩ (.int .i64 (S.calls + 1))).heap[k]? = wy.heap[k]? := fun k hk => ((Below.heap_setCell (World.setCell (World.setCell (World.setCell (World.setCell wy ⟨g4, 0, none⟩ (.int .i64 S.room)) ⟨g4, 1, none⟩ (.slice Af S.fails.length cf)) ⟨g4, 2, none⟩ (.slice Ap S.parts.length cp)) ⟨g4, 3, none⟩ (.slice A S.files.length c)) ⟨g4, 4, none⟩ (.int .i64 (S.calls + 1)) k hk).trans ((Below.heap_setCell (World.setCell (World.setCell (World.setCell wy ⟨g4, 0, none⟩ (.int .i64 S.room)) ⟨g4, 1, none⟩ (.slice Af S.fails.length cf)) ⟨g4, 2, none⟩ (.slice Ap S.parts.length cp)) ⟨g4, 3, none⟩ (.slice A S.files.length c) k hk).trans ((Below.heap_setCell (World.setCell (World.setCell wy ⟨g4, 0, none⟩ (.int .i64 S.room)) ⟨g4, 1, none⟩ (.slice Af S.fails.length cf)) ⟨g4, 2, none⟩ (.slice Ap S.parts.length cp) k hk).trans ((Below.heap_setCell (World.setCell wy ⟨g4, 0, none⟩ (.int .i64 S.room)) ⟨g4, 1, none⟩ (.slice Af S.fails.length cf) k hk).trans (Below.heap_setCell wy ⟨g4, 0, none⟩ (.int .i64 S.room) k hk)))))
          generalize (World.setCell (World.setCell (World.setCell (World.setCell (World.setCell wy ⟨g4, 0, none⟩ (.int .i64 S.room)) ⟨g4, 1, none⟩ (.slice Af S.fails.length cf)) ⟨g4, 2, none⟩ (.slice Ap S.parts.length cp)) ⟨g4, 3, none⟩ (.slice A S.files.length c)) ⟨g4, 4, none⟩ (.int .i64 (S.calls + 1))) = w9 at s4 h4 hs ⊢
          have n_B2 := Aside0.mk ((hs g2 NE_g2_g4.out).trans B2.out); have n_HB := Aside0.mk (h4); clear B2 HB; have B2 := n_B2; have HB := n_HB; clear n_B2 n_HB
          clear B4
          have B4 := Aside0.mk s4
          clear hs s0 s1 s2 s3 s4 h0 h1 h2 h3 h4
          refine bodyPost_ret (results_ct rfl _ _ g4 49 #[.int .i64 S.room, .slice Af S.fails.length cf, .slice Ap S.parts.length cp, .slice A S.files.length c, .int .i64 (S.calls + 1)] (0, 0) _ rfl B4.out Try.underlying49 rfl (by kernel_rfl)) rfl ?_
          have e : r = (cnt S, 12) := by rw [← HR.out]; unfold renameP; rw [if_neg hvv, hg2]; show (if isRef S = true then _ else _) = _; rw [if_pos hrf]
          rw [e]
          exact ⟨A, c, rfl, (HI.out.below HB.out).cnt.mono (fun k hk => .inl hk.1), HB.out⟩
        · have hrf' : isRef S = false := by simpa using hrf
          have HRF : Aside0 ((refusedP (cnt S).fails (cnt S).parts (cnt S).calls).isSome = false) := ⟨hrf'⟩
          clear hrf
          obtain ⟨pn, f⟩ := p
          simp only at hpn hg2
          obtain rfl : old = pn := hpn.symm
          obtain ⟨ad, A1, c1, e0, x0, x1, x2, l1, q1⟩ := at_F57 HI.out.fs (j : Int) (by omega) (by have := (List.getElem?_eq_some_iff.1 hjp).1; exact Int.ofNat_lt.2 this)
          subst e0
          rw [show rd_T57 (docF S.files) (j : Int) = toS (old, f) from docF_get hjp] at x0 x1 x2 l1 q1
          simp only [toS, Int.toNat_natCast] at x0 x1 x2 l1 q1
          have HLF := Aside0.mk l1
          have HQF := Aside0.mk q1
          have hjl : (j : Int) < (S.files.length : Int) := Int.ofNat_lt.2 (List.getElem?_eq_some_iff.1 hjp).1
          clear l1 q1 hjp
          have Wx0 := Aside0.mk x0
          have Wx1 := Aside0.mk x1
          have Wx2 := Aside0.mk x2
          replace x0 := (HB.out.cell (World.block_lt_of_cell? w _ Wx0.out)).trans Wx0.out
          replace x1 := (HB.out.cell (World.block_lt_of_cell? w _ Wx1.out)).trans Wx1.out
          replace x2 := (HB.out.cell (World.block_lt_of_cell? w _ Wx2.out)).trans Wx2.out
          go_upto_region 11 with (first | (go_at_call 47; with_reducible refine (named_doc2 old _).mono ?_; rw [HV1.out]; rintro e w5 ⟨rfl, hb⟩; have n_B2 := Aside0.mk (blk_below B2.out hb); have n_B4 := Aside0.mk (blk_below B4.out hb); have n_HB := Aside0.mk (below_step HB.out hb); clear B2 B4 HB; have B2 := n_B2; have B4 := n_B4; have HB := n_HB; clear n_B2 n_B4 n_HB; clear hb; clear bB2_0 bB2_1 bB2_2 bB2_3 bB2_4 bB2_f; have bB2_0 := (blk_cell B2.out 0).trans (show _ = some (.int .i64 S.room) from rfl); have bB2_1 := (blk_cell B2.out 1).trans (show _ = some (.slice Af S.fails.length cf) from rfl); have bB2_2 := (blk_cell B2.out 2).trans (show _ = some (.slice Ap S.parts.length cp) from rfl); have bB2_3 := (blk_cell B2.out 3).trans (show _ = some (.slice (some ad) S.files.length c) from rfl); have bB2_4 := (blk_cell B2.out 4).trans (show _ = some (.int .i64 (S.calls + 1)) from rfl); have bB2_f := fun j => blk_frozen B2.out j; clear bB4_0 bB4_1 bB4_2 bB4_3 bB4_4 bB4_f; have bB4_0 := (blk_cell B4.out 0).trans (show _ = some (.int .i64 0) from rfl); have bB4_1 := (blk_cell B4.out 1).trans (show _ = some (.slice none 0 0) from rfl); have bB4_2 := (blk_cell B4.out 2).trans (show _ = some (.slice none 0 0) from rfl); have bB4_3 := (blk_cell B4.out 3).trans (show _ = some (.slice none 0 0) from rfl); have bB4_4 := (blk_cell B4.out 4).trans (show _ = some (.int .i64 0) from rfl); have bB4_f := fun j => blk_frozen B4.out j; clear x0 x1 x2; have x0 := (HB.out.cell (World.block_lt_of_cell? w _ Wx0.out)).trans Wx0.out; have x1 := (HB.out.cell (World.block_lt_of_cell? w _ Wx1.out)).trans Wx1.out; have x2 := (HB.out.cell (World.block_lt_of_cell? w _ Wx2.out)).trans Wx2.out) | (go_at_call 47; with_reducible refine (named_doc2 n _).mono ?_; rw [HV2.out]; rintro e w5 ⟨rfl, hb⟩; have n_B2 := Aside0.mk (blk_below B2.out hb); have n_B4 := Aside0.mk (blk_below B4.out hb); have n_HB := Aside0.mk (below_step HB.out hb); clear B2 B4 HB; have B2 := n_B2; have B4 := n_B4; have HB := n_HB; clear n_B2 n_B4 n_HB; clear hb; clear bB2_0 bB2_1 bB2_2 bB2_3 bB2_4 bB2_f; have bB2_0 := (blk_cell B2.out 0).trans (show _ = some (.int .i64 S.room) from rfl); have bB2_1 := (blk_cell B2.out 1).trans (show _ = some (.slice Af S.fails.length cf) from rfl); have bB2_2 := (blk_cell B2.out 2).trans (show _ = some (.slice Ap S.parts.length cp) from rfl); have bB2_3 := (blk_cell B2.out 3).trans (show _ = some (.slice (some ad) S.files.length c) from rfl); have bB2_4 := (blk_cell B2.out 4).trans (show _ = some (.int .i64 (S.calls + 1)) from rfl); have bB2_f := fun j => blk_frozen B2.out j; clear bB4_0 bB4_1 bB4_2 bB4_3 bB4_4 bB4_f; have bB4_0 := (blk_cell B4.out 0).trans (show _ = some (.int .i64 0) from rfl); have bB4_1 := (blk_cell B4.out 1).trans (show _ = some (.slice none 0 0) from rfl); have bB4_2 := (blk_cell B4.out 2).trans (show _ = some (.slice none 0 0) from rfl); have bB4_3 := (blk_cell B4.out 3).trans (show _ = some (.slice none 0 0) from rfl); have bB4_4 := (blk_cell B4.out 4).trans (show _ = some (.int .i64 0) from rfl); have bB4_f := fun j => blk_frozen B4.out j; clear x0 x1 x2; have x0 := (HB.out.cell (World.block_lt_of_cell? w _ Wx0.out)).trans Wx0.out; have x1 := (HB.out.cell (World.block_lt_of_cell? w _ Wx1.out)).trans Wx1.out; have x2 := (HB.out.cell (World.block_lt_of_cell? w _ Wx2.out)).trans Wx2.out) | (go_at_call 48; refine (find_doc Af cf Ap cp (some ad) c (cnt S) old _ ((HI.out.below HB.out).cnt) HLN.out).mono ?_; rw [HF.out]; rintro e w5 ⟨rfl, hb⟩; have n_B2 := Aside0.mk (blk_below B2.out hb); have n_B4 := Aside0.mk (blk_below B4.out hb); have n_HB := Aside0.mk (below_step HB.out hb); clear B2 B4 HB; have B2 := n_B2; have B4 := n_B4; have HB := n_HB; clear n_B2 n_B4 n_HB; clear hb; clear bB2_0 bB2_1 bB2_2 bB2_3 bB2_4 bB2_f; have bB2_0 := (blk_cell B2.out 0).trans (show _ = some (.int .i64 S.room) from rfl); have bB2_1 := (blk_cell B2.out 1).trans (show _ = some (.slice Af S.fails.length cf) from rfl); have bB2_2 := (blk_cell B2.out 2).trans (show _ = some (.slice Ap S.parts.length cp) from rfl); have bB2_3 := (blk_cell B2.out 3).trans (show _ = some (.slice (some ad) S.files.length c) from rfl); have bB2_4 := (blk_cell B2.out 4).trans (show _ = some (.int .i64 (S.calls + 1)) from rfl); have bB2_f := fun j => blk_frozen B2.out j; clear bB4_0 bB4_1 bB4_2 bB4_3 bB4_4 bB4_f; have bB4_0 := (blk_cell B4.out 0).trans (show _ = some (.int .i64 0) from rfl); have bB4_1 := (blk_cell B4.out 1).trans (show _ = some (.slice none 0 0) from rfl); have bB4_2 := (blk_cell B4.out 2).trans (show _ = some (.slice none 0 0) from rfl); have bB4_3 := (blk_cell B4.out 3).trans (show _ = some (.slice none 0 0) from rfl); have bB4_4 := (blk_cell B4.out 4).trans (show _ = some (.int .i64 0) from rfl); have bB4_f := fun j => blk_frozen B4.out j; clear x0 x1 x2; have x0 := (HB.out.cell (World.block_lt_of_cell? w _ Wx0.out)).trans Wx0.out; have x1 := (HB.out.cell (World.block_lt_of_cell? w _ Wx1.out)).trans Wx1.out; have x2 := (HB.out.cell (World.block_lt_of_cell? w _ Wx2.out)).trans Wx2.out) | (go_at_call 61; refine (refused_doc Af cf Ap cp (some ad) c (cnt S) _ ((HI.out.below HB.out).cnt) HFN.out).mono ?_; rw [HPT.out, HRF.out]; rintro e w5 ⟨rfl, hb⟩; have n_B2 := Aside0.mk (blk_below B2.out hb); have n_B4 := Aside0.mk (blk_below B4.out hb); have n_HB := Aside0.mk (below_step HB.out hb); clear B2 B4 HB; have B2 := n_B2; have B4 := n_B4; have HB := n_HB; clear n_B2 n_B4 n_HB; clear hb; clear bB2_0 bB2_1 bB2_2 bB2_3 bB2_4 bB2_f; have bB2_0 := (blk_cell B2.out 0).trans (show _ = some (.int .i64 S.room) from rfl); have bB2_1 := (blk_cell B2.out 1).trans (show _ = some (.slice Af S.fails.length cf) from rfl); have bB2_2 := (blk_cell B2.out 2).trans (show _ = some (.slice Ap S.parts.length cp) from rfl); have bB2_3 := (blk_cell B2.out 3).trans (show _ = some (.slice (some ad) S.files.length c) from rfl); have bB2_4 := (blk_cell B2.out 4).trans (show _ = some (.int .i64 (S.calls + 1)) from rfl); have bB2_f := fun j => blk_frozen B2.out j; clear bB4_0 bB4_1 bB4_2 bB4_3 bB4_4 bB4_f; have bB4_0 := (blk_cell B4.out 0).trans (show _ = some (.int .i64 0) from rfl); have bB4_1 := (blk_cell B4.out 1).trans (show _ = some (.slice none 0 0) from rfl); have bB4_2 := (blk_cell B4.out 2).trans (show _ = some (.slice none 0 0) from rfl); have bB4_3 := (blk_cell B4.out 3).trans (show _ = some (.slice none 0 0) from rfl); have bB4_4 := (blk_cell B4.out 4).trans (show _ = some (.int .i64 0) from rfl); have bB4_f := fun j => blk_frozen B4.out j; clear x0 x1 x2; have x0 := (HB.out.cell (World.block_lt_of_cell? w _ Wx0.out)).trans Wx0.out; have x1 := (HB.out.cell (World.block_lt_of_cell? w _ Wx1.out)).trans Wx1.out; have x2 := (HB.out.cell (World.block_lt_of_cell? w _ Wx2.out)).trans Wx2.out) | ((with_reducible refine gate_dst (N := 11) rfl ?_); refine box_event ?hg (N := 11) ?hd (cs := #[.string ByteArray.empty, .slice none 0 0, .int .i64 0]) (t := 57) ?hr ?_; (case hd => rfl); (case hg => rfl); (case hr => first | (go_simp; done) | (go_simp; rfl)); intro g9 hg w3 hbox hb; have NE_g2_g9 : Aside0 (g2 ≠ g9) := ⟨by rw [hg]; exact Nat.ne_of_lt (blk_lt B2.out)⟩; have NE_g4_g9 : Aside0 (g4 ≠ g9) := ⟨by rw [hg]; exact Nat.ne_of_lt (blk_lt B4.out)⟩; have GE_g9 : Aside0 (w.heap.size ≤ g9) := ⟨by rw [hg]; exact below_size HB.out⟩; have n_B2 := Aside0.mk (blk_below B2.out hb); have n_B4 := Aside0.mk (blk_below B4.out hb); have n_HB := Aside0.mk (below_step HB.out hb); clear B2 B4 HB; have B2 := n_B2; have B4 := n_B4; have HB := n_HB; clear n_B2 n_B4 n_HB; have B9 := Aside0.mk hbox; clear hg hbox hb; have bB9_0 := (blk_cell B9.out 0).trans (show _ = some (.string ByteArray.empty) from rfl); have bB9_1 := (blk_cell B9.out 1).trans (show _ = some (.slice none 0 0) from rfl); have bB9_2 := (blk_cell B9.out 2).trans (show _ = some (.int .i64 0) from rfl); have bB9_f := fun j => blk_frozen B9.out j))
          clear bB2_0 bB2_1 bB2_2 bB2_3 bB2_4 bB2_f
          clear bB4_0 bB4_1 bB4_2 bB4_3 bB4_4 bB4_f
          clear bB9_0 bB9_1 bB9_2 bB9_f
          clear x0 x1 x2
          rename World => wz
          have s0 := blk_put (cs' := #[.string (str old), .slice none 0 0, .int .i64 0]) B9.out 0 (.string (str old)) rfl
          have h0 := below_set (j := 0) (v := .string (str old)) HB.out GE_g9.out
          have s1 := blk_put (cs' := #[.string (str old), .slice A1 f.b.length c1, .int .i64 0]) s0 1 (.slice A1 f.b.length c1) rfl
          have h1 := below_set (j := 1) (v := .slice A1 f.b.length c1) h0 GE_g9.out
          have s2 := blk_put (cs' := #[.string (str old), .slice A1 f.b.length c1, .int .i64 f.safe]) s1 2 (.int .i64 f.safe) rfl
          have h2 := below_set (j := 2) (v := .int .i64 f.safe) h1 GE_g9.out
          have hs : ∀ k, k ≠ g9 → (World.setCell (World.setCell (World.setCell wz ⟨g9, 0, none⟩ (.string (str old))) ⟨g9, 1, none⟩ (.slice A1 f.b.length c1)) ⟨g9, 2, none⟩ (.int .i64 f.safe)).heap[k]? = wz.heap[k]? := fun k hk => ((Below.heap_setCell (World.setCell (World.setCell wz ⟨g9, 0, none⟩ (.string (str old))) ⟨g9, 1, none⟩ (.slice A1 f.b.length c1)) ⟨g9, 2, none⟩ (.int .i64 f.safe) k hk).trans ((Below.heap_setCell (World.setCell wz ⟨g9, 0, none⟩ (.string (str old))) ⟨g9, 1, none⟩ (.slice A1 f.b.length c1) k hk).trans (Below.heap_setCell wz ⟨g9, 0, none⟩ (.string (str old)) k hk)))
          generalize (World.setCell (World.setCell (World.setCell wz ⟨g9, 0, none⟩ (.string (str old))) ⟨g9, 1, none⟩ (.slice A1 f.b.length c1)) ⟨g9, 2, none⟩ (.int .i64 f.safe)) = wa at s2 h2 hs ⊢
          have n_B2 := Aside0.mk ((hs g2 NE_g2_g9.out).trans B2.out); have n_B4 := Aside0.mk ((hs g4 NE_g4_g9.out).trans B4.out); have n_HB := Aside0.mk (h2); clear B2 B4 HB; have B2 := n_B2; have B4 := n_B4; have HB := n_HB; clear n_B2 n_B4 n_HB
          clear B9
          have B9 := Aside0.mk s2
          clear hs s0 s1 s2 h0 h1 h2
          have bB9_0 := (blk_cell B9.out 0).trans (show _ = some (.string (str old)) from rfl)
          have bB9_1 := (blk_cell B9.out 1).trans (show _ = some (.slice A1 f.b.length c1) from rfl)
          have bB9_2 := (blk_cell B9.out 2).trans (show _ = some (.int .i64 f.safe) from rfl)
          have bB9_f := fun j => blk_frozen B9.out j
          go_upto_region 12 with (fail)
          clear bB9_0 bB9_1 bB9_2 bB9_f
          rename World => wz
          have s0 := blk_put (cs' := #[.string (str n), .slice A1 f.b.length c1, .int .i64 f.safe]) B9.out 0 (.string (str n)) rfl
          have h0 := below_set (j := 0) (v := .string (str n)) HB.out GE_g9.out
          have hs : ∀ k, k ≠ g9 → (World.setCell wz ⟨g9, 0, none⟩ (.string (str n))).heap[k]? = wz.heap[k]? := fun k hk => (Below.heap_setCell wz ⟨g9, 0, none⟩ (.string (str n)) k hk)
          generalize (World.setCell wz ⟨g9, 0, none⟩ (.string (str n))) = wb at s0 h0 hs ⊢
          have n_B2 := Aside0.mk ((hs g2 NE_g2_g9.out).trans B2.out); have n_B4 := Aside0.mk ((hs g4 NE_g4_g9.out).trans B4.out); have n_HB := Aside0.mk (h0); clear B2 B4 HB; have B2 := n_B2; have B4 := n_B4; have HB := n_HB; clear n_B2 n_B4 n_HB
          clear B9
          have B9 := Aside0.mk s0
          clear hs s0 h0
          refine start_ (n := 9) (S := fun w' => Below wb.heap.size wb w') (ds := [7]) #[false, false, false, false, false, false, false, false, false] (by kernel_rfl) rfl rfl (below_drew (Below.refl _ _)) (fun hHeld => ?_)
          refine with_tabW r40_12.tab r40_12.bits (fun HT_ HW_ => ?_)
          generalize wb.drew = wd at hHeld ⊢
          refine take_ (i := 0) (N := some 45) (v := ?_) (a' := ?_) #[true, false, false, false, false, false, false, false, false] rfl rfl (take_ofW HT_.out HW_.out (by kernel_rfl)) (fun _ _ _ h => h) (Or.inl ⟨by rfl, ?_⟩) hHeld ?_ ?_
          rotate_left
          · rintro w' hbq
            have c_0 := (blk_cell (blk_below B2.out hbq) 0).trans (show _ = some (.int .i64 S.room) from rfl)
            have c_1 := (blk_cell (blk_below B2.out hbq) 1).trans (show _ = some (.slice Af S.fails.length cf) from rfl)
            have c_2 := (blk_cell (blk_below B2.out hbq) 2).trans (show _ = some (.slice Ap S.parts.length cp) from rfl)
            have c_3 := (blk_cell (blk_below B2.out hbq) 3).trans (show _ = some (.slice (some ad) S.files.length c) from rfl)
            have c_4 := (blk_cell (blk_below B2.out hbq) 4).trans (show _ = some (.int .i64 (S.calls + 1)) from rfl)
            go_simp
            with_reducible rfl
          rotate_left
          · simp only [Act.put, List.setIfInBounds_toArray, List.set_cons_zero, List.set_cons_succ, i64_w, i32_w]
            rfl
          refine pure_ (i := 1) (N := some 46) (v := ?_) (a' := ?_) #[true, true, false, false, false, false, false, false, false] rfl rfl (any_of HT_.out (by kernel_rfl)) (fun _ _ _ h => h) (Or.inl ⟨by rfl, ?_⟩) ?_ ?_
          rotate_left
          · intro w'
            go_simp
            with_reducible rfl
          rotate_left
          · simp only [Act.put, List.setIfInBounds_toArray, List.set_cons_zero, List.set_cons_succ, i64_w, i32_w]
            rfl
          refine pure_ (i := 2) (N := some 47) (v := ?_) (a' := ?_) #[true, true, true, false, false, false, false, false, false] rfl rfl (any_of HT_.out (by kernel_rfl)) (fun _ _ _ h => h) (Or.inl ⟨by rfl, ?_⟩) ?_ ?_
          rotate_left
          · intro w'
            go_simp
            with_reducible rfl
          rotate_left
          · simp only [Act.put, List.setIfInBounds_toArray, List.set_cons_zero, List.set_cons_succ, i64_w, i32_w]
            rfl
          refine pure_ (i := 4) (N := some 49) (v := ?_) (a' := ?_) #[true, true, true, false, true, false, false, false, false] rfl rfl (any_of HT_.out (by kernel_rfl)) (fun _ _ _ h => h) (Or.inl ⟨by rfl, ?_⟩) ?_ ?_
          rotate_left
          · intro w'
            go_simp
            with_reducible rfl
          rotate_left
          · simp only [Act.put, List.setIfInBounds_toArray, List.set_cons_zero, List.set_cons_succ, i64_w, i32_w]
            rfl
          refine take_ (i := 5) (N := some 50) (v := ?_) (a' := ?_) #[true, true, true, false, true, true, false, false, false] rfl rfl (take_ofW HT_.out HW_.out (by kernel_rfl)) (fun _ _ _ h => h) (Or.inl ⟨by rfl, ?_⟩) hHeld ?_ ?_
          rotate_left
          · rintro w' hbq
            have c_0 := (blk_cell (blk_below B9.out hbq) 0).trans (show _ = some (.string (str n)) from rfl)
            have c_1 := (blk_cell (blk_below B9.out hbq) 1).trans (show _ = some (.slice A1 f.b.length c1) from rfl)
            have c_2 := (blk_cell (blk_below B9.out hbq) 2).trans (show _ = some (.int .i64 f.safe) from rfl)
            go_simp
            with_reducible rfl
          rotate_left
          · simp only [Act.put, List.setIfInBounds_toArray, List.set_cons_zero, List.set_cons_succ, i64_w, i32_w]
            rfl
          refine one_ (i := 3) (N := some 48) #[true, true, true, true, true, true, false, false, false] rfl rfl (one_of HT_.out (by kernel_rfl)) (by decide) (fun K hK => ?_)
          refine goes_ Try.func62 (by kernel_rfl) rfl #[docV Af cf Ap cp (some ad) c (cnt S), .string (str old), .agg #[.string ByteArray.empty, .slice none 0 0, .int .i64 0], .bool true] (by rfl) rfl rfl (by first | done | rfl | (simp only [List.map_toArray, List.map_cons, List.map_nil]; rfl)) ?_
          refine (with_doc _ Af cf Ap cp (some ad) c (cnt S) old [] ⟨[], 0⟩ none 0 true wd (((HI.out.below HB.out).below hHeld).cnt) (Kd.F_nil _ _ _) (Nat.le_refl _) HL2.out).mono ?_
          rintro e0 w6 ⟨A8, c8, rfl, hd, hb⟩
          replace hd := hd.mono (P' := fun k => (P k ∨ w.heap.size ≤ k) ∧ k ≠ g2 ∧ k ≠ g4 ∧ k ≠ g9) (fun k hk => ⟨hk.imp And.left (Nat.le_trans (Nat.le_trans (below_size HB.out) hHeld.size)), (fun e => by subst e; have q1 := GE_g2.out; have q2 := blk_lt B2.out; have q3 := hHeld.size; rcases hk with hk | hk <;> omega), (fun e => by subst e; have q1 := GE_g4.out; have q2 := blk_lt B4.out; have q3 := hHeld.size; rcases hk with hk | hk <;> omega), (fun e => by subst e; have q1 := GE_g9.out; have q2 := blk_lt B9.out; have q3 := hHeld.size; rcases hk with hk | hk <;> omega)⟩)
          refine ⟨_, rfl, ?_⟩
          rw [withR_true] at hd ⊢
          generalize hS8 : ({ cnt S with files := del old (cnt S).files } : DA) = S8 at hd ⊢
          have HS8 := Aside0.mk hS8
          have HR8 : Aside0 (Rising S8.files) := ⟨by rw [← hS8]; exact del_rising HRI.out old⟩
          have HL8 : Aside0 (S8.files.length ≤ 10000) := ⟨by rw [← hS8]; exact Nat.le_trans (List.length_filter_le _ _) HL2.out⟩
          have HD := Aside0.mk hd
          have hx := below_step hHeld hb
          refine hK.out _ _ hx (fun hHeld => ?_)
          clear hK K hx hb hd hS8
          have HH6 := Aside0.mk hHeld
          refine norm_ (a' := ?_) ?_ ?_
          rotate_left
          · show Act.put _ (some 48) _ = _
            simp only [Act.put, List.setIfInBounds_toArray, List.set_cons_zero, List.set_cons_succ, i64_w, i32_w]
            rfl
          refine one_ (i := 6) (N := some 51) #[true, true, true, true, true, true, true, false, false] rfl rfl (one_of HT_.out (by kernel_rfl)) (by decide) (fun K hK => ?_)
          refine goes_ Try.func62 (by kernel_rfl) rfl #[docV Af cf Ap cp A8 c8 S8, .string (str n), .agg #[.string (str n), .slice A1 f.b.length c1, .int .i64 f.safe], .bool false] (by rfl) rfl rfl (by first | done | rfl | (simp only [List.map_toArray, List.map_cons, List.map_nil]; rfl)) ?_
          refine (with_doc _ Af cf Ap cp A8 c8 S8 n n f A1 c1 false w6 HD.out (Kd.F_mono (Kd.F_below (Kd.F_below HQF.out HB.out) HH6.out) (fun k hk => ⟨.inl hk.1, (fun e => by subst e; have q1 := GE_g2.out; have := hk.2; omega), (fun e => by subst e; have q1 := GE_g4.out; have := hk.2; omega), (fun e => by subst e; have q1 := GE_g9.out; have := hk.2; omega)⟩)) HLF.out HL8.out).mono ?_
          rintro e0 w7 ⟨A9, c9, rfl, hd, hb⟩
          replace hd := hd.mono (P' := fun k => (P k ∨ w.heap.size ≤ k) ∧ k ≠ g2 ∧ k ≠ g4 ∧ k ≠ g9) (fun k hk => hk.elim id (fun hk => ⟨.inr (Nat.le_trans (Nat.le_trans (below_size HB.out) HH6.out.size) hk), (fun e => by subst e; have q2 := blk_lt B2.out; have q3 := HH6.out.size; omega), (fun e => by subst e; have q2 := blk_lt B4.out; have q3 := HH6.out.size; omega), (fun e => by subst e; have q2 := blk_lt B9.out; have q3 := HH6.out.size; omega)⟩))
          refine ⟨_, rfl, ?_⟩
          rw [withR_false n f _ HR8.out] at hd ⊢
          generalize hS9 : ({ S8 with files := put n f S8.files } : DA) = S9 at hd ⊢
          have HS9 := Aside0.mk hS9
          clear HD
          have HD := Aside0.mk hd
          have hx := below_step HH6.out hb
          refine hK.out _ _ hx (fun hHeld => ?_)
          have HH7 := Aside0.mk hx
          clear hK K hx hb hd hS9 HH6 HR8 HL8
          refine norm_ (a' := ?_) ?_ ?_
          rotate_left
          · show Act.put _ (some 51) _ = _
            simp only [Act.put, List.setIfInBounds_toArray, List.set_cons_zero, List.set_cons_succ, i64_w, i32_w]
            rfl
          have hb := HH7.out
          have n_B2 := Aside0.mk (blk_below B2.out hb); have n_B4 := Aside0.mk (blk_below B4.out hb); have n_B9 := Aside0.mk (blk_below B9.out hb); have n_HB := Aside0.mk (below_step HB.out hb); clear B2 B4 B9 HB; have B2 := n_B2; have B4 := n_B4; have B9 := n_B9; have HB := n_HB; clear n_B2 n_B4 n_B9 n_HB
          clear hb HH7
          have bB4_0 := (blk_cell B4.out 0).trans (show _ = some (.int .i64 0) from rfl)
          have bB4_1 := (blk_cell B4.out 1).trans (show _ = some (.slice none 0 0) from rfl)
          have bB4_2 := (blk_cell B4.out 2).trans (show _ = some (.slice none 0 0) from rfl)
          have bB4_3 := (blk_cell B4.out 3).trans (show _ = some (.slice none 0 0) from rfl)
          have bB4_4 := (blk_cell B4.out 4).trans (show _ = some (.int .i64 0) from rfl)
          have bB4_f := fun j => blk_frozen B4.out j
          refine last_ (i := 7) (N := none) #[true, true, true, true, true, true, true, true, false] rfl rfl (one_of HT_.out (by kernel_rfl)) (by decide) (fun K hK => ?_)
          refine skip_ (w1 := ?_) (by rfl) rfl ?_ ?_
          rotate_left
          · go_simp
            rfl
          refine hK.out _ _ ?_
          clear hK K
          refine pure_ (i := 8) (N := some 7) (v := ?_) (a' := ?_) #[true, true, true, true, true, true, true, true, true] rfl rfl (any_of HT_.out (by kernel_rfl)) (fun _ _ _ h => h) (Or.inl ⟨by rfl, ?_⟩) ?_ ?_
          rotate_left
          · intro w'
            go_simp
            with_reducible rfl
          rotate_left
          · simp only [Act.put, List.setIfInBounds_toArray, List.set_cons_zero, List.set_cons_succ, i64_w, i32_w]
            rfl
          refine done_ (done_of HT_.out (by kernel_rfl)) ?_
          go_wp2
          clear bB4_0 bB4_1 bB4_2 bB4_3 bB4_4 bB4_f
          have s0 := blk_put (cs' := #[.int .i64 S9.room, .slice none 0 0, .slice none 0 0, .slice none 0 0, .int .i64 0]) B4.out 0 (.int .i64 S9.room) rfl
          have h0 := below_set (j := 0) (v := .int .i64 S9.room) HB.out GE_g4.out
          have s1 := blk_put (cs' := #[.int .i64 S9.room, .slice Af S9.fails.length cf, .slice none 0 0, .slice none 0 0, .int .i64 0]) s0 1 (.slice Af S9.fails.length cf) rfl
          have h1 := below_set (j := 1) (v := .slice Af S9.fails.length cf) h0 GE_g4.out
          have s2 := blk_put (cs' := #[.int .i64 S9.room, .slice Af S9.fails.length cf, .slice Ap S9.parts.length cp, .slice none 0 0, .int .i64 0]) s1 2 (.slice Ap S9.parts.length cp) rfl
          have h2 := below_set (j := 2) (v := .slice Ap S9.parts.length cp) h1 GE_g4.out
          have s3 := blk_put (cs' := #[.int .i64 S9.room, .slice Af S9.fails.length cf, .slice Ap S9.parts.length cp, .slice A9 S9.files.length c9, .int .i64 0]) s2 3 (.slice A9 S9.files.length c9) rfl
          have h3 := below_set (j := 3) (v := .slice A9 S9.files.length c9) h2 GE_g4.out
          have s4 := blk_put (cs' := #[.int .i64 S9.room, .slice Af S9.fails.length cf, .slice Ap S9.parts.length cp, .slice A9 S9.files.length c9, .int .i64 S9.calls]) s3 4 (.int .i64 S9.calls) rfl
          have h4 := below_set (j := 4) (v := .int .i64 S9.calls) h3 GE_g4.out
          have hs : ∀ k, k ≠ g4 → (World.setCell (World.setCell (World.setCell (World.setCell (World.setCell w7 ⟨g4, 0, none⟩ (.int .i64 S9.room)) ⟨g4, 1, none⟩ (.slice Af S9.fails.length cf)) ⟨g4, 2, none⟩ (.slice Ap S9.parts.length cp)) ⟨g4, 3, none⟩ (.slice A9 S9.files.length c9)) ⟨g4, 4, none⟩ (.int .i64 S9.calls)).heap[k]? = w7.heap[k]? := fun k hk => ((Below.heap_setCell (World.setCell (World.setCell (World.setCell (World.setCell w7 ⟨g4, 0, none⟩ (.int .i64 S9.room)) ⟨g4, 1, none⟩ (.slice Af S9.fails.length cf)) ⟨g4, 2, none⟩ (.slice Ap S9.parts.length cp)) ⟨g4, 3, none⟩ (.slice A9 S9.files.length c9)) ⟨g4, 4, none⟩ (.int .i64 S9.calls) k hk).trans ((Below.heap_setCell (World.setCell (World.setCell (World.setCell w7 ⟨g4, 0, none⟩ (.int .i64 S9.room)) ⟨g4, 1, none⟩ (.slice Af S9.fails.length cf)) ⟨g4, 2, none⟩ (.slice Ap S9.parts.length cp)) ⟨g4, 3, none⟩ (.slice A9 S9.files.length c9) k hk).trans ((Below.heap_setCell (World.setCell (World.setCell w7 ⟨g4, 0, none⟩ (.int .i64 S9.room)) ⟨g4, 1, none⟩ (.slice Af S9.fails.length cf)) ⟨g4, 2, none⟩ (.slice Ap S9.parts.length cp) k hk).trans ((Below.heap_setCell (World.setCell w7 ⟨g4, 0, none⟩ (.int .i64 S9.room)) ⟨g4, 1, none⟩ (.slice Af S9.fails.length cf) k hk).trans (Below.heap_setCell w7 ⟨g4, 0, none⟩ (.int .i64 S9.room) k hk)))))
          generalize (World.setCell (World.setCell (World.setCell (World.setCell (World.setCell w7 ⟨g4, 0, none⟩ (.int .i64 S9.room)) ⟨g4, 1, none⟩ (.slice Af S9.fails.length cf)) ⟨g4, 2, none⟩ (.slice Ap S9.parts.length cp)) ⟨g4, 3, none⟩ (.slice A9 S9.files.length c9)) ⟨g4, 4, none⟩ (.int .i64 S9.calls)) = w9 at s4 h4 hs ⊢
          have n_B2 := Aside0.mk ((hs g2 NE_g2_g4.out).trans B2.out); have n_B9 := Aside0.mk ((hs g9 (fun e => NE_g4_g9.out e.symm)).trans B9.out); have n_HD := Aside0.mk (HD.out.step (fun k hk _ => hs k hk.2.2.1)); have n_HB := Aside0.mk (h4); clear B2 B9 HD HB; have B2 := n_B2; have B9 := n_B9; have HD := n_HD; have HB := n_HB; clear n_B2 n_B9 n_HD n_HB
          clear B4
          have B4 := Aside0.mk s4
          clear hs s0 s1 s2 s3 s4 h0 h1 h2 h3 h4
          refine bodyPost_ret (results_ct rfl _ _ g4 49 #[.int .i64 S9.room, .slice Af S9.fails.length cf, .slice Ap S9.parts.length cp, .slice A9 S9.files.length c9, .int .i64 S9.calls] (0, 0) _ rfl B4.out Try.underlying49 rfl (by kernel_rfl)) rfl ?_
          have e : r = (S9, 0) := by rw [← HR.out, ← HS9.out, ← HS8.out]; unfold renameP; rw [if_neg hvv, hg2]; show (if isRef S = true then _ else _) = _; rw [if_neg (by rw [hrf']; decide)]; rfl
          rw [e]
          exact ⟨A9, c9, rfl, HD.out.mono (fun k hk => hk.1), HB.out⟩

end Go.Proofs.Yteibdmpjlpcgbaa.XDisk
