/- The document's disk: New and Read. -/
import Derived.Test.YteibdmpjlpcgbaaTHDoc4
namespace Go.Proofs.Yteibdmpjlpcgbaa.XDisk
open Go Go.RowKit Go.Proofs.YteibdmpjlpcgbaaW.PrintWords Go.Proofs.YteibdmpjlpcgbaaW.PrintLast Go.Proofs.YteibdmpjlpcgbaaW.PrintMore
open Go.Proofs.Yteibdmpjlpcgbaa
set_option linter.unusedVariables false
set_option linter.unusedSimpArgs false
/-- What Read of the document's disk comes to. -/
def ReadPost (w : World) (P : Nat → Prop) (r : FA × Int) (e : Ending) (w' : World) : Prop :=
  ∃ nm A1 c1, e = .returned (.tuple #[.agg #[.string nm, .slice A1 r.1.b.length c1, .int .i64 r.1.safe], .int .i64 r.2]) ∧ Kd.F (Kd.int .u8) w' P A1 r.1.b.length r.1.b ∧ r.1.b.length ≤ c1 ∧ Below w.heap.size w w'
set_option maxHeartbeats 16000000 in
set_option maxRecDepth 100000 in
theorem read_doc (P : Nat → Prop) (Af : Option Addr) (cf : Nat) (Ap : Option Addr) (cp : Nat) (A : Option Addr) (c : Nat) (S : DA) (n : Nm) (w : World) (h : DocIn w P Af cf Ap cp A c S) (hln : S.files.length ≤ 10000) :
    Calls Try.prog 24 #[docV Af cf Ap cp A c S, .string (str n)] w (ReadPost w P (findP S n)) := by
  obtain ⟨r, hr⟩ : ∃ r, findP S n = r := ⟨_, rfl⟩
  rw [hr]
  have HR := Aside0.mk hr
  have HI := Aside0.mk h.bound
  have HB := Aside0.mk (Below.refl w.heap.size w)
  have HLN : Aside0 (S.files.length ≤ 1000000) := ⟨by omega⟩
  clear h hr hln
  go_enter Try.func24, Try.ntmps24
  go_upto_region 1 with (first | ((with_reducible refine gate_dst (N := 2) rfl ?_); refine box_event ?hg (N := 2) ?hd (cs := #[.int .i64 S.room, .slice Af S.fails.length cf, .slice Ap S.parts.length cp, .slice A S.files.length c, .int .i64 S.calls]) (t := 49) ?hr ?_; (case hd => rfl); (case hg => rfl); (case hr => first | (go_simp; done) | (go_simp; rfl)); intro g2 hg w3 hbox hb; have GE_g2 : Aside0 (w.heap.size ≤ g2) := ⟨by rw [hg]; exact below_size HB.out⟩; have n_HB := Aside0.mk (below_step HB.out hb); clear HB; have HB := n_HB; clear n_HB; have B2 := Aside0.mk hbox; clear hg hbox hb) | ((with_reducible refine gate_dst (N := 4) rfl ?_); refine box_event ?hg (N := 4) ?hd (cs := #[.string ByteArray.empty, .slice none 0 0, .int .i64 0]) (t := 57) ?hr ?_; (case hd => rfl); (case hg => rfl); (case hr => first | (go_simp; done) | (go_simp; rfl)); intro g4 hg w3 hbox hb; have NE_g2_g4 : Aside0 (g2 ≠ g4) := ⟨by rw [hg]; exact Nat.ne_of_lt (blk_lt B2.out)⟩; have GE_g4 : Aside0 (w.heap.size ≤ g4) := ⟨by rw [hg]; exact below_size HB.out⟩; have n_B2 := Aside0.mk (blk_below B2.out hb); have n_HB := Aside0.mk (below_step HB.out hb); clear B2 HB; have B2 := n_B2; have HB := n_HB; clear n_B2 n_HB; have B4 := Aside0.mk hbox; clear hg hbox hb))
  have bB2_0 := (blk_cell B2.out 0).trans (show _ = some (.int .i64 S.room) from rfl)
  have bB2_1 := (blk_cell B2.out 1).trans (show _ = some (.slice Af S.fails.length cf) from rfl)
  have bB2_2 := (blk_cell B2.out 2).trans (show _ = some (.slice Ap S.parts.length cp) from rfl)
  have bB2_3 := (blk_cell B2.out 3).trans (show _ = some (.slice A S.files.length c) from rfl)
  have bB2_4 := (blk_cell B2.out 4).trans (show _ = some (.int .i64 S.calls) from rfl)
  have bB2_f := fun j => blk_frozen B2.out j
  have bB4_0 := (blk_cell B4.out 0).trans (show _ = some (.string ByteArray.empty) from rfl)
  have bB4_1 := (blk_cell B4.out 1).trans (show _ = some (.slice none 0 0) from rfl)
  have bB4_2 := (blk_cell B4.out 2).trans (show _ = some (.int .i64 0) from rfl)
  have bB4_f := fun j => blk_frozen B4.out j
  by_cases hv : vN n = false
  · have HV := Aside0.mk hv
    go_wp2_with (first | (go_at_call 47; with_reducible refine (named_doc2 n _).mono ?_; rw [HV.out]; rintro e w5 ⟨rfl, hb⟩; have n_B2 := Aside0.mk (blk_below B2.out hb); have n_B4 := Aside0.mk (blk_below B4.out hb); have n_HB := Aside0.mk (below_step HB.out hb); clear B2 B4 HB; have B2 := n_B2; have B4 := n_B4; have HB := n_HB; clear n_B2 n_B4 n_HB; clear hb; clear bB2_0 bB2_1 bB2_2 bB2_3 bB2_4 bB2_f; have bB2_0 := (blk_cell B2.out 0).trans (show _ = some (.int .i64 S.room) from rfl); have bB2_1 := (blk_cell B2.out 1).trans (show _ = some (.slice Af S.fails.length cf) from rfl); have bB2_2 := (blk_cell B2.out 2).trans (show _ = some (.slice Ap S.parts.length cp) from rfl); have bB2_3 := (blk_cell B2.out 3).trans (show _ = some (.slice A S.files.length c) from rfl); have bB2_4 := (blk_cell B2.out 4).trans (show _ = some (.int .i64 S.calls) from rfl); have bB2_f := fun j => blk_frozen B2.out j; clear bB4_0 bB4_1 bB4_2 bB4_f; have bB4_0 := (blk_cell B4.out 0).trans (show _ = some (.string ByteArray.empty) from rfl); have bB4_1 := (blk_cell B4.out 1).trans (show _ = some (.slice none 0 0) from rfl); have bB4_2 := (blk_cell B4.out 2).trans (show _ = some (.int .i64 0) from rfl); have bB4_f := fun j => blk_frozen B4.out j))
    clear bB2_0 bB2_1 bB2_2 bB2_3 bB2_4 bB2_f
    clear bB4_0 bB4_1 bB4_2 bB4_f
    rename World => wy
    have s0 := blk_put (cs' := #[.string ⟨#[]⟩, .slice none 0 0, .int .i64 0]) B4.out 0 (.string ⟨#[]⟩) rfl
    have h0 := below_set (j := 0) (v := .string ⟨#[]⟩) HB.out GE_g4.out
    have s1 := blk_put (cs' := #[.string ⟨#[]⟩, .slice none 0 0, .int .i64 0]) s0 1 (.slice none 0 0) rfl
    have h1 := below_set (j := 1) (v := .slice none 0 0) h0 GE_g4.out
    have s2 := blk_put (cs' := #[.string ⟨#[]⟩, .slice none 0 0, .int .i64 0]) s1 2 (.int .i64 0) rfl
    have h2 := below_set (j := 2) (v := .int .i64 0) h1 GE_g4.out
    have hs : ∀ k, k ≠ g4 → (World.setCell (World.setCell (World.setCell wy ⟨g4, 0, none⟩ (.string ⟨#[]⟩)) ⟨g4, 1, none⟩ (.slice none 0 0)) ⟨g4, 2, none⟩ (.int .i64 0)).heap[k]? = wy.heap[k]? := fun k hk => ((Below.heap_setCell (World.setCell (World.setCell wy ⟨g4, 0, none⟩ (.string ⟨#[]⟩)) ⟨g4, 1, none⟩ (.slice none 0 0)) ⟨g4, 2, none⟩ (.int .i64 0) k hk).trans ((Below.heap_setCell (World.setCell wy ⟨g4, 0, none⟩ (.string ⟨#[]⟩)) ⟨g4, 1, none⟩ (.slice none 0 0) k hk).trans (Below.heap_setCell wy ⟨g4, 0, none⟩ (.string ⟨#[]⟩) k hk)))
    generalize (World.setCell (World.setCell (World.setCell wy ⟨g4, 0, none⟩ (.string ⟨#[]⟩)) ⟨g4, 1, none⟩ (.slice none 0 0)) ⟨g4, 2, none⟩ (.int .i64 0)) = w9 at s2 h2 hs ⊢
    have n_B2 := Aside0.mk ((hs g2 NE_g2_g4.out).trans B2.out); have n_HB := Aside0.mk (h2); clear B2 HB; have B2 := n_B2; have HB := n_HB; clear n_B2 n_HB
    clear B4
    have B4 := Aside0.mk s2
    clear hs s0 s1 s2 h0 h1 h2
    refine bodyPost_ret (results_ct rfl _ _ g4 57 #[.string ⟨#[]⟩, .slice none 0 0, .int .i64 0] (0, 0) _ rfl B4.out Try.underlying57 rfl (by kernel_rfl)) rfl ?_
    have e : r = (⟨[], 0⟩, 2) := by rw [← HR.out]; unfold findP; rw [if_pos hv]
    rw [e]
    exact ⟨_, none, 0, rfl, Kd.F_nil _ _ _, Nat.le_refl _, HB.out⟩
  · have HV : Aside0 (vN n = true) := ⟨by simpa using hv⟩
    rcases findI_get n S.files 0 with ⟨hfi, hgn⟩ | ⟨j, p, hfi, hjp, hpn, hgn⟩
    · have HF := Aside0.mk hfi
      have hg2 : get S.files n = none := hgn
      clear hfi hgn
      go_wp2_with (first | (go_at_call 47; with_reducible refine (named_doc2 n _).mono ?_; rw [HV.out]; rintro e w5 ⟨rfl, hb⟩; have n_B2 := Aside0.mk (blk_below B2.out hb); have n_B4 := Aside0.mk (blk_below B4.out hb); have n_HB := Aside0.mk (below_step HB.out hb); clear B2 B4 HB; have B2 := n_B2; have B4 := n_B4; have HB := n_HB; clear n_B2 n_B4 n_HB; clear hb; clear bB2_0 bB2_1 bB2_2 bB2_3 bB2_4 bB2_f; have bB2_0 := (blk_cell B2.out 0).trans (show _ = some (.int .i64 S.room) from rfl); have bB2_1 := (blk_cell B2.out 1).trans (show _ = some (.slice Af S.fails.length cf) from rfl); have bB2_2 := (blk_cell B2.out 2).trans (show _ = some (.slice Ap S.parts.length cp) from rfl); have bB2_3 := (blk_cell B2.out 3).trans (show _ = some (.slice A S.files.length c) from rfl); have bB2_4 := (blk_cell B2.out 4).trans (show _ = some (.int .i64 S.calls) from rfl); have bB2_f := fun j => blk_frozen B2.out j; clear bB4_0 bB4_1 bB4_2 bB4_f; have bB4_0 := (blk_cell B4.out 0).trans (show _ = some (.string ByteArray.empty) from rfl); have bB4_1 := (blk_cell B4.out 1).trans (show _ = some (.slice none 0 0) from rfl); have bB4_2 := (blk_cell B4.out 2).trans (show _ = some (.int .i64 0) from rfl); have bB4_f := fun j => blk_frozen B4.out j) | (go_at_call 48; refine (find_doc Af cf Ap cp A c S n _ (HI.out.below HB.out) HLN.out).mono ?_; rw [HF.out]; rintro e w5 ⟨rfl, hb⟩; have n_B2 := Aside0.mk (blk_below B2.out hb); have n_B4 := Aside0.mk (blk_below B4.out hb); have n_HB := Aside0.mk (below_step HB.out hb); clear B2 B4 HB; have B2 := n_B2; have B4 := n_B4; have HB := n_HB; clear n_B2 n_B4 n_HB; clear hb; clear bB2_0 bB2_1 bB2_2 bB2_3 bB2_4 bB2_f; have bB2_0 := (blk_cell B2.out 0).trans (show _ = some (.int .i64 S.room) from rfl); have bB2_1 := (blk_cell B2.out 1).trans (show _ = some (.slice Af S.fails.length cf) from rfl); have bB2_2 := (blk_cell B2.out 2).trans (show _ = some (.slice Ap S.parts.length cp) from rfl); have bB2_3 := (blk_cell B2.out 3).trans (show _ = some (.slice A S.files.length c) from rfl); have bB2_4 := (blk_cell B2.out 4).trans (show _ = some (.int .i64 S.calls) from rfl); have bB2_f := fun j => blk_frozen B2.out j; clear bB4_0 bB4_1 bB4_2 bB4_f; have bB4_0 := (blk_cell B4.out 0).trans (show _ = some (.string ByteArray.empty) from rfl); have bB4_1 := (blk_cell B4.out 1).trans (show _ = some (.slice none 0 0) from rfl); have bB4_2 := (blk_cell B4.out 2).trans (show _ = some (.int .i64 0) from rfl); have bB4_f := fun j => blk_frozen B4.out j))
      clear bB2_0 bB2_1 bB2_2 bB2_3 bB2_4 bB2_f
      clear bB4_0 bB4_1 bB4_2 bB4_f
      rename World => wy
      have s0 := blk_put (cs' := #[.string ⟨#[]⟩, .slice none 0 0, .int .i64 0]) B4.out 0 (.string ⟨#[]⟩) rfl
      have h0 := below_set (j := 0) (v := .string ⟨#[]⟩) HB.out GE_g4.out
      have s1 := blk_put (cs' := #[.string ⟨#[]⟩, .slice none 0 0, .int .i64 0]) s0 1 (.slice none 0 0) rfl
      have h1 := below_set (j := 1) (v := .slice none 0 0) h0 GE_g4.out
      have s2 := blk_put (cs' := #[.string ⟨#[]⟩, .slice none 0 0, .int .i64 0]) s1 2 (.int .i64 0) rfl
      have h2 := below_set (j := 2) (v := .int .i64 0) h1 GE_g4.out
      have hs : ∀ k, k ≠ g4 → (World.setCell (World.setCell (World.setCell wy ⟨g4, 0, none⟩ (.string ⟨#[]⟩)) ⟨g4, 1, none⟩ (.slice none 0 0)) ⟨g4, 2, none⟩ (.int .i64 0)).heap[k]? = wy.heap[k]? := fun k hk => ((Below.heap_setCell (World.setCell (World.setCell wy ⟨g4, 0, none⟩ (.string ⟨#[]⟩)) ⟨g4, 1, none⟩ (.slice none 0 0)) ⟨g4, 2, none⟩ (.int .i64 0) k hk).trans ((Below.heap_setCell (World.setCell wy ⟨g4, 0, none⟩ (.string ⟨#[]⟩)) ⟨g4, 1, none⟩ (.slice none 0 0) k hk).trans (Below.heap_setCell wy ⟨g4, 0, none⟩ (.string ⟨#[]⟩) k hk)))
      generalize (World.setCell (World.setCell (World.setCell wy ⟨g4, 0, none⟩ (.string ⟨#[]⟩)) ⟨g4, 1, none⟩ (.slice none 0 0)) ⟨g4, 2, none⟩ (.int .i64 0)) = w9 at s2 h2 hs ⊢
      have n_B2 := Aside0.mk ((hs g2 NE_g2_g4.out).trans B2.out); have n_HB := Aside0.mk (h2); clear B2 HB; have B2 := n_B2; have HB := n_HB; clear n_B2 n_HB
      clear B4
      have B4 := Aside0.mk s2
      clear hs s0 s1 s2 h0 h1 h2
      refine bodyPost_ret (results_ct rfl _ _ g4 57 #[.string ⟨#[]⟩, .slice none 0 0, .int .i64 0] (0, 0) _ rfl B4.out Try.underlying57 rfl (by kernel_rfl)) rfl ?_
      have e : r = (⟨[], 0⟩, 10) := by rw [← HR.out]; unfold findP; rw [if_neg hv, hg2]
      rw [e]
      exact ⟨_, none, 0, rfl, Kd.F_nil _ _ _, Nat.le_refl _, HB.out⟩
    · rw [Nat.zero_add] at hfi
      have HF := Aside0.mk hfi
      clear hfi
      have hg2 : get S.files n = some p.2 := hgn
      clear hgn
      have hj0 : (0 : Int) ≤ (j : Int) := Int.natCast_nonneg j
      have hj1 : ¬ (j : Int) < 0 := by omega
      obtain ⟨pn, f⟩ := p
      simp only at hpn hg2
      obtain rfl : n = pn := hpn.symm
      obtain ⟨ad, A1, c1, e0, x0, x1, x2, l1, q1⟩ := at_F57 HI.out.fs (j : Int) (by omega) (by have := (List.getElem?_eq_some_iff.1 hjp).1; exact Int.ofNat_lt.2 this)
      subst e0
      rw [show rd_T57 (docF S.files) (j : Int) = toS (n, f) from docF_get hjp] at x0 x1 x2 l1 q1
      simp only [toS, Int.toNat_natCast] at x0 x1 x2 l1 q1
      have HLF := Aside0.mk l1
      have HQF := Aside0.mk q1
      have hjl : (j : Int) < (S.files.length : Int) := Int.ofNat_lt.2 (List.getElem?_eq_some_iff.1 hjp).1
      clear l1 q1 hjp
      have Wx0 := Aside0.mk x0
      have Wx1 := Aside0.mk x1
      have Wx2 := Aside0.mk x2
      replace x0 := (HB.out.cell (World.block_lt_of_cell? w _ Wx0.out)).trans Wx0.out
      replace x1 := (HB.out.cell (World.block_lt_of_cell? w _ Wx1.out)).trans Wx1.out
      replace x2 := (HB.out.cell (World.block_lt_of_cell? w _ Wx2.out)).trans Wx2.out
      go_wp2_with (first | (go_at_call 47; with_reducible refine (named_doc2 n _).mono ?_; rw [HV.out]; rintro e w5 ⟨rfl, hb⟩; have n_B2 := Aside0.mk (blk_below B2.out hb); have n_B4 := Aside0.mk (blk_below B4.out hb); have n_HB := Aside0.mk (below_step HB.out hb); clear B2 B4 HB; have B2 := n_B2; have B4 := n_B4; have HB := n_HB; clear n_B2 n_B4 n_HB; clear hb; clear bB2_0 bB2_1 bB2_2 bB2_3 bB2_4 bB2_f; have bB2_0 := (blk_cell B2.out 0).trans (show _ = some (.int .i64 S.room) from rfl); have bB2_1 := (blk_cell B2.out 1).trans (show _ = some (.slice Af S.fails.length cf) from rfl); have bB2_2 := (blk_cell B2.out 2).trans (show _ = some (.slice Ap S.parts.length cp) from rfl); have bB2_3 := (blk_cell B2.out 3).trans (show _ = some (.slice (some ad) S.files.length c) from rfl); have bB2_4 := (blk_cell B2.out 4).trans (show _ = some (.int .i64 S.calls) from rfl); have bB2_f := fun j => blk_frozen B2.out j; clear bB4_0 bB4_1 bB4_2 bB4_f; have bB4_0 := (blk_cell B4.out 0).trans (show _ = some (.string ByteArray.empty) from rfl); have bB4_1 := (blk_cell B4.out 1).trans (show _ = some (.slice none 0 0) from rfl); have bB4_2 := (blk_cell B4.out 2).trans (show _ = some (.int .i64 0) from rfl); have bB4_f := fun j => blk_frozen B4.out j; clear x0 x1 x2; have x0 := (HB.out.cell (World.block_lt_of_cell? w _ Wx0.out)).trans Wx0.out; have x1 := (HB.out.cell (World.block_lt_of_cell? w _ Wx1.out)).trans Wx1.out; have x2 := (HB.out.cell (World.block_lt_of_cell? w _ Wx2.out)).trans Wx2.out) | (go_at_call 48; refine (find_doc Af cf Ap cp (some ad) c S n _ (HI.out.below HB.out) HLN.out).mono ?_; rw [HF.out]; rintro e w5 ⟨rfl, hb⟩; have n_B2 := Aside0.mk (blk_below B2.out hb); have n_B4 := Aside0.mk (blk_below B4.out hb); have n_HB := Aside0.mk (below_step HB.out hb); clear B2 B4 HB; have B2 := n_B2; have B4 := n_B4; have HB := n_HB; clear n_B2 n_B4 n_HB; clear hb; clear bB2_0 bB2_1 bB2_2 bB2_3 bB2_4 bB2_f; have bB2_0 := (blk_cell B2.out 0).trans (show _ = some (.int .i64 S.room) from rfl); have bB2_1 := (blk_cell B2.out 1).trans (show _ = some (.slice Af S.fails.length cf) from rfl); have bB2_2 := (blk_cell B2.out 2).trans (show _ = some (.slice Ap S.parts.length cp) from rfl); have bB2_3 := (blk_cell B2.out 3).trans (show _ = some (.slice (some ad) S.files.length c) from rfl); have bB2_4 := (blk_cell B2.out 4).trans (show _ = some (.int .i64 S.calls) from rfl); have bB2_f := fun j => blk_frozen B2.out j; clear bB4_0 bB4_1 bB4_2 bB4_f; have bB4_0 := (blk_cell B4.out 0).trans (show _ = some (.string ByteArray.empty) from rfl); have bB4_1 := (blk_cell B4.out 1).trans (show _ = some (.slice none 0 0) from rfl); have bB4_2 := (blk_cell B4.out 2).trans (show _ = some (.int .i64 0) from rfl); have bB4_f := fun j => blk_frozen B4.out j; clear x0 x1 x2; have x0 := (HB.out.cell (World.block_lt_of_cell? w _ Wx0.out)).trans Wx0.out; have x1 := (HB.out.cell (World.block_lt_of_cell? w _ Wx1.out)).trans Wx1.out; have x2 := (HB.out.cell (World.block_lt_of_cell? w _ Wx2.out)).trans Wx2.out))
      clear x0 x1 x2
      clear bB2_0 bB2_1 bB2_2 bB2_3 bB2_4 bB2_f
      clear bB4_0 bB4_1 bB4_2 bB4_f
      rename World => wy
      have s0 := blk_put (cs' := #[.string (str n), .slice none 0 0, .int .i64 0]) B4.out 0 (.string (str n)) rfl
      have h0 := below_set (j := 0) (v := .string (str n)) HB.out GE_g4.out
      have s1 := blk_put (cs' := #[.string (str n), .slice A1 f.b.length c1, .int .i64 0]) s0 1 (.slice A1 f.b.length c1) rfl
      have h1 := below_set (j := 1) (v := .slice A1 f.b.length c1) h0 GE_g4.out
      have s2 := blk_put (cs' := #[.string (str n), .slice A1 f.b.length c1, .int .i64 f.safe]) s1 2 (.int .i64 f.safe) rfl
      have h2 := below_set (j := 2) (v := .int .i64 f.safe) h1 GE_g4.out
      have hs : ∀ k, k ≠ g4 → (World.setCell (World.setCell (World.setCell wy ⟨g4, 0, none⟩ (.string (str n))) ⟨g4, 1, none⟩ (.slice A1 f.b.length c1)) ⟨g4, 2, none⟩ (.int .i64 f.safe)).heap[k]? = wy.heap[k]? := fun k hk => ((Below.heap_setCell (World.setCell (World.setCell wy ⟨g4, 0, none⟩ (.string (str n))) ⟨g4, 1, none⟩ (.slice A1 f.b.length c1)) ⟨g4, 2, none⟩ (.int .i64 f.safe) k hk).trans ((Below.heap_setCell (World.setCell wy ⟨g4, 0, none⟩ (.string (str n))) ⟨g4, 1, none⟩ (.slice A1 f.b.length c1) k hk).trans (Below.heap_setCell wy ⟨g4, 0, none⟩ (.string (str n)) k hk)))
      generalize (World.setCell (World.setCell (World.setCell wy ⟨g4, 0, none⟩ (.string (str n))) ⟨g4, 1, none⟩ (.slice A1 f.b.length c1)) ⟨g4, 2, none⟩ (.int .i64 f.safe)) = w9 at s2 h2 hs ⊢
      have n_B2 := Aside0.mk ((hs g2 NE_g2_g4.out).trans B2.out); have n_HB := Aside0.mk (h2); clear B2 HB; have B2 := n_B2; have HB := n_HB; clear n_B2 n_HB
      clear B4
      have B4 := Aside0.mk s2
      clear hs s0 s1 s2 h0 h1 h2
      refine bodyPost_ret (results_ct rfl _ _ g4 57 #[.string (str n), .slice A1 f.b.length c1, .int .i64 f.safe] (0, 0) _ rfl B4.out Try.underlying57 rfl (by kernel_rfl)) rfl ?_
      have e : r = (f, 0) := by rw [← HR.out]; unfold findP; rw [if_neg hv, hg2]
      rw [e]
      exact ⟨_, A1, c1, rfl, Kd.F_mono (Kd.F_below HQF.out HB.out) (fun k hk => hk.1), HLF.out, HB.out⟩
set_option maxHeartbeats 16000000 in
set_option maxRecDepth 100000 in
theorem new_doc (P : Nat → Prop) (room : Int) (Af : Option Addr) (cf : Nat) (Ap : Option Addr) (cp : Nat) (fs ps : List Int) (w : World) (hr1 : Kd.F (Kd.int .i64) w P Af fs.length fs) (hc1 : fs.length ≤ cf) (hr2 : Kd.F (Kd.int .i64) w P Ap ps.length ps) (hc2 : ps.length ≤ cp) :
    Calls Try.prog 20 #[.int .i64 room, .agg #[.slice Af fs.length cf, .slice Ap ps.length cp]] w fun e w' => e = .returned (docV Af cf Ap cp none 0 ⟨room, fs, ps, 0, []⟩) ∧ DocIn w' P Af cf Ap cp none 0 ⟨room, fs, ps, 0, []⟩ ∧ Below w.heap.size w w' := by
  have HR1 := Aside0.mk hr1
  have HR2 := Aside0.mk hr2
  have HC1 := Aside0.mk hc1
  have HC2 := Aside0.mk hc2
  have HB := Aside0.mk (Below.refl w.heap.size w)
  clear hr1 hr2 hc1 hc2
  go_enter Try.func20, Try.ntmps20
  go_upto_region 1 with (first | ((with_reducible refine gate_dst (N := 3) rfl ?_); refine box_event ?hg (N := 3) ?hd (cs := #[.slice Af fs.length cf, .slice Ap ps.length cp]) (t := 24) ?hr ?_; (case hd => rfl); (case hg => rfl); (case hr => first | (go_simp; done) | (go_simp; rfl)); intro g3 hg w3 hbox hb; have GE_g3 : Aside0 (w.heap.size ≤ g3) := ⟨by rw [hg]; exact below_size HB.out⟩; have n_HB := Aside0.mk (below_step HB.out hb); clear HB; have HB := n_HB; clear n_HB; have B3 := Aside0.mk hbox; clear hg hbox hb) | ((with_reducible refine gate_dst (N := 4) rfl ?_); refine box_event ?hg (N := 4) ?hd (cs := #[.int .i64 0, .slice none 0 0, .slice none 0 0, .slice none 0 0, .int .i64 0]) (t := 49) ?hr ?_; (case hd => rfl); (case hg => rfl); (case hr => first | (go_simp; done) | (go_simp; rfl)); intro g4 hg w3 hbox hb; have NE_g3_g4 : Aside0 (g3 ≠ g4) := ⟨by rw [hg]; exact Nat.ne_of_lt (blk_lt B3.out)⟩; have GE_g4 : Aside0 (w.heap.size ≤ g4) := ⟨by rw [hg]; exact below_size HB.out⟩; have n_B3 := Aside0.mk (blk_below B3.out hb); have n_HB := Aside0.mk (below_step HB.out hb); clear B3 HB; have B3 := n_B3; have HB := n_HB; clear n_B3 n_HB; have B4 := Aside0.mk hbox; clear hg hbox hb))
  have bB3_0 := (blk_cell B3.out 0).trans (show _ = some (.slice Af fs.length cf) from rfl)
  have bB3_1 := (blk_cell B3.out 1).trans (show _ = some (.slice Ap ps.length cp) from rfl)
  have bB3_f := fun j => blk_frozen B3.out j
  have bB4_0 := (blk_cell B4.out 0).trans (show _ = some (.int .i64 0) from rfl)
  have bB4_1 := (blk_cell B4.out 1).trans (show _ = some (.slice none 0 0) from rfl)
  have bB4_2 := (blk_cell B4.out 2).trans (show _ = some (.slice none 0 0) from rfl)
  have bB4_3 := (blk_cell B4.out 3).trans (show _ = some (.slice none 0 0) from rfl)
  have bB4_4 := (blk_cell B4.out 4).trans (show _ = some (.int .i64 0) from rfl)
  have bB4_f := fun j => blk_frozen B4.out j
  go_wp2
  clear bB3_0 bB3_1 bB3_f
  clear bB4_0 bB4_1 bB4_2 bB4_3 bB4_4 bB4_f
  rename World => wy
  have s0 := blk_put (cs' := #[.int .i64 room, .slice none 0 0, .slice none 0 0, .slice none 0 0, .int .i64 0]) B4.out 0 (.int .i64 room) rfl
  have h0 := below_set (j := 0) (v := .int .i64 room) HB.out GE_g4.out
  have s1 := blk_put (cs' := #[.int .i64 room, .slice Af fs.length cf, .slice none 0 0, .slice none 0 0, .int .i64 0]) s0 1 (.slice Af fs.length cf) rfl
  have h1 := below_set (j := 1) (v := .slice Af fs.length cf) h0 GE_g4.out
  have s2 := blk_put (cs' := #[.int .i64 room, .slice Af fs.length cf, .slice Ap ps.length cp, .slice none 0 0, .int .i64 0]) s1 2 (.slice Ap ps.length cp) rfl
  have h2 := below_set (j := 2) (v := .slice Ap ps.length cp) h1 GE_g4.out
  have s3 := blk_put (cs' := #[.int .i64 room, .slice Af fs.length cf, .slice Ap ps.length cp, .slice none 0 0, .int .i64 0]) s2 3 (.slice none 0 0) rfl
  have h3 := below_set (j := 3) (v := .slice none 0 0) h2 GE_g4.out
  have s4 := blk_put (cs' := #[.int .i64 room, .slice Af fs.length cf, .slice Ap ps.length cp, .slice none 0 0, .int .i64 0]) s3 4 (.int .i64 0) rfl
  have h4 := below_set (j := 4) (v := .int .i64 0) h3 GE_g4.out
  have hs : ∀ k, k ≠ g4 → (World.setCell (World.setCell (World.setCell (World.setCell (World.setCell wy ⟨g4, 0, none⟩ (.int .i64 room)) ⟨g4, 1, none⟩ (.slice Af fs.length cf)) ⟨g4, 2, none⟩ (.slice Ap ps.length cp)) ⟨g4, 3, none⟩ (.slice none 0 0)) ⟨g4, 4, none⟩ (.int .i64 0)).heap[k]? = wy.heap[k]? := fun k hk => ((Below.heap_setCell (World.setCell (World.setCell (World.setCell (World.setCell wy ⟨g4, 0, none⟩ (.int .i64 room)) ⟨g4, 1, none⟩ (.slice Af fs.length cf)) ⟨g4, 2, none⟩ (.slice Ap ps.length cp)) ⟨g4, 3, none⟩ (.slice none 0 0)) ⟨g4, 4, none⟩ (.int .i64 0) k hk).trans ((Below.heap_setCell (World.setCell (World.setCell (World.setCell wy ⟨g4, 0, none⟩ (.int .i64 room)) ⟨g4, 1, none⟩ (.slice Af fs.length cf)) ⟨g4, 2, none⟩ (.slice Ap ps.length cp)) ⟨g4, 3, none⟩ (.slice none 0 0) k hk).trans ((Below.heap_setCell (World.setCell (World.setCell wy ⟨g4, 0, none⟩ (.int .i64 room)) ⟨g4, 1, none⟩ (.slice Af fs.length cf)) ⟨g4, 2, none⟩ (.slice Ap ps.length cp) k hk).trans ((Below.heap_setCell (World.setCell wy ⟨g4, 0, none⟩ (.int .i64 room)) ⟨g4, 1, none⟩ (.slice Af fs.length cf) k hk).trans (Below.heap_setCell wy ⟨g4, 0, none⟩ (.int .i64 room) k hk)))))
  generalize (World.setCell (World.setCell (World.setCell (World.setCell (World.setCell wy ⟨g4, 0, none⟩ (.int .i64 room)) ⟨g4, 1, none⟩ (.slice Af fs.length cf)) ⟨g4, 2, none⟩ (.slice Ap ps.length cp)) ⟨g4, 3, none⟩ (.slice none 0 0)) ⟨g4, 4, none⟩ (.int .i64 0)) = w9 at s4 h4 hs ⊢
  have n_B3 := Aside0.mk ((hs g3 NE_g3_g4.out).trans B3.out); have n_HB := Aside0.mk (h4); clear B3 HB; have B3 := n_B3; have HB := n_HB; clear n_B3 n_HB
  clear B4
  have B4 := Aside0.mk s4
  clear hs s0 s1 s2 s3 s4 h0 h1 h2 h3 h4
  refine bodyPost_ret (results_cell_row rfl _ _ g4 49 #[.int .i64 room, .slice Af fs.length cf, .slice Ap ps.length cp, .slice none 0 0, .int .i64 0] (0, 0) _ rfl B4.out Try.underlying49 rfl (by kernel_rfl)) rfl ?_
  exact ⟨rfl, ⟨Kd.F_mono (Kd.F_below (Kd.F_bound HR1.out) HB.out) (fun k hk => hk.1), HC1.out, Kd.F_mono (Kd.F_below (Kd.F_bound HR2.out) HB.out) (fun k hk => hk.1), HC2.out, Kd.F_nil _ _ _, Nat.le_refl _⟩, HB.out⟩

end Go.Proofs.Yteibdmpjlpcgbaa.XDisk
