/- The document's disk: what is done. -/
import Derived.Test.YteibdmpjlpcgbaaTHDoc6
import Derived.Test.YteibdmpjlpcgbaaTHDoc3
namespace Go.Proofs.Yteibdmpjlpcgbaa.XDisk
open Go Go.RowKit Go.Proofs.YteibdmpjlpcgbaaW.PrintWords Go.Proofs.YteibdmpjlpcgbaaW.PrintLast Go.Proofs.YteibdmpjlpcgbaaW.PrintMore
open Go.Proofs.Yteibdmpjlpcgbaa
set_option linter.unusedVariables false
set_option linter.unusedSimpArgs false
theorem DocPost.of {w : World} {P : Nat → Prop} {Af : Option Addr} {cf : Nat} {Ap : Option Addr} {cp : Nat} {r : DA × Int} {e : Ending} {w' : World} {S9 : DA} {e9 : Int} (h : DocPost w P Af cf Ap cp r e w') (hr : r = (S9, e9)) :
    ∃ A' c', e = .returned (.tuple #[docV Af cf Ap cp A' c' S9, .int .i64 e9]) ∧ DocIn w' (fun k => P k ∨ w.heap.size ≤ k) Af cf Ap cp A' c' S9 ∧ Below w.heap.size w w' := by
  subst hr
  exact h
set_option maxHeartbeats 16000000 in
set_option maxRecDepth 100000 in
theorem does_doc (P : Nat → Prop) (Af : Option Addr) (cf : Nat) (Ap : Option Addr) (cp : Nat) (A : Option Addr) (c : Nat) (S : DA) (a : Int) (n1 n2 : Nm) (b ks : List Int) (Ab : Option Addr) (cb : Nat) (Ak : Option Addr) (ck : Nat) (w : World) (h : DocIn w P Af cf Ap cp A c S) (hln : S.files.length ≤ 10000) (hfn : S.fails.length ≤ 1000000) (hri : Rising S.files) (c0 : 0 ≤ S.calls) (c1 : S.calls < 1000000) (hF : Fits S) (hsane : Sane S.files) (ha0 : 0 ≤ a) (ha1 : a ≤ 255) (hb : Kd.C (Kd.int .u8) w Ab b.length b) (hcb : b.length ≤ cb) (hbl : b.length ≤ 1000000) (hk : Kd.C (Kd.int .i64) w Ak ks.length ks) (hkc : ks.length ≤ ck) :
    Calls Try.prog 21 #[.agg #[.int .u8 a, .string (str n1), .string (str n2), .slice Ab b.length cb, .slice Ak ks.length ck], docV Af cf Ap cp A c S] w fun e w' => DocPost w P Af cf Ap cp (doesP S a n1 n2 b ks) e w' := by
  have HI := Aside0.mk h.bound
  have HB := Aside0.mk (Below.refl w.heap.size w)
  have HLN := Aside0.mk hln
  have HFN := Aside0.mk hfn
  have HRI := Aside0.mk hri
  have HFI := Aside0.mk hF
  have HSN := Aside0.mk hsane
  have HBC := Aside0.mk hb
  have HCB := Aside0.mk hcb
  have HBL := Aside0.mk hbl
  have HKC := Aside0.mk hk
  have HKB := Aside0.mk hkc
  clear h hln hfn hri hF hsane hb hcb hbl hk hkc
  have hm7 : a % 7 = 0 ∨ a % 7 = 1 ∨ a % 7 = 2 ∨ a % 7 = 3 ∨ a % 7 = 4 ∨ a % 7 = 5 ∨ a % 7 = 6 := by omega
  rcases hm7 with hm | hm | hm | hm | hm | hm | hm
  · have hP : doesP S a n1 n2 b ks = createP S n1 := by unfold doesP; rw [hm]; rfl
    rw [hP]
    clear hP
    have d0 : (a % 7 == 0) = true := by rw [hm]; rfl
    have d1 : (a % 7 == 1) = false := by rw [hm]; rfl
    have d2 : (a % 7 == 2) = false := by rw [hm]; rfl
    have d3 : (a % 7 == 3) = false := by rw [hm]; rfl
    have d4 : (a % 7 == 4) = false := by rw [hm]; rfl
    have d6 : (a % 7 == 6) = false := by rw [hm]; rfl
    clear hm
    obtain ⟨⟨S9, e9⟩, hr⟩ : ∃ q, createP S n1 = q := ⟨_, rfl⟩
    have HR9 := Aside0.mk hr
    clear hr
    go_enter Try.func21, Try.ntmps21
    go_upto_region 1 with (first | ((with_reducible refine gate_dst (N := 2) rfl ?_); refine box_event ?hg (N := 2) ?hd (cs := #[.int .u8 a, .string (str n1), .string (str n2), .slice Ab b.length cb, .slice Ak ks.length ck]) (t := 32) ?hr ?_; (case hd => rfl); (case hg => rfl); (case hr => first | (go_simp; done) | (go_simp; rfl)); intro g2 hg w3 hbox hb; have GE_g2 : Aside0 (w.heap.size ≤ g2) := ⟨by rw [hg]; exact below_size HB.out⟩; have n_HB := Aside0.mk (below_step HB.out hb); clear HB; have HB := n_HB; clear n_HB; have B2 := Aside0.mk hbox; clear hg hbox hb) | ((with_reducible refine gate_dst (N := 3) rfl ?_); refine box_event ?hg (N := 3) ?hd (cs := #[.int .i64 S.room, .slice Af S.fails.length cf, .slice Ap S.parts.length cp, .slice A S.files.length c, .int .i64 S.calls]) (t := 49) ?hr ?_; (case hd => rfl); (case hg => rfl); (case hr => first | (go_simp; done) | (go_simp; rfl)); intro g3 hg w3 hbox hb; have NE_g2_g3 : Aside0 (g2 ≠ g3) := ⟨by rw [hg]; exact Nat.ne_of_lt (blk_lt B2.out)⟩; have GE_g3 : Aside0 (w.heap.size ≤ g3) := ⟨by rw [hg]; exact below_size HB.out⟩; have n_B2 := Aside0.mk (blk_below B2.out hb); have n_HB := Aside0.mk (below_step HB.out hb); clear B2 HB; have B2 := n_B2; have HB := n_HB; clear n_B2 n_HB; have B3 := Aside0.mk hbox; clear hg hbox hb) | ((with_reducible refine gate_dst (N := 4) rfl ?_); refine box_event ?hg (N := 4) ?hd (cs := #[.int .i64 0, .slice none 0 0, .slice none 0 0, .slice none 0 0, .int .i64 0]) (t := 49) ?hr ?_; (case hd => rfl); (case hg => rfl); (case hr => first | (go_simp; done) | (go_simp; rfl)); intro g4 hg w3 hbox hb; have NE_g2_g4 : Aside0 (g2 ≠ g4) := ⟨by rw [hg]; exact Nat.ne_of_lt (blk_lt B2.out)⟩; have NE_g3_g4 : Aside0 (g3 ≠ g4) := ⟨by rw [hg]; exact Nat.ne_of_lt (blk_lt B3.out)⟩; have GE_g4 : Aside0 (w.heap.size ≤ g4) := ⟨by rw [hg]; exact below_size HB.out⟩; have n_B2 := Aside0.mk (blk_below B2.out hb); have n_B3 := Aside0.mk (blk_below B3.out hb); have n_HB := Aside0.mk (below_step HB.out hb); clear B2 B3 HB; have B2 := n_B2; have B3 := n_B3; have HB := n_HB; clear n_B2 n_B3 n_HB; have B4 := Aside0.mk hbox; clear hg hbox hb))
    have bB2_0 := (blk_cell B2.out 0).trans (show _ = some (.int .u8 a) from rfl)
    have bB2_1 := (blk_cell B2.out 1).trans (show _ = some (.string (str n1)) from rfl)
    have bB2_2 := (blk_cell B2.out 2).trans (show _ = some (.string (str n2)) from rfl)
    have bB2_3 := (blk_cell B2.out 3).trans (show _ = some (.slice Ab b.length cb) from rfl)
    have bB2_4 := (blk_cell B2.out 4).trans (show _ = some (.slice Ak ks.length ck) from rfl)
    have bB2_f := fun j => blk_frozen B2.out j
    have bB3_0 := (blk_cell B3.out 0).trans (show _ = some (.int .i64 S.room) from rfl)
    have bB3_1 := (blk_cell B3.out 1).trans (show _ = some (.slice Af S.fails.length cf) from rfl)
    have bB3_2 := (blk_cell B3.out 2).trans (show _ = some (.slice Ap S.parts.length cp) from rfl)
    have bB3_3 := (blk_cell B3.out 3).trans (show _ = some (.slice A S.files.length c) from rfl)
    have bB3_4 := (blk_cell B3.out 4).trans (show _ = some (.int .i64 S.calls) from rfl)
    have bB3_f := fun j => blk_frozen B3.out j
    have bB4_0 := (blk_cell B4.out 0).trans (show _ = some (.int .i64 0) from rfl)
    have bB4_1 := (blk_cell B4.out 1).trans (show _ = some (.slice none 0 0) from rfl)
    have bB4_2 := (blk_cell B4.out 2).trans (show _ = some (.slice none 0 0) from rfl)
    have bB4_3 := (blk_cell B4.out 3).trans (show _ = some (.slice none 0 0) from rfl)
    have bB4_4 := (blk_cell B4.out 4).trans (show _ = some (.int .i64 0) from rfl)
    have bB4_f := fun j => blk_frozen B4.out j
    go_wp2_with (first | (go_at_call 37; refine (create_doc _ Af cf Ap cp A c S n1 _ (HI.out.below HB.out) HLN.out HFN.out HRI.out c0 c1).mono ?_; intro e w5 hq; obtain ⟨A9, c9, rfl, hd, hb⟩ := hq.of HR9.out; clear hq; replace hd := hd.mono (P' := fun k => (P k ∨ w.heap.size ≤ k) ∧ k ≠ g2 ∧ k ≠ g3 ∧ k ≠ g4) (fun k hk => ⟨hk.imp And.left (Nat.le_trans (below_size HB.out)), (fun e => by subst e; have q1 := GE_g2.out; have q2 := blk_lt B2.out; rcases hk with hk | hk <;> omega), (fun e => by subst e; have q1 := GE_g3.out; have q2 := blk_lt B3.out; rcases hk with hk | hk <;> omega), (fun e => by subst e; have q1 := GE_g4.out; have q2 := blk_lt B4.out; rcases hk with hk | hk <;> omega)⟩); have n_B2 := Aside0.mk (blk_below B2.out hb); have n_B3 := Aside0.mk (blk_below B3.out hb); have n_B4 := Aside0.mk (blk_below B4.out hb); have n_HB := Aside0.mk (below_step HB.out hb); clear B2 B3 B4 HB; have B2 := n_B2; have B3 := n_B3; have B4 := n_B4; have HB := n_HB; clear n_B2 n_B3 n_B4 n_HB; clear hb; clear bB2_0 bB2_1 bB2_2 bB2_3 bB2_4 bB2_f; have bB2_0 := (blk_cell B2.out 0).trans (show _ = some (.int .u8 a) from rfl); have bB2_1 := (blk_cell B2.out 1).trans (show _ = some (.string (str n1)) from rfl); have bB2_2 := (blk_cell B2.out 2).trans (show _ = some (.string (str n2)) from rfl); have bB2_3 := (blk_cell B2.out 3).trans (show _ = some (.slice Ab b.length cb) from rfl); have bB2_4 := (blk_cell B2.out 4).trans (show _ = some (.slice Ak ks.length ck) from rfl); have bB2_f := fun j => blk_frozen B2.out j; clear bB3_0 bB3_1 bB3_2 bB3_3 bB3_4 bB3_f; have bB3_0 := (blk_cell B3.out 0).trans (show _ = some (.int .i64 S.room) from rfl); have bB3_1 := (blk_cell B3.out 1).trans (show _ = some (.slice Af S.fails.length cf) from rfl); have bB3_2 := (blk_cell B3.out 2).trans (show _ = some (.slice Ap S.parts.length cp) from rfl); have bB3_3 := (blk_cell B3.out 3).trans (show _ = some (.slice A S.files.length c) from rfl); have bB3_4 := (blk_cell B3.out 4).trans (show _ = some (.int .i64 S.calls) from rfl); have bB3_f := fun j => blk_frozen B3.out j; clear bB4_0 bB4_1 bB4_2 bB4_3 bB4_4 bB4_f; have bB4_0 := (blk_cell B4.out 0).trans (show _ = some (.int .i64 0) from rfl); have bB4_1 := (blk_cell B4.out 1).trans (show _ = some (.slice none 0 0) from rfl); have bB4_2 := (blk_cell B4.out 2).trans (show _ = some (.slice none 0 0) from rfl); have bB4_3 := (blk_cell B4.out 3).trans (show _ = some (.slice none 0 0) from rfl); have bB4_4 := (blk_cell B4.out 4).trans (show _ = some (.int .i64 0) from rfl); have bB4_f := fun j => blk_frozen B4.out j; have HD := Aside0.mk hd; clear hd))
    clear bB2_0 bB2_1 bB2_2 bB2_3 bB2_4 bB2_f
    clear bB3_0 bB3_1 bB3_2 bB3_3 bB3_4 bB3_f
    clear bB4_0 bB4_1 bB4_2 bB4_3 bB4_4 bB4_f
    rename World => wy
    have s0 := blk_put (cs' := #[.int .i64 S9.room, .slice none 0 0, .slice none 0 0, .slice none 0 0, .int .i64 0]) B4.out 0 (.int .i64 S9.room) rfl
    have h0 := below_set (j := 0) (v := .int .i64 S9.room) HB.out GE_g4.out
    have s1 := blk_put (cs' := #[.int .i64 S9.room, .slice Af S9.fails.length cf, .slice none 0 0, .slice none 0 0, .int .i64 0]) s0 1 (.slice Af S9.fails.length cf) rfl
    have h1 := below_set (j := 1) (v := .slice Af S9.fails.length cf) h0 GE_g4.out
    have s2 := blk_put (cs' := #[.int .i64 S9.room, .slice Af S9.fails.length cf, .slice Ap S9.parts.length cp, .slice none 0 0, .int .i64 0]) s1 2 (.slice Ap S9.parts.length cp) rfl
    have h2 := below_set (j := 2) (v := .slice Ap S9.parts.length cp) h1 GE_g4.out
    have s3 := blk_put (cs' := #[.int .i64 S9.room, .slice Af S9.fails.length cf, .slice Ap S9.parts.length cp, .slice A9 S9.files.length c9, .int .i64 0]) s2 3 (.slice A9 S9.files.length c9) rfl
    have h3 := below_set (j := 3) (v := .slice A9 S9.files.length c9) h2 GE_g4.out
    have s4 := blk_put (cs' := #[.int .i64 S9.room, .slice Af S9.fails.length cf, .slice Ap S9.parts.length cp, .slice A9 S9.files.length c9, .int .i64 S9.calls]) s3 4 (.int .i64 S9.calls) rfl
    have h4 := below_set (j := 4) (v := .int .i64 S9.calls) h3 GE_g4.out
    have hs : ∀ k, k ≠ g4 → (World.setCell (World.setCell (World.setCell (World.setCell (World.setCell wy ⟨g4, 0, none⟩ (.int .i64 S9.room)) ⟨g4, 1, none⟩ (.slice Af S9.fails.length cf)) ⟨g4, 2, none⟩ (.slice Ap S9.parts.length cp)) ⟨g4, 3, none⟩ (.slice A9 S9.files.length c9)) ⟨g4, 4, none⟩ (.int .i64 S9.calls)).heap[k]? = wy.heap[k]? := fun k hk => ((Below.heap_setCell (World.setCell (World.setCell (World.setCell (World.setCell wy ⟨g4, 0, none⟩ (.int .i64 S9.room)) ⟨g4, 1, none⟩ (.slice Af S9.fails.length cf)) ⟨g4, 2, none⟩ (.slice Ap S9.parts.length cp)) ⟨g4, 3, none⟩ (.slice A9 S9.files.length c9)) ⟨g4, 4, none⟩ (.int .i64 S9.calls) k hk).trans ((Below.heap_setCell (World.setCell (World.setCell (World.setCell wy ⟨g4, 0, none⟩ (.int .i64 S9.room)) ⟨g4, 1, none⟩ (.slice Af S9.fails.length cf)) ⟨g4, 2, none⟩ (.slice Ap S9.parts.length cp)) ⟨g4, 3, none⟩ (.slice A9 S9.files.length c9) k hk).trans ((Below.heap_setCell (World.setCell (World.setCell wy ⟨g4, 0, none⟩ (.int .i64 S9.room)) ⟨g4, 1, none⟩ (.slice Af S9.fails.length cf)) ⟨g4, 2, none⟩ (.slice Ap S9.parts.length cp) k hk).trans ((Below.heap_setCell (World.setCell wy ⟨g4, 0, none⟩ (.int .i64 S9.room)) ⟨g4, 1, none⟩ (.slice Af S9.fails.length cf) k hk).trans (Below.heap_setCell wy ⟨g4, 0, none⟩ (.int .i64 S9.room) k hk)))))
    generalize (World.setCell (World.setCell (World.setCell (World.setCell (World.setCell wy ⟨g4, 0, none⟩ (.int .i64 S9.room)) ⟨g4, 1, none⟩ (.slice Af S9.fails.length cf)) ⟨g4, 2, none⟩ (.slice Ap S9.parts.length cp)) ⟨g4, 3, none⟩ (.slice A9 S9.files.length c9)) ⟨g4, 4, none⟩ (.int .i64 S9.calls)) = w9 at s4 h4 hs ⊢
    have n_B2 := Aside0.mk ((hs g2 NE_g2_g4.out).trans B2.out); have n_B3 := Aside0.mk ((hs g3 NE_g3_g4.out).trans B3.out); have n_HD := Aside0.mk (HD.out.step (fun k hk _ => hs k hk.2.2.2)); have n_HB := Aside0.mk (h4); clear B2 B3 HD HB; have B2 := n_B2; have B3 := n_B3; have HD := n_HD; have HB := n_HB; clear n_B2 n_B3 n_HD n_HB
    clear B4
    have B4 := Aside0.mk s4
    clear hs s0 s1 s2 s3 s4 h0 h1 h2 h3 h4
    refine bodyPost_ret (results_ct rfl _ _ g4 49 #[.int .i64 S9.room, .slice Af S9.fails.length cf, .slice Ap S9.parts.length cp, .slice A9 S9.files.length c9, .int .i64 S9.calls] (0, 0) _ rfl B4.out Try.underlying49 rfl (by kernel_rfl)) rfl ?_
    rw [HR9.out]
    exact ⟨A9, c9, rfl, HD.out.mono (fun k hk => hk.1), HB.out⟩
  · have hP : doesP S a n1 n2 b ks = appendP S n1 b := by unfold doesP; rw [hm]; rfl
    rw [hP]
    clear hP
    have d0 : (a % 7 == 0) = false := by rw [hm]; rfl
    have d1 : (a % 7 == 1) = true := by rw [hm]; rfl
    have d2 : (a % 7 == 2) = false := by rw [hm]; rfl
    have d3 : (a % 7 == 3) = false := by rw [hm]; rfl
    have d4 : (a % 7 == 4) = false := by rw [hm]; rfl
    have d6 : (a % 7 == 6) = false := by rw [hm]; rfl
    clear hm
    obtain ⟨⟨S9, e9⟩, hr⟩ : ∃ q, appendP S n1 b = q := ⟨_, rfl⟩
    have HR9 := Aside0.mk hr
    clear hr
    go_enter Try.func21, Try.ntmps21
    go_upto_region 1 with (first | ((with_reducible refine gate_dst (N := 2) rfl ?_); refine box_event ?hg (N := 2) ?hd (cs := #[.int .u8 a, .string (str n1), .string (str n2), .slice Ab b.length cb, .slice Ak ks.length ck]) (t := 32) ?hr ?_; (case hd => rfl); (case hg => rfl); (case hr => first | (go_simp; done) | (go_simp; rfl)); intro g2 hg w3 hbox hb; have GE_g2 : Aside0 (w.heap.size ≤ g2) := ⟨by rw [hg]; exact below_size HB.out⟩; have n_HB := Aside0.mk (below_step HB.out hb); clear HB; have HB := n_HB; clear n_HB; have B2 := Aside0.mk hbox; clear hg hbox hb) | ((with_reducible refine gate_dst (N := 3) rfl ?_); refine box_event ?hg (N := 3) ?hd (cs := #[.int .i64 S.room, .slice Af S.fails.length cf, .slice Ap S.parts.length cp, .slice A S.files.length c, .int .i64 S.calls]) (t := 49) ?hr ?_; (case hd => rfl); (case hg => rfl); (case hr => first | (go_simp; done) | (go_simp; rfl)); intro g3 hg w3 hbox hb; have NE_g2_g3 : Aside0 (g2 ≠ g3) := ⟨by rw [hg]; exact Nat.ne_of_lt (blk_lt B2.out)⟩; have GE_g3 : Aside0 (w.heap.size ≤ g3) := ⟨by rw [hg]; exact below_size HB.out⟩; have n_B2 := Aside0.mk (blk_below B2.out hb); have n_HB := Aside0.mk (below_step HB.out hb); clear B2 HB; have B2 := n_B2; have HB := n_HB; clear n_B2 n_HB; have B3 := Aside0.mk hbox; clear hg hbox hb) | ((with_reducible refine gate_dst (N := 4) rfl ?_); refine box_event ?hg (N := 4) ?hd (cs := #[.int .i64 0, .slice none 0 0, .slice none 0 0, .slice none 0 0, .int .i64 0]) (t := 49) ?hr ?_; (case hd => rfl); (case hg => rfl); (case hr => first | (go_simp; done) | (go_simp; rfl)); intro g4 hg w3 hbox hb; have NE_g2_g4 : Aside0 (g2 ≠ g4) := ⟨by rw [hg]; exact Nat.ne_of_lt (blk_lt B2.out)⟩; have NE_g3_g4 : Aside0 (g3 ≠ g4) := ⟨by rw [hg]; exact Nat.ne_of_lt (blk_lt B3.out)⟩; have GE_g4 : Aside0 (w.heap.size ≤ g4) := ⟨by rw [hg]; exact below_size HB.out⟩; have n_B2 := Aside0.mk (blk_below B2.out hb); have n_B3 := Aside0.mk (blk_below B3.out hb); have n_HB := Aside0.mk (below_step HB.out hb); clear B2 B3 HB; have B2 := n_B2; have B3 := n_B3; have HB := n_HB; clear n_B2 n_B3 n_HB; have B4 := Aside0.mk hbox; clear hg hbox hb))
    have bB2_0 := (blk_cell B2.out 0).trans (show _ = some (.int .u8 a) from rfl)
    have bB2_1 := (blk_cell B2.out 1).trans (show _ = some (.string (str n1)) from rfl)
    have bB2_2 := (blk_cell B2.out 2).trans (show _ = some (.string (str n2)) from rfl)
    have bB2_3 := (blk_cell B2.out 3).trans (show _ = some (.slice Ab b.length cb) from rfl)
    have bB2_4 := (blk_cell B2.out 4).trans (show _ = some (.slice Ak ks.length ck) from rfl)
    have bB2_f := fun j => blk_frozen B2.out j
    have bB3_0 := (blk_cell B3.out 0).trans (show _ = some (.int .i64 S.room) from rfl)
    have bB3_1 := (blk_cell B3.out 1).trans (show _ = some (.slice Af S.fails.length cf) from rfl)
    have bB3_2 := (blk_cell B3.out 2).trans (show _ = some (.slice Ap S.parts.length cp) from rfl)
    have bB3_3 := (blk_cell B3.out 3).trans (show _ = some (.slice A S.files.length c) from rfl)
    have bB3_4 := (blk_cell B3.out 4).trans (show _ = some (.int .i64 S.calls) from rfl)
    have bB3_f := fun j => blk_frozen B3.out j
    have bB4_0 := (blk_cell B4.out 0).trans (show _ = some (.int .i64 0) from rfl)
    have bB4_1 := (blk_cell B4.out 1).trans (show _ = some (.slice none 0 0) from rfl)
    have bB4_2 := (blk_cell B4.out 2).trans (show _ = some (.slice none 0 0) from rfl)
    have bB4_3 := (blk_cell B4.out 3).trans (show _ = some (.slice none 0 0) from rfl)
    have bB4_4 := (blk_cell B4.out 4).trans (show _ = some (.int .i64 0) from rfl)
    have bB4_f := fun j => blk_frozen B4.out j
    go_wp2_with (first | (go_at_call 38; refine (append_doc _ Af cf Ap cp A c S n1 b Ab cb _ (HI.out.below HB.out) HLN.out HFN.out HRI.out c0 c1 HFI.out (Kd.C_below HBC.out HB.out) HCB.out HBL.out).mono ?_; intro e w5 hq; obtain ⟨A9, c9, rfl, hd, hb⟩ := hq.of HR9.out; clear hq; replace hd := hd.mono (P' := fun k => (P k ∨ w.heap.size ≤ k) ∧ k ≠ g2 ∧ k ≠ g3 ∧ k ≠ g4) (fun k hk => ⟨hk.imp And.left (Nat.le_trans (below_size HB.out)), (fun e => by subst e; have q1 := GE_g2.out; have q2 := blk_lt B2.out; rcases hk with hk | hk <;> omega), (fun e => by subst e; have q1 := GE_g3.out; have q2 := blk_lt B3.out; rcases hk with hk | hk <;> omega), (fun e => by subst e; have q1 := GE_g4.out; have q2 := blk_lt B4.out; rcases hk with hk | hk <;> omega)⟩); have n_B2 := Aside0.mk (blk_below B2.out hb); have n_B3 := Aside0.mk (blk_below B3.out hb); have n_B4 := Aside0.mk (blk_below B4.out hb); have n_HB := Aside0.mk (below_step HB.out hb); clear B2 B3 B4 HB; have B2 := n_B2; have B3 := n_B3; have B4 := n_B4; have HB := n_HB; clear n_B2 n_B3 n_B4 n_HB; clear hb; clear bB2_0 bB2_1 bB2_2 bB2_3 bB2_4 bB2_f; have bB2_0 := (blk_cell B2.out 0).trans (show _ = some (.int .u8 a) from rfl); have bB2_1 := (blk_cell B2.out 1).trans (show _ = some (.string (str n1)) from rfl); have bB2_2 := (blk_cell B2.out 2).trans (show _ = some (.string (str n2)) from rfl); have bB2_3 := (blk_cell B2.out 3).trans (show _ = some (.slice Ab b.length cb) from rfl); have bB2_4 := (blk_cell B2.out 4).trans (show _ = some (.slice Ak ks.length ck) from rfl); have bB2_f := fun j => blk_frozen B2.out j; clear bB3_0 bB3_1 bB3_2 bB3_3 bB3_4 bB3_f; have bB3_0 := (blk_cell B3.out 0).trans (show _ = some (.int .i64 S.room) from rfl); have bB3_1 := (blk_cell B3.out 1).trans (show _ = some (.slice Af S.fails.length cf) from rfl); have bB3_2 := (blk_cell B3.out 2).trans (show _ = some (.slice Ap S.parts.length cp) from rfl); have bB3_3 := (blk_cell B3.out 3).trans (show _ = some (.slice A S.files.length c) from rfl); have bB3_4 := (blk_cell B3.out 4).trans (show _ = some (.int .i64 S.calls) from rfl); have bB3_f := fun j => blk_frozen B3.out j; clear bB4_0 bB4_1 bB4_2 bB4_3 bB4_4 bB4_f; have bB4_0 := (blk_cell B4.out 0).trans (show _ = some (.int .i64 0) from rfl); have bB4_1 := (blk_cell B4.out 1).trans (show _ = some (.slice none 0 0) from rfl); have bB4_2 := (blk_cell B4.out 2).trans (show _ = some (.slice none 0 0) from rfl); have bB4_3 := (blk_cell B4.out 3).trans (show _ = some (.slice none 0 0) from rfl); have bB4_4 := (blk_cell B4.out 4).trans (show _ = some (.int .i64 0) from rfl); have bB4_f := fun j => blk_frozen B4.out j; have HD := Aside0.mk hd; clear hd))
    clear bB2_0 bB2_1 bB2_2 bB2_3 bB2_4 bB2_f
    clear bB3_0 bB3_1 bB3_2 bB3_3 bB3_4 bB3_f
    clear bB4_0 bB4_1 bB4_2 bB4_3 bB4_4 bB4_f
    rename World => wy
    have s0 := blk_put (cs' := #[.int .i64 S9.room, .slice none 0 0, .slice none 0 0, .slice none 0 0, .int .i64 0]) B4.out 0 (.int .i64 S9.room) rfl
    have h0 := below_set (j := 0) (v := .int .i64 S9.room) HB.out GE_g4.out
    have s1 := blk_put (cs' := #[.int .i64 S9.room, .slice Af S9.fails.length cf, .slice none 0 0, .slice none 0 0, .int .i64 0]) s0 1 (.slice Af S9.fails.length cf) rfl
    have h1 := below_set (j := 1) (v := .slice Af S9.fails.length cf) h0 GE_g4.out
    have s2 := blk_put (cs' := #[.int .i64 S9.room, .slice Af S9.fails.length cf, .slice Ap S9.parts.length cp, .slice none 0 0, .int .i64 0]) s1 2 (.slice Ap S9.parts.length cp) rfl
    have h2 := below_set (j := 2) (v := .slice Ap S9.parts.length cp) h1 GE_g4.out
    have s3 := blk_put (cs' := #[.int .i64 S9.room, .slice Af S9.fails.length cf, .slice Ap S9.parts.length cp, .slice A9 S9.files.length c9, .int .i64 0]) s2 3 (.slice A9 S9.files.length c9) rfl
    have h3 := below_set (j := 3) (v := .slice A9 S9.files.length c9) h2 GE_g4.out
    have s4 := blk_put (cs' := #[.int .i64 S9.room, .slice Af S9.fails.length cf, .slice Ap S9.parts.length cp, .slice A9 S9.files.length c9, .int .i64 S9.calls]) s3 4 (.int .i64 S9.calls) rfl
    have h4 := below_set (j := 4) (v := .int .i64 S9.calls) h3 GE_g4.out
    have hs : ∀ k, k ≠ g4 → (World.setCell (World.setCell (World.setCell (World.setCell (World.setCell wy ⟨g4, 0, none⟩ (.int .i64 S9.room)) ⟨g4, 1, none⟩ (.slice Af S9.fails.length cf)) ⟨g4, 2, none⟩ (.slice Ap S9.parts.length cp)) ⟨g4, 3, none⟩ (.slice A9 S9.files.length c9)) ⟨g4, 4, none⟩ (.int .i64 S9.calls)).heap[k]? = wy.heap[k]? := fun k hk => ((Below.heap_setCell (World.setCell (World.setCell (World.setCell (World.setCell wy ⟨g4, 0, none⟩ (.int .i64 S9.room)) ⟨g4, 1, none⟩ (.slice Af S9.fails.length cf)) ⟨g4, 2, none⟩ (.slice Ap S9.parts.length cp)) ⟨g4, 3, none⟩ (.slice A9 S9.files.length c9)) ⟨g4, 4, none⟩ (.int .i64 S9.calls) k hk).trans ((Below.heap_setCell (World.setCell (World.setCell (World.setCell wy ⟨g4, 0, none⟩ (.int .i64 S9.room)) ⟨g4, 1, none⟩ (.slice Af S9.fails.length cf)) ⟨g4, 2, none⟩ (.slice Ap S9.parts.length cp)) ⟨g4, 3, none⟩ (.slice A9 S9.files.length c9) k hk).trans ((Below.heap_setCell (World.setCell (World.setCell wy ⟨g4, 0, none⟩ (.int .i64 S9.room)) ⟨g4, 1, none⟩ (.slice Af S9.fails.length cf)) ⟨g4, 2, none⟩ (.slice Ap S9.parts.length cp) k hk).trans ((Below.heap_setCell (World.setCell wy ⟨g4, 0, none⟩ (.int .i64 S9.room)) ⟨g4, 1, none⟩ (.slice Af S9.fails.length cf) k hk).trans (Below.heap_setCell wy ⟨g4, 0, none⟩ (.int .i64 S9.room) k hk)))))
    generalize (World.setCell (World.setCell (World.setCell (World.setCell (World.setCell wy ⟨g4, 0, none⟩ (.int .i64 S9.room)) ⟨g4, 1, none⟩ (.slice Af S9.fails.length cf)) ⟨g4, 2, none⟩ (.slice Ap S9.parts.length cp)) ⟨g4, 3, none⟩ (.slice A9 S9.files.length c9)) ⟨g4, 4, none⟩ (.int .i64 S9.calls)) = w9 at s4 h4 hs ⊢
    have n_B2 := Aside0.mk ((hs g2 NE_g2_g4.out).trans B2.out); have n_B3 := Aside0.mk ((hs g3 NE_g3_g4.out).trans B3.out); have n_HD := Aside0.mk (HD.out.step (fun k hk _ => hs k hk.2.2.2)); have n_HB := Aside0.mk (h4); clear B2 B3 HD HB; have B2 := n_B2; have B3 := n_B3; have HD := n_HD; have HB := n_HB; clear n_B2 n_B3 n_HD n_HB
    clear B4
    have B4 := Aside0.mk s4
    clear hs s0 s1 s2 s3 s4 h0 h1 h2 h3 h4
    refine bodyPost_ret (results_ct rfl _ _ g4 49 #[.int .i64 S9.room, .slice Af S9.fails.length cf, .slice Ap S9.parts.length cp, .slice A9 S9.files.length c9, .int .i64 S9.calls] (0, 0) _ rfl B4.out Try.underlying49 rfl (by kernel_rfl)) rfl ?_
    rw [HR9.out]
    exact ⟨A9, c9, rfl, HD.out.mono (fun k hk => hk.1), HB.out⟩
  · have hP : doesP S a n1 n2 b ks = syncP S n1 := by unfold doesP; rw [hm]; rfl
    rw [hP]
    clear hP
    have d0 : (a % 7 == 0) = false := by rw [hm]; rfl
    have d1 : (a % 7 == 1) = false := by rw [hm]; rfl
    have d2 : (a % 7 == 2) = true := by rw [hm]; rfl
    have d3 : (a % 7 == 3) = false := by rw [hm]; rfl
    have d4 : (a % 7 == 4) = false := by rw [hm]; rfl
    have d6 : (a % 7 == 6) = false := by rw [hm]; rfl
    clear hm
    obtain ⟨⟨S9, e9⟩, hr⟩ : ∃ q, syncP S n1 = q := ⟨_, rfl⟩
    have HR9 := Aside0.mk hr
    clear hr
    go_enter Try.func21, Try.ntmps21
    go_upto_region 1 with (first | ((with_reducible refine gate_dst (N := 2) rfl ?_); refine box_event ?hg (N := 2) ?hd (cs := #[.int .u8 a, .string (str n1), .string (str n2), .slice Ab b.length cb, .slice Ak ks.length ck]) (t := 32) ?hr ?_; (case hd => rfl); (case hg => rfl); (case hr => first | (go_simp; done) | (go_simp; rfl)); intro g2 hg w3 hbox hb; have GE_g2 : Aside0 (w.heap.size ≤ g2) := ⟨by rw [hg]; exact below_size HB.out⟩; have n_HB := Aside0.mk (below_step HB.out hb); clear HB; have HB := n_HB; clear n_HB; have B2 := Aside0.mk hbox; clear hg hbox hb) | ((with_reducible refine gate_dst (N := 3) rfl ?_); refine box_event ?hg (N := 3) ?hd (cs := #[.int .i64 S.room, .slice Af S.fails.length cf, .slice Ap S.parts.length cp, .slice A S.files.length c, .int .i64 S.calls]) (t := 49) ?hr ?_; (case hd => rfl); (case hg => rfl); (case hr => first | (go_simp; done) | (go_simp; rfl)); intro g3 hg w3 hbox hb; have NE_g2_g3 : Aside0 (g2 ≠ g3) := ⟨by rw [hg]; exact Nat.ne_of_lt (blk_lt B2.out)⟩; have GE_g3 : Aside0 (w.heap.size ≤ g3) := ⟨by rw [hg]; exact below_size HB.out⟩; have n_B2 := Aside0.mk (blk_below B2.out hb); have n_HB := Aside0.mk (below_step HB.out hb); clear B2 HB; have B2 := n_B2; have HB := n_HB; clear n_B2 n_HB; have B3 := Aside0.mk hbox; clear hg hbox hb) | ((with_reducible refine gate_dst (N := 4) rfl ?_); refine box_event ?hg (N := 4) ?hd (cs := #[.int .i64 0, .slice none 0 0, .slice none 0 0, .slice none 0 0, .int .i64 0]) (t := 49) ?hr ?_; (case hd => rfl); (case hg => rfl); (case hr => first | (go_simp; done) | (go_simp; rfl)); intro g4 hg w3 hbox hb; have NE_g2_g4 : Aside0 (g2 ≠ g4) := ⟨by rw [hg]; exact Nat.ne_of_lt (blk_lt B2.out)⟩; have NE_g3_g4 : Aside0 (g3 ≠ g4) := ⟨by rw [hg]; exact Nat.ne_of_lt (blk_lt B3.out)⟩; have GE_g4 : Aside0 (w.heap.size ≤ g4) := ⟨by rw [hg]; exact below_size HB.out⟩; have n_B2 := Aside0.mk (blk_below B2.out hb); have n_B3 := Aside0.mk (blk_below B3.out hb); have n_HB := Aside0.mk (below_step HB.out hb); clear B2 B3 HB; have B2 := n_B2; have B3 := n_B3; have HB := n_HB; clear n_B2 n_B3 n_HB; have B4 := Aside0.mk hbox; clear hg hbox hb))
    have bB2_0 := (blk_cell B2.out 0).trans (show _ = some (.int .u8 a) from rfl)
    have bB2_1 := (blk_cell B2.out 1).trans (show _ = some (.string (str n1)) from rfl)
    have bB2_2 := (blk_cell B2.out 2).trans (show _ = some (.string (str n2)) from rfl)
    have bB2_3 := (blk_cell B2.out 3).trans (show _ = some (.slice Ab b.length cb) from rfl)
    have bB2_4 := (blk_cell B2.out 4).trans (show _ = some (.slice Ak ks.length ck) from rfl)
    have bB2_f := fun j => blk_frozen B2.out j
    have bB3_0 := (blk_cell B3.out 0).trans (show _ = some (.int .i64 S.room) from rfl)
    have bB3_1 := (blk_cell B3.out 1).trans (show _ = some (.slice Af S.fails.length cf) from rfl)
    have bB3_2 := (blk_cell B3.out 2).trans (show _ = some (.slice Ap S.parts.length cp) from rfl)
    have bB3_3 := (blk_cell B3.out 3).trans (show _ = some (.slice A S.files.length c) from rfl)
    have bB3_4 := (blk_cell B3.out 4).trans (show _ = some (.int .i64 S.calls) from rfl)
    have bB3_f := fun j => blk_frozen B3.out j
    have bB4_0 := (blk_cell B4.out 0).trans (show _ = some (.int .i64 0) from rfl)
    have bB4_1 := (blk_cell B4.out 1).trans (show _ = some (.slice none 0 0) from rfl)
    have bB4_2 := (blk_cell B4.out 2).trans (show _ = some (.slice none 0 0) from rfl)
    have bB4_3 := (blk_cell B4.out 3).trans (show _ = some (.slice none 0 0) from rfl)
    have bB4_4 := (blk_cell B4.out 4).trans (show _ = some (.int .i64 0) from rfl)
    have bB4_f := fun j => blk_frozen B4.out j
    go_wp2_with (first | (go_at_call 39; refine (sync_doc _ Af cf Ap cp A c S n1 _ (HI.out.below HB.out) HLN.out HFN.out HRI.out c0 c1).mono ?_; intro e w5 hq; obtain ⟨A9, c9, rfl, hd, hb⟩ := hq.of HR9.out; clear hq; replace hd := hd.mono (P' := fun k => (P k ∨ w.heap.size ≤ k) ∧ k ≠ g2 ∧ k ≠ g3 ∧ k ≠ g4) (fun k hk => ⟨hk.imp And.left (Nat.le_trans (below_size HB.out)), (fun e => by subst e; have q1 := GE_g2.out; have q2 := blk_lt B2.out; rcases hk with hk | hk <;> omega), (fun e => by subst e; have q1 := GE_g3.out; have q2 := blk_lt B3.out; rcases hk with hk | hk <;> omega), (fun e => by subst e; have q1 := GE_g4.out; have q2 := blk_lt B4.out; rcases hk with hk | hk <;> omega)⟩); have n_B2 := Aside0.mk (blk_below B2.out hb); have n_B3 := Aside0.mk (blk_below B3.out hb); have n_B4 := Aside0.mk (blk_below B4.out hb); have n_HB := Aside0.mk (below_step HB.out hb); clear B2 B3 B4 HB; have B2 := n_B2; have B3 := n_B3; have B4 := n_B4; have HB := n_HB; clear n_B2 n_B3 n_B4 n_HB; clear hb; clear bB2_0 bB2_1 bB2_2 bB2_3 bB2_4 bB2_f; have bB2_0 := (blk_cell B2.out 0).trans (show _ = some (.int .u8 a) from rfl); have bB2_1 := (blk_cell B2.out 1).trans (show _ = some (.string (str n1)) from rfl); have bB2_2 := (blk_cell B2.out 2).trans (show _ = some (.string (str n2)) from rfl); have bB2_3 := (blk_cell B2.out 3).trans (show _ = some (.slice Ab b.length cb) from rfl); have bB2_4 := (blk_cell B2.out 4).trans (show _ = some (.slice Ak ks.length ck) from rfl); have bB2_f := fun j => blk_frozen B2.out j; clear bB3_0 bB3_1 bB3_2 bB3_3 bB3_4 bB3_f; have bB3_0 := (blk_cell B3.out 0).trans (show _ = some (.int .i64 S.room) from rfl); have bB3_1 := (blk_cell B3.out 1).trans (show _ = some (.slice Af S.fails.length cf) from rfl); have bB3_2 := (blk_cell B3.out 2).trans (show _ = some (.slice Ap S.parts.length cp) from rfl); have bB3_3 := (blk_cell B3.out 3).trans (show _ = some (.slice A S.files.length c) from rfl); have bB3_4 := (blk_cell B3.out 4).trans (show _ = some (.int .i64 S.calls) from rfl); have bB3_f := fun j => blk_frozen B3.out j; clear bB4_0 bB4_1 bB4_2 bB4_3 bB4_4 bB4_f; have bB4_0 := (blk_cell B4.out 0).trans (show _ = some (.int .i64 0) from rfl); have bB4_1 := (blk_cell B4.out 1).trans (show _ = some (.slice none 0 0) from rfl); have bB4_2 := (blk_cell B4.out 2).trans (show _ = some (.slice none 0 0) from rfl); have bB4_3 := (blk_cell B4.out 3).trans (show _ = some (.slice none 0 0) from rfl); have bB4_4 := (blk_cell B4.out 4).trans (show _ = some (.int .i64 0) from rfl); have bB4_f := fun j => blk_frozen B4.out j; have HD := Aside0.mk hd; clear hd))
    clear bB2_0 bB2_1 bB2_2 bB2_3 bB2_4 bB2_f
    clear bB3_0 bB3_1 bB3_2 bB3_3 bB3_4 bB3_f
    clear bB4_0 bB4_1 bB4_2 bB4_3 bB4_4 bB4_f
    rename World => wy
    have s0 := blk_put (cs' := #[.int .i64 S9.room, .slice none 0 0, .slice none 0 0, .slice none 0 0, .int .i64 0]) B4.out 0 (.int .i64 S9.room) rfl
    have h0 := below_set (j := 0) (v := .int .i64 S9.room) HB.out GE_g4.out
    have s1 := blk_put (cs' := #[.int .i64 S9.room, .slice Af S9.fails.length cf, .slice none 0 0, .slice none 0 0, .int .i64 0]) s0 1 (.slice Af S9.fails.length cf) rfl
    have h1 := below_set (j := 1) (v := .slice Af S9.fails.length cf) h0 GE_g4.out
    have s2 := blk_put (cs' := #[.int .i64 S9.room, .slice Af S9.fails.length cf, .slice Ap S9.parts.length cp, .slice none 0 0, .int .i64 0]) s1 2 (.slice Ap S9.parts.length cp) rfl
    have h2 := below_set (j := 2) (v := .slice Ap S9.parts.length cp) h1 GE_g4.out
    have s3 := blk_put (cs' := #[.int .i64 S9.room, .slice Af S9.fails.length cf, .slice Ap S9.parts.length cp, .slice A9 S9.files.length c9, .int .i64 0]) s2 3 (.slice A9 S9.files.length c9) rfl
    have h3 := below_set (j := 3) (v := .slice A9 S9.files.length c9) h2 GE_g4.out
    have s4 := blk_put (cs' := #[.int .i64 S9.room, .slice Af S9.fails.length cf, .slice Ap S9.parts.length cp, .slice A9 S9.files.length c9, .int .i64 S9.calls]) s3 4 (.int .i64 S9.calls) rfl
    have h4 := below_set (j := 4) (v := .int .i64 S9.calls) h3 GE_g4.out
    have hs : ∀ k, k ≠ g4 → (World.setCell (World.setCell (World.setCell (World.setCell (World.setCell wy ⟨g4, 0, none⟩ (.int .i64 S9.room)) ⟨g4, 1, none⟩ (.slice Af S9.fails.length cf)) ⟨g4, 2, none⟩ (.slice Ap S9.parts.length cp)) ⟨g4, 3, none⟩ (.slice A9 S9.files.length c9)) ⟨g4, 4, none⟩ (.int .i64 S9.calls)).heap[k]? = wy.heap[k]? := fun k hk => ((Below.heap_setCell (World.setCell (World.setCell (World.setCell (World.setCell wy ⟨g4, 0, none⟩ (.int .i64 S9.room)) ⟨g4, 1, none⟩ (.slice Af S9.fails.length cf)) ⟨g4, 2, none⟩ (.slice Ap S9.parts.length cp)) ⟨g4, 3, none⟩ (.slice A9 S9.files.length c9)) ⟨g4, 4, none⟩ (.int .i64 S9.calls) k hk).trans ((Below.heap_setCell (World.setCell (World.setCell (World.setCell wy ⟨g4, 0, none⟩ (.int .i64 S9.room)) ⟨g4, 1, none⟩ (.slice Af S9.fails.length cf)) ⟨g4, 2, none⟩ (.slice Ap S9.parts.length cp)) ⟨g4, 3, none⟩ (.slice A9 S9.files.length c9) k hk).trans ((Below.heap_setCell (World.setCell (World.setCell wy ⟨g4, 0, none⟩ (.int .i64 S9.room)) ⟨g4, 1, none⟩ (.slice Af S9.fails.length cf)) ⟨g4, 2, none⟩ (.slice Ap S9.parts.length cp) k hk).trans ((Below.heap_setCell (World.setCell wy ⟨g4, 0, none⟩ (.int .i64 S9.room)) ⟨g4, 1, none⟩ (.slice Af S9.fails.length cf) k hk).trans (Below.heap_setCell wy ⟨g4, 0, none⟩ (.int .i64 S9.room) k hk)))))
    generalize (World.setCell (World.setCell (World.setCell (World.setCell (World.setCell wy ⟨g4, 0, none⟩ (.int .i64 S9.room)) ⟨g4, 1, none⟩ (.slice Af S9.fails.length cf)) ⟨g4, 2, none⟩ (.slice Ap S9.parts.length cp)) ⟨g4, 3, none⟩ (.slice A9 S9.files.length c9)) ⟨g4, 4, none⟩ (.int .i64 S9.calls)) = w9 at s4 h4 hs ⊢
    have n_B2 := Aside0.mk ((hs g2 NE_g2_g4.out).trans B2.out); have n_B3 := Aside0.mk ((hs g3 NE_g3_g4.out).trans B3.out); have n_HD := Aside0.mk (HD.out.step (fun k hk _ => hs k hk.2.2.2)); have n_HB := Aside0.mk (h4); clear B2 B3 HD HB; have B2 := n_B2; have B3 := n_B3; have HD := n_HD; have HB := n_HB; clear n_B2 n_B3 n_HD n_HB
    clear B4
    have B4 := Aside0.mk s4
    clear hs s0 s1 s2 s3 s4 h0 h1 h2 h3 h4
    refine bodyPost_ret (results_ct rfl _ _ g4 49 #[.int .i64 S9.room, .slice Af S9.fails.length cf, .slice Ap S9.parts.length cp, .slice A9 S9.files.length c9, .int .i64 S9.calls] (0, 0) _ rfl B4.out Try.underlying49 rfl (by kernel_rfl)) rfl ?_
    rw [HR9.out]
    exact ⟨A9, c9, rfl, HD.out.mono (fun k hk => hk.1), HB.out⟩
  · have hP : doesP S a n1 n2 b ks = renameP S n1 n2 := by unfold doesP; rw [hm]; rfl
    rw [hP]
    clear hP
    have d0 : (a % 7 == 0) = false := by rw [hm]; rfl
    have d1 : (a % 7 == 1) = false := by rw [hm]; rfl
    have d2 : (a % 7 == 2) = false := by rw [hm]; rfl
    have d3 : (a % 7 == 3) = true := by rw [hm]; rfl
    have d4 : (a % 7 == 4) = false := by rw [hm]; rfl
    have d6 : (a % 7 == 6) = false := by rw [hm]; rfl
    clear hm
    obtain ⟨⟨S9, e9⟩, hr⟩ : ∃ q, renameP S n1 n2 = q := ⟨_, rfl⟩
    have HR9 := Aside0.mk hr
    clear hr
    go_enter Try.func21, Try.ntmps21
    go_upto_region 1 with (first | ((with_reducible refine gate_dst (N := 2) rfl ?_); refine box_event ?hg (N := 2) ?hd (cs := #[.int .u8 a, .string (str n1), .string (str n2), .slice Ab b.length cb, .slice Ak ks.length ck]) (t := 32) ?hr ?_; (case hd => rfl); (case hg => rfl); (case hr => first | (go_simp; done) | (go_simp; rfl)); intro g2 hg w3 hbox hb; have GE_g2 : Aside0 (w.heap.size ≤ g2) := ⟨by rw [hg]; exact below_size HB.out⟩; have n_HB := Aside0.mk (below_step HB.out hb); clear HB; have HB := n_HB; clear n_HB; have B2 := Aside0.mk hbox; clear hg hbox hb) | ((with_reducible refine gate_dst (N := 3) rfl ?_); refine box_event ?hg (N := 3) ?hd (cs := #[.int .i64 S.room, .slice Af S.fails.length cf, .slice Ap S.parts.length cp, .slice A S.files.length c, .int .i64 S.calls]) (t := 49) ?hr ?_; (case hd => rfl); (case hg => rfl); (case hr => first | (go_simp; done) | (go_simp; rfl)); intro g3 hg w3 hbox hb; have NE_g2_g3 : Aside0 (g2 ≠ g3) := ⟨by rw [hg]; exact Nat.ne_of_lt (blk_lt B2.out)⟩; have GE_g3 : Aside0 (w.heap.size ≤ g3) := ⟨by rw [hg]; exact below_size HB.out⟩; have n_B2 := Aside0.mk (blk_below B2.out hb); have n_HB := Aside0.mk (below_step HB.out hb); clear B2 HB; have B2 := n_B2; have HB := n_HB; clear n_B2 n_HB; have B3 := Aside0.mk hbox; clear hg hbox hb) | ((with_reducible refine gate_dst (N := 4) rfl ?_); refine box_event ?hg (N := 4) ?hd (cs := #[.int .i64 0, .slice none 0 0, .slice none 0 0, .slice none 0 0, .int .i64 0]) (t := 49) ?hr ?_; (case hd => rfl); (case hg => rfl); (case hr => first | (go_simp; done) | (go_simp; rfl)); intro g4 hg w3 hbox hb; have NE_g2_g4 : Aside0 (g2 ≠ g4) := ⟨by rw [hg]; exact Nat.ne_of_lt (blk_lt B2.out)⟩; have NE_g3_g4 : Aside0 (g3 ≠ g4) := ⟨by rw [hg]; exact Nat.ne_of_lt (blk_lt B3.out)⟩; have GE_g4 : Aside0 (w.heap.size ≤ g4) := ⟨by rw [hg]; exact below_size HB.out⟩; have n_B2 := Aside0.mk (blk_below B2.out hb); have n_B3 := Aside0.mk (blk_below B3.out hb); have n_HB := Aside0.mk (below_step HB.out hb); clear B2 B3 HB; have B2 := n_B2; have B3 := n_B3; have HB := n_HB; clear n_B2 n_B3 n_HB; have B4 := Aside0.mk hbox; clear hg hbox hb))
    have bB2_0 := (blk_cell B2.out 0).trans (show _ = some (.int .u8 a) from rfl)
    have bB2_1 := (blk_cell B2.out 1).trans (show _ = some (.string (str n1)) from rfl)
    have bB2_2 := (blk_cell B2.out 2).trans (show _ = some (.string (str n2)) from rfl)
    have bB2_3 := (blk_cell B2.out 3).trans (show _ = some (.slice Ab b.length cb) from rfl)
    have bB2_4 := (blk_cell B2.out 4).trans (show _ = some (.slice Ak ks.length ck) from rfl)
    have bB2_f := fun j => blk_frozen B2.out j
    have bB3_0 := (blk_cell B3.out 0).trans (show _ = some (.int .i64 S.room) from rfl)
    have bB3_1 := (blk_cell B3.out 1).trans (show _ = some (.slice Af S.fails.length cf) from rfl)
    have bB3_2 := (blk_cell B3.out 2).trans (show _ = some (.slice Ap S.parts.length cp) from rfl)
    have bB3_3 := (blk_cell B3.out 3).trans (show _ = some (.slice A S.files.length c) from rfl)
    have bB3_4 := (blk_cell B3.out 4).trans (show _ = some (.int .i64 S.calls) from rfl)
    have bB3_f := fun j => blk_frozen B3.out j
    have bB4_0 := (blk_cell B4.out 0).trans (show _ = some (.int .i64 0) from rfl)
    have bB4_1 := (blk_cell B4.out 1).trans (show _ = some (.slice none 0 0) from rfl)
    have bB4_2 := (blk_cell B4.out 2).trans (show _ = some (.slice none 0 0) from rfl)
    have bB4_3 := (blk_cell B4.out 3).trans (show _ = some (.slice none 0 0) from rfl)
    have bB4_4 := (blk_cell B4.out 4).trans (show _ = some (.int .i64 0) from rfl)
    have bB4_f := fun j => blk_frozen B4.out j
    go_wp2_with (first | (go_at_call 40; refine (rename_doc _ Af cf Ap cp A c S n1 n2 _ (HI.out.below HB.out) HLN.out HFN.out HRI.out c0 c1).mono ?_; intro e w5 hq; obtain ⟨A9, c9, rfl, hd, hb⟩ := hq.of HR9.out; clear hq; replace hd := hd.mono (P' := fun k => (P k ∨ w.heap.size ≤ k) ∧ k ≠ g2 ∧ k ≠ g3 ∧ k ≠ g4) (fun k hk => ⟨hk.imp And.left (Nat.le_trans (below_size HB.out)), (fun e => by subst e; have q1 := GE_g2.out; have q2 := blk_lt B2.out; rcases hk with hk | hk <;> omega), (fun e => by subst e; have q1 := GE_g3.out; have q2 := blk_lt B3.out; rcases hk with hk | hk <;> omega), (fun e => by subst e; have q1 := GE_g4.out; have q2 := blk_lt B4.out; rcases hk with hk | hk <;> omega)⟩); have n_B2 := Aside0.mk (blk_below B2.out hb); have n_B3 := Aside0.mk (blk_below B3.out hb); have n_B4 := Aside0.mk (blk_below B4.out hb); have n_HB := Aside0.mk (below_step HB.out hb); clear B2 B3 B4 HB; have B2 := n_B2; have B3 := n_B3; have B4 := n_B4; have HB := n_HB; clear n_B2 n_B3 n_B4 n_HB; clear hb; clear bB2_0 bB2_1 bB2_2 bB2_3 bB2_4 bB2_f; have bB2_0 := (blk_cell B2.out 0).trans (show _ = some (.int .u8 a) from rfl); have bB2_1 := (blk_cell B2.out 1).trans (show _ = some (.string (str n1)) from rfl); have bB2_2 := (blk_cell B2.out 2).trans (show _ = some (.string (str n2)) from rfl); have bB2_3 := (blk_cell B2.out 3).trans (show _ = some (.slice Ab b.length cb) from rfl); have bB2_4 := (blk_cell B2.out 4).trans (show _ = some (.slice Ak ks.length ck) from rfl); have bB2_f := fun j => blk_frozen B2.out j; clear bB3_0 bB3_1 bB3_2 bB3_3 bB3_4 bB3_f; have bB3_0 := (blk_cell B3.out 0).trans (show _ = some (.int .i64 S.room) from rfl); have bB3_1 := (blk_cell B3.out 1).trans (show _ = some (.slice Af S.fails.length cf) from rfl); have bB3_2 := (blk_cell B3.out 2).trans (show _ = some (.slice Ap S.parts.length cp) from rfl); have bB3_3 := (blk_cell B3.out 3).trans (show _ = some (.slice A S.files.length c) from rfl); have bB3_4 := (blk_cell B3.out 4).trans (show _ = some (.int .i64 S.calls) from rfl); have bB3_f := fun j => blk_frozen B3.out j; clear bB4_0 bB4_1 bB4_2 bB4_3 bB4_4 bB4_f; have bB4_0 := (blk_cell B4.out 0).trans (show _ = some (.int .i64 0) from rfl); have bB4_1 := (blk_cell B4.out 1).trans (show _ = some (.slice none 0 0) from rfl); have bB4_2 := (blk_cell B4.out 2).trans (show _ = some (.slice none 0 0) from rfl); have bB4_3 := (blk_cell B4.out 3).trans (show _ = some (.slice none 0 0) from rfl); have bB4_4 := (blk_cell B4.out 4).trans (show _ = some (.int .i64 0) from rfl); have bB4_f := fun j => blk_frozen B4.out j; have HD := Aside0.mk hd; clear hd))
    clear bB2_0 bB2_1 bB2_2 bB2_3 bB2_4 bB2_f
    clear bB3_0 bB3_1 bB3_2 bB3_3 bB3_4 bB3_f
    clear bB4_0 bB4_1 bB4_2 bB4_3 bB4_4 bB4_f
    rename World => wy
    have s0 := blk_put (cs' := #[.int .i64 S9.room, .slice none 0 0, .slice none 0 0, .slice none 0 0, .int .i64 0]) B4.out 0 (.int .i64 S9.room) rfl
    have h0 := below_set (j := 0) (v := .int .i64 S9.room) HB.out GE_g4.out
    have s1 := blk_put (cs' := #[.int .i64 S9.room, .slice Af S9.fails.length cf, .slice none 0 0, .slice none 0 0, .int .i64 0]) s0 1 (.slice Af S9.fails.length cf) rfl
    have h1 := below_set (j := 1) (v := .slice Af S9.fails.length cf) h0 GE_g4.out
    have s2 := blk_put (cs' := #[.int .i64 S9.room, .slice Af S9.fails.length cf, .slice Ap S9.parts.length cp, .slice none 0 0, .int .i64 0]) s1 2 (.slice Ap S9.parts.length cp) rfl
    have h2 := below_set (j := 2) (v := .slice Ap S9.parts.length cp) h1 GE_g4.out
    have s3 := blk_put (cs' := #[.int .i64 S9.room, .slice Af S9.fails.length cf, .slice Ap S9.parts.length cp, .slice A9 S9.files.length c9, .int .i64 0]) s2 3 (.slice A9 S9.files.length c9) rfl
    have h3 := below_set (j := 3) (v := .slice A9 S9.files.length c9) h2 GE_g4.out
    have s4 := blk_put (cs' := #[.int .i64 S9.room, .slice Af S9.fails.length cf, .slice Ap S9.parts.length cp, .slice A9 S9.files.length c9, .int .i64 S9.calls]) s3 4 (.int .i64 S9.calls) rfl
    have h4 := below_set (j := 4) (v := .int .i64 S9.calls) h3 GE_g4.out
    have hs : ∀ k, k ≠ g4 → (World.setCell (World.setCell (World.setCell (World.setCell (World.setCell wy ⟨g4, 0, none⟩ (.int .i64 S9.room)) ⟨g4, 1, none⟩ (.slice Af S9.fails.length cf)) ⟨g4, 2, none⟩ (.slice Ap S9.parts.length cp)) ⟨g4, 3, none⟩ (.slice A9 S9.files.length c9)) ⟨g4, 4, none⟩ (.int .i64 S9.calls)).heap[k]? = wy.heap[k]? := fun k hk => ((Below.heap_setCell (World.setCell (World.setCell (World.setCell (World.setCell wy ⟨g4, 0, none⟩ (.int .i64 S9.room)) ⟨g4, 1, none⟩ (.slice Af S9.fails.length cf)) ⟨g4, 2, none⟩ (.slice Ap S9.parts.length cp)) ⟨g4, 3, none⟩ (.slice A9 S9.files.length c9)) ⟨g4, 4, none⟩ (.int .i64 S9.calls) k hk).trans ((Below.heap_setCell (World.setCell (World.setCell (World.setCell wy ⟨g4, 0, none⟩ (.int .i64 S9.room)) ⟨g4, 1, none⟩ (.slice Af S9.fails.length cf)) ⟨g4, 2, none⟩ (.slice Ap S9.parts.length cp)) ⟨g4, 3, none⟩ (.slice A9 S9.files.length c9) k hk).trans ((Below.heap_setCell (World.setCell (World.setCell wy ⟨g4, 0, none⟩ (.int .i64 S9.room)) ⟨g4, 1, none⟩ (.slice Af S9.fails.length cf)) ⟨g4, 2, none⟩ (.slice Ap S9.parts.length cp) k hk).trans ((Below.heap_setCell (World.setCell wy ⟨g4, 0, none⟩ (.int .i64 S9.room)) ⟨g4, 1, none⟩ (.slice Af S9.fails.length cf) k hk).trans (Below.heap_setCell wy ⟨g4, 0, none⟩ (.int .i64 S9.room) k hk)))))
    generalize (World.setCell (World.setCell (World.setCell (World.setCell (World.setCell wy ⟨g4, 0, none⟩ (.int .i64 S9.room)) ⟨g4, 1, none⟩ (.slice Af S9.fails.length cf)) ⟨g4, 2, none⟩ (.slice Ap S9.parts.length cp)) ⟨g4, 3, none⟩ (.slice A9 S9.files.length c9)) ⟨g4, 4, none⟩ (.int .i64 S9.calls)) = w9 at s4 h4 hs ⊢
    have n_B2 := Aside0.mk ((hs g2 NE_g2_g4.out).trans B2.out); have n_B3 := Aside0.mk ((hs g3 NE_g3_g4.out).trans B3.out); have n_HD := Aside0.mk (HD.out.step (fun k hk _ => hs k hk.2.2.2)); have n_HB := Aside0.mk (h4); clear B2 B3 HD HB; have B2 := n_B2; have B3 := n_B3; have HD := n_HD; have HB := n_HB; clear n_B2 n_B3 n_HD n_HB
    clear B4
    have B4 := Aside0.mk s4
    clear hs s0 s1 s2 s3 s4 h0 h1 h2 h3 h4
    refine bodyPost_ret (results_ct rfl _ _ g4 49 #[.int .i64 S9.room, .slice Af S9.fails.length cf, .slice Ap S9.parts.length cp, .slice A9 S9.files.length c9, .int .i64 S9.calls] (0, 0) _ rfl B4.out Try.underlying49 rfl (by kernel_rfl)) rfl ?_
    rw [HR9.out]
    exact ⟨A9, c9, rfl, HD.out.mono (fun k hk => hk.1), HB.out⟩
  · have hP : doesP S a n1 n2 b ks = removeP S n1 := by unfold doesP; rw [hm]; rfl
    rw [hP]
    clear hP
    have d0 : (a % 7 == 0) = false := by rw [hm]; rfl
    have d1 : (a % 7 == 1) = false := by rw [hm]; rfl
    have d2 : (a % 7 == 2) = false := by rw [hm]; rfl
    have d3 : (a % 7 == 3) = false := by rw [hm]; rfl
    have d4 : (a % 7 == 4) = true := by rw [hm]; rfl
    have d6 : (a % 7 == 6) = false := by rw [hm]; rfl
    clear hm
    obtain ⟨⟨S9, e9⟩, hr⟩ : ∃ q, removeP S n1 = q := ⟨_, rfl⟩
    have HR9 := Aside0.mk hr
    clear hr
    go_enter Try.func21, Try.ntmps21
    go_upto_region 1 with (first | ((with_reducible refine gate_dst (N := 2) rfl ?_); refine box_event ?hg (N := 2) ?hd (cs := #[.int .u8 a, .string (str n1), .string (str n2), .slice Ab b.length cb, .slice Ak ks.length ck]) (t := 32) ?hr ?_; (case hd => rfl); (case hg => rfl); (case hr => first | (go_simp; done) | (go_simp; rfl)); intro g2 hg w3 hbox hb; have GE_g2 : Aside0 (w.heap.size ≤ g2) := ⟨by rw [hg]; exact below_size HB.out⟩; have n_HB := Aside0.mk (below_step HB.out hb); clear HB; have HB := n_HB; clear n_HB; have B2 := Aside0.mk hbox; clear hg hbox hb) | ((with_reducible refine gate_dst (N := 3) rfl ?_); refine box_event ?hg (N := 3) ?hd (cs := #[.int .i64 S.room, .slice Af S.fails.length cf, .slice Ap S.parts.length cp, .slice A S.files.length c, .int .i64 S.calls]) (t := 49) ?hr ?_; (case hd => rfl); (case hg => rfl); (case hr => first | (go_simp; done) | (go_simp; rfl)); intro g3 hg w3 hbox hb; have NE_g2_g3 : Aside0 (g2 ≠ g3) := ⟨by rw [hg]; exact Nat.ne_of_lt (blk_lt B2.out)⟩; have GE_g3 : Aside0 (w.heap.size ≤ g3) := ⟨by rw [hg]; exact below_size HB.out⟩; have n_B2 := Aside0.mk (blk_below B2.out hb); have n_HB := Aside0.mk (below_step HB.out hb); clear B2 HB; have B2 := n_B2; have HB := n_HB; clear n_B2 n_HB; have B3 := Aside0.mk hbox; clear hg hbox hb) | ((with_reducible refine gate_dst (N := 4) rfl ?_); refine box_event ?hg (N := 4) ?hd (cs := #[.int .i64 0, .slice none 0 0, .slice none 0 0, .slice none 0 0, .int .i64 0]) (t := 49) ?hr ?_; (case hd => rfl); (case hg => rfl); (case hr => first | (go_simp; done) | (go_simp; rfl)); intro g4 hg w3 hbox hb; have NE_g2_g4 : Aside0 (g2 ≠ g4) := ⟨by rw [hg]; exact Nat.ne_of_lt (blk_lt B2.out)⟩; have NE_g3_g4 : Aside0 (g3 ≠ g4) := ⟨by rw [hg]; exact Nat.ne_of_lt (blk_lt B3.out)⟩; have GE_g4 : Aside0 (w.heap.size ≤ g4) := ⟨by rw [hg]; exact below_size HB.out⟩; have n_B2 := Aside0.mk (blk_below B2.out hb); have n_B3 := Aside0.mk (blk_below B3.out hb); have n_HB := Aside0.mk (below_step HB.out hb); clear B2 B3 HB; have B2 := n_B2; have B3 := n_B3; have HB := n_HB; clear n_B2 n_B3 n_HB; have B4 := Aside0.mk hbox; clear hg hbox hb))
    have bB2_0 := (blk_cell B2.out 0).trans (show _ = some (.int .u8 a) from rfl)
    have bB2_1 := (blk_cell B2.out 1).trans (show _ = some (.string (str n1)) from rfl)
    have bB2_2 := (blk_cell B2.out 2).trans (show _ = some (.string (str n2)) from rfl)
    have bB2_3 := (blk_cell B2.out 3).trans (show _ = some (.slice Ab b.length cb) from rfl)
    have bB2_4 := (blk_cell B2.out 4).trans (show _ = some (.slice Ak ks.length ck) from rfl)
    have bB2_f := fun j => blk_frozen B2.out j
    have bB3_0 := (blk_cell B3.out 0).trans (show _ = some (.int .i64 S.room) from rfl)
    have bB3_1 := (blk_cell B3.out 1).trans (show _ = some (.slice Af S.fails.length cf) from rfl)
    have bB3_2 := (blk_cell B3.out 2).trans (show _ = some (.slice Ap S.parts.length cp) from rfl)
    have bB3_3 := (blk_cell B3.out 3).trans (show _ = some (.slice A S.files.length c) from rfl)
    have bB3_4 := (blk_cell B3.out 4).trans (show _ = some (.int .i64 S.calls) from rfl)
    have bB3_f := fun j => blk_frozen B3.out j
    have bB4_0 := (blk_cell B4.out 0).trans (show _ = some (.int .i64 0) from rfl)
    have bB4_1 := (blk_cell B4.out 1).trans (show _ = some (.slice none 0 0) from rfl)
    have bB4_2 := (blk_cell B4.out 2).trans (show _ = some (.slice none 0 0) from rfl)
    have bB4_3 := (blk_cell B4.out 3).trans (show _ = some (.slice none 0 0) from rfl)
    have bB4_4 := (blk_cell B4.out 4).trans (show _ = some (.int .i64 0) from rfl)
    have bB4_f := fun j => blk_frozen B4.out j
    go_wp2_with (first | (go_at_call 41; refine (remove_doc _ Af cf Ap cp A c S n1 _ (HI.out.below HB.out) HLN.out HFN.out HRI.out c0 c1).mono ?_; intro e w5 hq; obtain ⟨A9, c9, rfl, hd, hb⟩ := hq.of HR9.out; clear hq; replace hd := hd.mono (P' := fun k => (P k ∨ w.heap.size ≤ k) ∧ k ≠ g2 ∧ k ≠ g3 ∧ k ≠ g4) (fun k hk => ⟨hk.imp And.left (Nat.le_trans (below_size HB.out)), (fun e => by subst e; have q1 := GE_g2.out; have q2 := blk_lt B2.out; rcases hk with hk | hk <;> omega), (fun e => by subst e; have q1 := GE_g3.out; have q2 := blk_lt B3.out; rcases hk with hk | hk <;> omega), (fun e => by subst e; have q1 := GE_g4.out; have q2 := blk_lt B4.out; rcases hk with hk | hk <;> omega)⟩); have n_B2 := Aside0.mk (blk_below B2.out hb); have n_B3 := Aside0.mk (blk_below B3.out hb); have n_B4 := Aside0.mk (blk_below B4.out hb); have n_HB := Aside0.mk (below_step HB.out hb); clear B2 B3 B4 HB; have B2 := n_B2; have B3 := n_B3; have B4 := n_B4; have HB := n_HB; clear n_B2 n_B3 n_B4 n_HB; clear hb; clear bB2_0 bB2_1 bB2_2 bB2_3 bB2_4 bB2_f; have bB2_0 := (blk_cell B2.out 0).trans (show _ = some (.int .u8 a) from rfl); have bB2_1 := (blk_cell B2.out 1).trans (show _ = some (.string (str n1)) from rfl); have bB2_2 := (blk_cell B2.out 2).trans (show _ = some (.string (str n2)) from rfl); have bB2_3 := (blk_cell B2.out 3).trans (show _ = some (.slice Ab b.length cb) from rfl); have bB2_4 := (blk_cell B2.out 4).trans (show _ = some (.slice Ak ks.length ck) from rfl); have bB2_f := fun j => blk_frozen B2.out j; clear bB3_0 bB3_1 bB3_2 bB3_3 bB3_4 bB3_f; have bB3_0 := (blk_cell B3.out 0).trans (show _ = some (.int .i64 S.room) from rfl); have bB3_1 := (blk_cell B3.out 1).trans (show _ = some (.slice Af S.fails.length cf) from rfl); have bB3_2 := (blk_cell B3.out 2).trans (show _ = some (.slice Ap S.parts.length cp) from rfl); have bB3_3 := (blk_cell B3.out 3).trans (show _ = some (.slice A S.files.length c) from rfl); have bB3_4 := (blk_cell B3.out 4).trans (show _ = some (.int .i64 S.calls) from rfl); have bB3_f := fun j => blk_frozen B3.out j; clear bB4_0 bB4_1 bB4_2 bB4_3 bB4_4 bB4_f; have bB4_0 := (blk_cell B4.out 0).trans (show _ = some (.int .i64 0) from rfl); have bB4_1 := (blk_cell B4.out 1).trans (show _ = some (.slice none 0 0) from rfl); have bB4_2 := (blk_cell B4.out 2).trans (show _ = some (.slice none 0 0) from rfl); have bB4_3 := (blk_cell B4.out 3).trans (show _ = some (.slice none 0 0) from rfl); have bB4_4 := (blk_cell B4.out 4).trans (show _ = some (.int .i64 0) from rfl); have bB4_f := fun j => blk_frozen B4.out j; have HD := Aside0.mk hd; clear hd))
    clear bB2_0 bB2_1 bB2_2 bB2_3 bB2_4 bB2_f
    clear bB3_0 bB3_1 bB3_2 bB3_3 bB3_4 bB3_f
    clear bB4_0 bB4_1 bB4_2 bB4_3 bB4_4 bB4_f
    rename World => wy
    have s0 := blk_put (cs' := #[.int .i64 S9.room, .slice none 0 0, .slice none 0 0, .slice none 0 0, .int .i64 0]) B4.out 0 (.int .i64 S9.room) rfl
    have h0 := below_set (j := 0) (v := .int .i64 S9.room) HB.out GE_g4.out
    have s1 := blk_put (cs' := #[.int .i64 S9.room, .slice Af S9.fails.length cf, .slice none 0 0, .slice none 0 0, .int .i64 0]) s0 1 (.slice Af S9.fails.length cf) rfl
    have h1 := below_set (j := 1) (v := .slice Af S9.fails.length cf) h0 GE_g4.out
    have s2 := blk_put (cs' := #[.int .i64 S9.room, .slice Af S9.fails.length cf, .slice Ap S9.parts.length cp, .slice none 0 0, .int .i64 0]) s1 2 (.slice Ap S9.parts.length cp) rfl
    have h2 := below_set (j := 2) (v := .slice Ap S9.parts.length cp) h1 GE_g4.out
    have s3 := blk_put (cs' := #[.int .i64 S9.room, .slice Af S9.fails.length cf, .slice Ap S9.parts.length cp, .slice A9 S9.files.length c9, .int .i64 0]) s2 3 (.slice A9 S9.files.length c9) rfl
    have h3 := below_set (j := 3) (v := .slice A9 S9.files.length c9) h2 GE_g4.out
    have s4 := blk_put (cs' := #[.int .i64 S9.room, .slice Af S9.fails.length cf, .slice Ap S9.parts.length cp, .slice A9 S9.files.length c9, .int .i64 S9.calls]) s3 4 (.int .i64 S9.calls) rfl
    have h4 := below_set (j := 4) (v := .int .i64 S9.calls) h3 GE_g4.out
    have hs : ∀ k, k ≠ g4 → (World.setCell (World.setCell (World.setCell (World.setCell (World.setCell wy ⟨g4, 0, none⟩ (.int .i64 S9.room)) ⟨g4, 1, none⟩ (.slice Af S9.fails.length cf)) ⟨g4, 2, none⟩ (.slice Ap S9.parts.length cp)) ⟨g4, 3, none⟩ (.slice A9 S9.files.length c9)) ⟨g4, 4, none⟩ (.int .i64 S9.calls)).heap[k]? = wy.heap[k]? := fun k hk => ((Below.heap_setCell (World.setCell (World.setCell (World.setCell (World.setCell wy ⟨g4, 0, none⟩ (.int .i64 S9.room)) ⟨g4, 1, none⟩ (.slice Af S9.fails.length cf)) ⟨g4, 2, none⟩ (.slice Ap S9.parts.length cp)) ⟨g4, 3, none⟩ (.slice A9 S9.files.length c9)) ⟨g4, 4, none⟩ (.int .i64 S9.calls) k hk).trans ((Below.heap_setCell (World.setCell (World.setCell (World.setCell wy ⟨g4, 0, none⟩ (.int .i64 S9.room)) ⟨g4, 1, none⟩ (.slice Af S9.fails.length cf)) ⟨g4, 2, none⟩ (.slice Ap S9.parts.length cp)) ⟨g4, 3, none⟩ (.slice A9 S9.files.length c9) k hk).trans ((Below.heap_setCell (World.setCell (World.setCell wy ⟨g4, 0, none⟩ (.int .i64 S9.room)) ⟨g4, 1, none⟩ (.slice Af S9.fails.length cf)) ⟨g4, 2, none⟩ (.slice Ap S9.parts.length cp) k hk).trans ((Below.heap_setCell (World.setCell wy ⟨g4, 0, none⟩ (.int .i64 S9.room)) ⟨g4, 1, none⟩ (.slice Af S9.fails.length cf) k hk).trans (Below.heap_setCell wy ⟨g4, 0, none⟩ (.int .i64 S9.room) k hk)))))
    generalize (World.setCell (World.setCell (World.setCell (World.setCell (World.setCell wy ⟨g4, 0, none⟩ (.int .i64 S9.room)) ⟨g4, 1, none⟩ (.slice Af S9.fails.length cf)) ⟨g4, 2, none⟩ (.slice Ap S9.parts.length cp)) ⟨g4, 3, none⟩ (.slice A9 S9.files.length c9)) ⟨g4, 4, none⟩ (.int .i64 S9.calls)) = w9 at s4 h4 hs ⊢
    have n_B2 := Aside0.mk ((hs g2 NE_g2_g4.out).trans B2.out); have n_B3 := Aside0.mk ((hs g3 NE_g3_g4.out).trans B3.out); have n_HD := Aside0.mk (HD.out.step (fun k hk _ => hs k hk.2.2.2)); have n_HB := Aside0.mk (h4); clear B2 B3 HD HB; have B2 := n_B2; have B3 := n_B3; have HD := n_HD; have HB := n_HB; clear n_B2 n_B3 n_HD n_HB
    clear B4
    have B4 := Aside0.mk s4
    clear hs s0 s1 s2 s3 s4 h0 h1 h2 h3 h4
    refine bodyPost_ret (results_ct rfl _ _ g4 49 #[.int .i64 S9.room, .slice Af S9.fails.length cf, .slice Ap S9.parts.length cp, .slice A9 S9.files.length c9, .int .i64 S9.calls] (0, 0) _ rfl B4.out Try.underlying49 rfl (by kernel_rfl)) rfl ?_
    rw [HR9.out]
    exact ⟨A9, c9, rfl, HD.out.mono (fun k hk => hk.1), HB.out⟩
  · have hP : doesP S a n1 n2 b ks = (S, 0) := by unfold doesP; rw [hm]; rfl
    rw [hP]
    clear hP
    have d0 : (a % 7 == 0) = false := by rw [hm]; rfl
    have d1 : (a % 7 == 1) = false := by rw [hm]; rfl
    have d2 : (a % 7 == 2) = false := by rw [hm]; rfl
    have d3 : (a % 7 == 3) = false := by rw [hm]; rfl
    have d4 : (a % 7 == 4) = false := by rw [hm]; rfl
    have d6 : (a % 7 == 6) = false := by rw [hm]; rfl
    clear hm
    go_enter Try.func21, Try.ntmps21
    go_upto_region 1 with (first | ((with_reducible refine gate_dst (N := 2) rfl ?_); refine box_event ?hg (N := 2) ?hd (cs := #[.int .u8 a, .string (str n1), .string (str n2), .slice Ab b.length cb, .slice Ak ks.length ck]) (t := 32) ?hr ?_; (case hd => rfl); (case hg => rfl); (case hr => first | (go_simp; done) | (go_simp; rfl)); intro g2 hg w3 hbox hb; have GE_g2 : Aside0 (w.heap.size ≤ g2) := ⟨by rw [hg]; exact below_size HB.out⟩; have n_HB := Aside0.mk (below_step HB.out hb); clear HB; have HB := n_HB; clear n_HB; have B2 := Aside0.mk hbox; clear hg hbox hb) | ((with_reducible refine gate_dst (N := 3) rfl ?_); refine box_event ?hg (N := 3) ?hd (cs := #[.int .i64 S.room, .slice Af S.fails.length cf, .slice Ap S.parts.length cp, .slice A S.files.length c, .int .i64 S.calls]) (t := 49) ?hr ?_; (case hd => rfl); (case hg => rfl); (case hr => first | (go_simp; done) | (go_simp; rfl)); intro g3 hg w3 hbox hb; have NE_g2_g3 : Aside0 (g2 ≠ g3) := ⟨by rw [hg]; exact Nat.ne_of_lt (blk_lt B2.out)⟩; have GE_g3 : Aside0 (w.heap.size ≤ g3) := ⟨by rw [hg]; exact below_size HB.out⟩; have n_B2 := Aside0.mk (blk_below B2.out hb); have n_HB := Aside0.mk (below_step HB.out hb); clear B2 HB; have B2 := n_B2; have HB := n_HB; clear n_B2 n_HB; have B3 := Aside0.mk hbox; clear hg hbox hb) | ((with_reducible refine gate_dst (N := 4) rfl ?_); refine box_event ?hg (N := 4) ?hd (cs := #[.int .i64 0, .slice none 0 0, .slice none 0 0, .slice none 0 0, .int .i64 0]) (t := 49) ?hr ?_; (case hd => rfl); (case hg => rfl); (case hr => first | (go_simp; done) | (go_simp; rfl)); intro g4 hg w3 hbox hb; have NE_g2_g4 : Aside0 (g2 ≠ g4) := ⟨by rw [hg]; exact Nat.ne_of_lt (blk_lt B2.out)⟩; have NE_g3_g4 : Aside0 (g3 ≠ g4) := ⟨by rw [hg]; exact Nat.ne_of_lt (blk_lt B3.out)⟩; have GE_g4 : Aside0 (w.heap.size ≤ g4) := ⟨by rw [hg]; exact below_size HB.out⟩; have n_B2 := Aside0.mk (blk_below B2.out hb); have n_B3 := Aside0.mk (blk_below B3.out hb); have n_HB := Aside0.mk (below_step HB.out hb); clear B2 B3 HB; have B2 := n_B2; have B3 := n_B3; have HB := n_HB; clear n_B2 n_B3 n_HB; have B4 := Aside0.mk hbox; clear hg hbox hb))
    have bB2_0 := (blk_cell B2.out 0).trans (show _ = some (.int .u8 a) from rfl)
    have bB2_1 := (blk_cell B2.out 1).trans (show _ = some (.string (str n1)) from rfl)
    have bB2_2 := (blk_cell B2.out 2).trans (show _ = some (.string (str n2)) from rfl)
    have bB2_3 := (blk_cell B2.out 3).trans (show _ = some (.slice Ab b.length cb) from rfl)
    have bB2_4 := (blk_cell B2.out 4).trans (show _ = some (.slice Ak ks.length ck) from rfl)
    have bB2_f := fun j => blk_frozen B2.out j
    have bB3_0 := (blk_cell B3.out 0).trans (show _ = some (.int .i64 S.room) from rfl)
    have bB3_1 := (blk_cell B3.out 1).trans (show _ = some (.slice Af S.fails.length cf) from rfl)
    have bB3_2 := (blk_cell B3.out 2).trans (show _ = some (.slice Ap S.parts.length cp) from rfl)
    have bB3_3 := (blk_cell B3.out 3).trans (show _ = some (.slice A S.files.length c) from rfl)
    have bB3_4 := (blk_cell B3.out 4).trans (show _ = some (.int .i64 S.calls) from rfl)
    have bB3_f := fun j => blk_frozen B3.out j
    have bB4_0 := (blk_cell B4.out 0).trans (show _ = some (.int .i64 0) from rfl)
    have bB4_1 := (blk_cell B4.out 1).trans (show _ = some (.slice none 0 0) from rfl)
    have bB4_2 := (blk_cell B4.out 2).trans (show _ = some (.slice none 0 0) from rfl)
    have bB4_3 := (blk_cell B4.out 3).trans (show _ = some (.slice none 0 0) from rfl)
    have bB4_4 := (blk_cell B4.out 4).trans (show _ = some (.int .i64 0) from rfl)
    have bB4_f := fun j => blk_frozen B4.out j
    go_wp2
    clear bB2_0 bB2_1 bB2_2 bB2_3 bB2_4 bB2_f
    clear bB3_0 bB3_1 bB3_2 bB3_3 bB3_4 bB3_f
    clear bB4_0 bB4_1 bB4_2 bB4_3 bB4_4 bB4_f
    rename World => wy
    have s0 := blk_put (cs' := #[.int .i64 S.room, .slice none 0 0, .slice none 0 0, .slice none 0 0, .int .i64 0]) B4.out 0 (.int .i64 S.room) rfl
    have h0 := below_set (j := 0) (v := .int .i64 S.room) HB.out GE_g4.out
    have s1 := blk_put (cs' := #[.int .i64 S.room, .slice Af S.fails.length cf, .slice none 0 0, .slice none 0 0, .int .i64 0]) s0 1 (.slice Af S.fails.length cf) rfl
    have h1 := below_set (j := 1) (v := .slice Af S.fails.length cf) h0 GE_g4.out
    have s2 := blk_put (cs' := #[.int .i64 S.room, .slice Af S.fails.length cf, .slice Ap S.parts.length cp, .slice none 0 0, .int .i64 0]) s1 2 (.slice Ap S.parts.length cp) rfl
    have h2 := below_set (j := 2) (v := .slice Ap S.parts.length cp) h1 GE_g4.out
    have s3 := blk_put (cs' := #[.int .i64 S.room, .slice Af S.fails.length cf, .slice Ap S.parts.length cp, .slice A S.files.length c, .int .i64 0]) s2 3 (.slice A S.files.length c) rfl
    have h3 := below_set (j := 3) (v := .slice A S.files.length c) h2 GE_g4.out
    have s4 := blk_put (cs' := #[.int .i64 S.room, .slice Af S.fails.length cf, .slice Ap S.parts.length cp, .slice A S.files.length c, .int .i64 S.calls]) s3 4 (.int .i64 S.calls) rfl
    have h4 := below_set (j := 4) (v := .int .i64 S.calls) h3 GE_g4.out
    have hs : ∀ k, k ≠ g4 → (World.setCell (World.setCell (World.setCell (World.setCell (World.setCell wy ⟨g4, 0, none⟩ (.int .i64 S.room)) ⟨g4, 1, none⟩ (.slice Af S.fails.length cf)) ⟨g4, 2, none⟩ (.slice Ap S.parts.length cp)) ⟨g4, 3, none⟩ (.slice A S.files.length c)) ⟨g4, 4, none⟩ (.int .i64 S.calls)).heap[k]? = wy.heap[k]? := fun k hk => ((Below.heap_setCell (World.setCell (World.setCell (World.setCell (World.setCell wy ⟨g4, 0, none⟩ (.int .i64 S.room)) ⟨g4, 1, none⟩ (.slice Af S.fails.length cf)) ⟨g4, 2, none⟩ (.slice Ap S.parts.length cp)) ⟨g4, 3, none⟩ (.slice A S.files.length c)) ⟨g4, 4, none⟩ (.int .i64 S.calls) k hk).trans ((Below.heap_setCell (World.setCell (World.setCell (World.setCell wy ⟨g4, 0, none⟩ (.int .i64 S.room)) ⟨g4, 1, none⟩ (.slice Af S.fails.length cf)) ⟨g4, 2, none⟩ (.slice Ap S.parts.length cp)) ⟨g4, 3, none⟩ (.slice A S.files.length c) k hk).trans ((Below.heap_setCell (World.setCell (World.setCell wy ⟨g4, 0, none⟩ (.int .i64 S.room)) ⟨g4, 1, none⟩ (.slice Af S.fails.length cf)) ⟨g4, 2, none⟩ (.slice Ap S.parts.length cp) k hk).trans ((Below.heap_setCell (World.setCell wy ⟨g4, 0, none⟩ (.int .i64 S.room)) ⟨g4, 1, none⟩ (.slice Af S.fails.length cf) k hk).trans (Below.heap_setCell wy ⟨g4, 0, none⟩ (.int .i64 S.room) k hk)))))
    generalize (World.setCell (World.setCell (World.setCell (World.setCell (World.setCell wy ⟨g4, 0, none⟩ (.int .i64 S.room)) ⟨g4, 1, none⟩ (.slice Af S.fails.length cf)) ⟨g4, 2, none⟩ (.slice Ap S.parts.length cp)) ⟨g4, 3, none⟩ (.slice A S.files.length c)) ⟨g4, 4, none⟩ (.int .i64 S.calls)) = w9 at s4 h4 hs ⊢
    have n_B2 := Aside0.mk ((hs g2 NE_g2_g4.out).trans B2.out); have n_B3 := Aside0.mk ((hs g3 NE_g3_g4.out).trans B3.out); have n_HB := Aside0.mk (h4); clear B2 B3 HB; have B2 := n_B2; have B3 := n_B3; have HB := n_HB; clear n_B2 n_B3 n_HB
    clear B4
    have B4 := Aside0.mk s4
    clear hs s0 s1 s2 s3 s4 h0 h1 h2 h3 h4
    refine bodyPost_ret (results_ct rfl _ _ g4 49 #[.int .i64 S.room, .slice Af S.fails.length cf, .slice Ap S.parts.length cp, .slice A S.files.length c, .int .i64 S.calls] (0, 0) _ rfl B4.out Try.underlying49 rfl (by kernel_rfl)) rfl ?_
    exact ⟨A, c, rfl, (HI.out.below HB.out).mono (fun k hk => .inl hk.1), HB.out⟩
  · have hP : doesP S a n1 n2 b ks = (crashP S ks, 0) := by unfold doesP; rw [hm]; rfl
    rw [hP]
    clear hP
    have d0 : (a % 7 == 0) = false := by rw [hm]; rfl
    have d1 : (a % 7 == 1) = false := by rw [hm]; rfl
    have d2 : (a % 7 == 2) = false := by rw [hm]; rfl
    have d3 : (a % 7 == 3) = false := by rw [hm]; rfl
    have d4 : (a % 7 == 4) = false := by rw [hm]; rfl
    have d6 : (a % 7 == 6) = true := by rw [hm]; rfl
    clear hm
    go_enter Try.func21, Try.ntmps21
    go_upto_region 1 with (first | ((with_reducible refine gate_dst (N := 2) rfl ?_); refine box_event ?hg (N := 2) ?hd (cs := #[.int .u8 a, .string (str n1), .string (str n2), .slice Ab b.length cb, .slice Ak ks.length ck]) (t := 32) ?hr ?_; (case hd => rfl); (case hg => rfl); (case hr => first | (go_simp; done) | (go_simp; rfl)); intro g2 hg w3 hbox hb; have GE_g2 : Aside0 (w.heap.size ≤ g2) := ⟨by rw [hg]; exact below_size HB.out⟩; have n_HB := Aside0.mk (below_step HB.out hb); clear HB; have HB := n_HB; clear n_HB; have B2 := Aside0.mk hbox; clear hg hbox hb) | ((with_reducible refine gate_dst (N := 3) rfl ?_); refine box_event ?hg (N := 3) ?hd (cs := #[.int .i64 S.room, .slice Af S.fails.length cf, .slice Ap S.parts.length cp, .slice A S.files.length c, .int .i64 S.calls]) (t := 49) ?hr ?_; (case hd => rfl); (case hg => rfl); (case hr => first | (go_simp; done) | (go_simp; rfl)); intro g3 hg w3 hbox hb; have NE_g2_g3 : Aside0 (g2 ≠ g3) := ⟨by rw [hg]; exact Nat.ne_of_lt (blk_lt B2.out)⟩; have GE_g3 : Aside0 (w.heap.size ≤ g3) := ⟨by rw [hg]; exact below_size HB.out⟩; have n_B2 := Aside0.mk (blk_below B2.out hb); have n_HB := Aside0.mk (below_step HB.out hb); clear B2 HB; have B2 := n_B2; have HB := n_HB; clear n_B2 n_HB; have B3 := Aside0.mk hbox; clear hg hbox hb) | ((with_reducible refine gate_dst (N := 4) rfl ?_); refine box_event ?hg (N := 4) ?hd (cs := #[.int .i64 0, .slice none 0 0, .slice none 0 0, .slice none 0 0, .int .i64 0]) (t := 49) ?hr ?_; (case hd => rfl); (case hg => rfl); (case hr => first | (go_simp; done) | (go_simp; rfl)); intro g4 hg w3 hbox hb; have NE_g2_g4 : Aside0 (g2 ≠ g4) := ⟨by rw [hg]; exact Nat.ne_of_lt (blk_lt B2.out)⟩; have NE_g3_g4 : Aside0 (g3 ≠ g4) := ⟨by rw [hg]; exact Nat.ne_of_lt (blk_lt B3.out)⟩; have GE_g4 : Aside0 (w.heap.size ≤ g4) := ⟨by rw [hg]; exact below_size HB.out⟩; have n_B2 := Aside0.mk (blk_below B2.out hb); have n_B3 := Aside0.mk (blk_below B3.out hb); have n_HB := Aside0.mk (below_step HB.out hb); clear B2 B3 HB; have B2 := n_B2; have B3 := n_B3; have HB := n_HB; clear n_B2 n_B3 n_HB; have B4 := Aside0.mk hbox; clear hg hbox hb))
    have bB2_0 := (blk_cell B2.out 0).trans (show _ = some (.int .u8 a) from rfl)
    have bB2_1 := (blk_cell B2.out 1).trans (show _ = some (.string (str n1)) from rfl)
    have bB2_2 := (blk_cell B2.out 2).trans (show _ = some (.string (str n2)) from rfl)
    have bB2_3 := (blk_cell B2.out 3).trans (show _ = some (.slice Ab b.length cb) from rfl)
    have bB2_4 := (blk_cell B2.out 4).trans (show _ = some (.slice Ak ks.length ck) from rfl)
    have bB2_f := fun j => blk_frozen B2.out j
    have bB3_0 := (blk_cell B3.out 0).trans (show _ = some (.int .i64 S.room) from rfl)
    have bB3_1 := (blk_cell B3.out 1).trans (show _ = some (.slice Af S.fails.length cf) from rfl)
    have bB3_2 := (blk_cell B3.out 2).trans (show _ = some (.slice Ap S.parts.length cp) from rfl)
    have bB3_3 := (blk_cell B3.out 3).trans (show _ = some (.slice A S.files.length c) from rfl)
    have bB3_4 := (blk_cell B3.out 4).trans (show _ = some (.int .i64 S.calls) from rfl)
    have bB3_f := fun j => blk_frozen B3.out j
    have bB4_0 := (blk_cell B4.out 0).trans (show _ = some (.int .i64 0) from rfl)
    have bB4_1 := (blk_cell B4.out 1).trans (show _ = some (.slice none 0 0) from rfl)
    have bB4_2 := (blk_cell B4.out 2).trans (show _ = some (.slice none 0 0) from rfl)
    have bB4_3 := (blk_cell B4.out 3).trans (show _ = some (.slice none 0 0) from rfl)
    have bB4_4 := (blk_cell B4.out 4).trans (show _ = some (.int .i64 0) from rfl)
    have bB4_f := fun j => blk_frozen B4.out j
    obtain ⟨S9, hr⟩ : ∃ q, crashP S ks = q := ⟨_, rfl⟩
    have HR9 := Aside0.mk hr
    clear hr
    go_wp2_with (first | (go_at_call 42; refine (crash_doc _ Af cf Ap cp A c S ks Ak ck _ (HI.out.below HB.out) HLN.out HSN.out (Kd.C_below HKC.out HB.out) HKB.out).mono ?_; rw [HR9.out]; rintro e w5 ⟨A9, c9, rfl, hd, hb⟩; replace hd := hd.mono (P' := fun k => (P k ∨ w.heap.size ≤ k) ∧ k ≠ g2 ∧ k ≠ g3 ∧ k ≠ g4) (fun k hk => ⟨hk.imp And.left (Nat.le_trans (below_size HB.out)), (fun e => by subst e; have q1 := GE_g2.out; have q2 := blk_lt B2.out; rcases hk with hk | hk <;> omega), (fun e => by subst e; have q1 := GE_g3.out; have q2 := blk_lt B3.out; rcases hk with hk | hk <;> omega), (fun e => by subst e; have q1 := GE_g4.out; have q2 := blk_lt B4.out; rcases hk with hk | hk <;> omega)⟩); have n_B2 := Aside0.mk (blk_below B2.out hb); have n_B3 := Aside0.mk (blk_below B3.out hb); have n_B4 := Aside0.mk (blk_below B4.out hb); have n_HB := Aside0.mk (below_step HB.out hb); clear B2 B3 B4 HB; have B2 := n_B2; have B3 := n_B3; have B4 := n_B4; have HB := n_HB; clear n_B2 n_B3 n_B4 n_HB; clear hb; clear bB2_0 bB2_1 bB2_2 bB2_3 bB2_4 bB2_f; have bB2_0 := (blk_cell B2.out 0).trans (show _ = some (.int .u8 a) from rfl); have bB2_1 := (blk_cell B2.out 1).trans (show _ = some (.string (str n1)) from rfl); have bB2_2 := (blk_cell B2.out 2).trans (show _ = some (.string (str n2)) from rfl); have bB2_3 := (blk_cell B2.out 3).trans (show _ = some (.slice Ab b.length cb) from rfl); have bB2_4 := (blk_cell B2.out 4).trans (show _ = some (.slice Ak ks.length ck) from rfl); have bB2_f := fun j => blk_frozen B2.out j; clear bB3_0 bB3_1 bB3_2 bB3_3 bB3_4 bB3_f; have bB3_0 := (blk_cell B3.out 0).trans (show _ = some (.int .i64 S.room) from rfl); have bB3_1 := (blk_cell B3.out 1).trans (show _ = some (.slice Af S.fails.length cf) from rfl); have bB3_2 := (blk_cell B3.out 2).trans (show _ = some (.slice Ap S.parts.length cp) from rfl); have bB3_3 := (blk_cell B3.out 3).trans (show _ = some (.slice A S.files.length c) from rfl); have bB3_4 := (blk_cell B3.out 4).trans (show _ = some (.int .i64 S.calls) from rfl); have bB3_f := fun j => blk_frozen B3.out j; clear bB4_0 bB4_1 bB4_2 bB4_3 bB4_4 bB4_f; have bB4_0 := (blk_cell B4.out 0).trans (show _ = some (.int .i64 0) from rfl); have bB4_1 := (blk_cell B4.out 1).trans (show _ = some (.slice none 0 0) from rfl); have bB4_2 := (blk_cell B4.out 2).trans (show _ = some (.slice none 0 0) from rfl); have bB4_3 := (blk_cell B4.out 3).trans (show _ = some (.slice none 0 0) from rfl); have bB4_4 := (blk_cell B4.out 4).trans (show _ = some (.int .i64 0) from rfl); have bB4_f := fun j => blk_frozen B4.out j; have HD := Aside0.mk hd; clear hd))
    clear bB2_0 bB2_1 bB2_2 bB2_3 bB2_4 bB2_f
    clear bB3_0 bB3_1 bB3_2 bB3_3 bB3_4 bB3_f
    clear bB4_0 bB4_1 bB4_2 bB4_3 bB4_4 bB4_f
    rename World => wy
    have s0 := blk_put (cs' := #[.int .i64 S9.room, .slice none 0 0, .slice none 0 0, .slice none 0 0, .int .i64 0]) B4.out 0 (.int .i64 S9.room) rfl
    have h0 := below_set (j := 0) (v := .int .i64 S9.room) HB.out GE_g4.out
    have s1 := blk_put (cs' := #[.int .i64 S9.room, .slice Af S9.fails.length cf, .slice none 0 0, .slice none 0 0, .int .i64 0]) s0 1 (.slice Af S9.fails.length cf) rfl
    have h1 := below_set (j := 1) (v := .slice Af S9.fails.length cf) h0 GE_g4.out
    have s2 := blk_put (cs' := #[.int .i64 S9.room, .slice Af S9.fails.length cf, .slice Ap S9.parts.length cp, .slice none 0 0, .int .i64 0]) s1 2 (.slice Ap S9.parts.length cp) rfl
    have h2 := below_set (j := 2) (v := .slice Ap S9.parts.length cp) h1 GE_g4.out
    have s3 := blk_put (cs' := #[.int .i64 S9.room, .slice Af S9.fails.length cf, .slice Ap S9.parts.length cp, .slice A9 S9.files.length c9, .int .i64 0]) s2 3 (.slice A9 S9.files.length c9) rfl
    have h3 := below_set (j := 3) (v := .slice A9 S9.files.length c9) h2 GE_g4.out
    have s4 := blk_put (cs' := #[.int .i64 S9.room, .slice Af S9.fails.length cf, .slice Ap S9.parts.length cp, .slice A9 S9.files.length c9, .int .i64 S9.calls]) s3 4 (.int .i64 S9.calls) rfl
    have h4 := below_set (j := 4) (v := .int .i64 S9.calls) h3 GE_g4.out
    have hs : ∀ k, k ≠ g4 → (World.setCell (World.setCell (World.setCell (World.setCell (World.setCell wy ⟨g4, 0, none⟩ (.int .i64 S9.room)) ⟨g4, 1, none⟩ (.slice Af S9.fails.length cf)) ⟨g4, 2, none⟩ (.slice Ap S9.parts.length cp)) ⟨g4, 3, none⟩ (.slice A9 S9.files.length c9)) ⟨g4, 4, none⟩ (.int .i64 S9.calls)).heap[k]? = wy.heap[k]? := fun k hk => ((Below.heap_setCell (World.setCell (World.setCell (World.setCell (World.setCell wy ⟨g4, 0, none⟩ (.int .i64 S9.room)) ⟨g4, 1, none⟩ (.slice Af S9.fails.length cf)) ⟨g4, 2, none⟩ (.slice Ap S9.parts.length cp)) ⟨g4, 3, none⟩ (.slice A9 S9.files.length c9)) ⟨g4, 4, none⟩ (.int .i64 S9.calls) k hk).trans ((Below.heap_setCell (World.setCell (World.setCell (World.setCell wy ⟨g4, 0, none⟩ (.int .i64 S9.room)) ⟨g4, 1, none⟩ (.slice Af S9.fails.length cf)) ⟨g4, 2, none⟩ (.slice Ap S9.parts.length cp)) ⟨g4, 3, none⟩ (.slice A9 S9.files.length c9) k hk).trans ((Below.heap_setCell (World.setCell (World.setCell wy ⟨g4, 0, none⟩ (.int .i64 S9.room)) ⟨g4, 1, none⟩ (.slice Af S9.fails.length cf)) ⟨g4, 2, none⟩ (.slice Ap S9.parts.length cp) k hk).trans ((Below.heap_setCell (World.setCell wy ⟨g4, 0, none⟩ (.int .i64 S9.room)) ⟨g4, 1, none⟩ (.slice Af S9.fails.length cf) k hk).trans (Below.heap_setCell wy ⟨g4, 0, none⟩ (.int .i64 S9.room) k hk)))))
    generalize (World.setCell (World.setCell (World.setCell (World.setCell (World.setCell wy ⟨g4, 0, none⟩ (.int .i64 S9.room)) ⟨g4, 1, none⟩ (.slice Af S9.fails.length cf)) ⟨g4, 2, none⟩ (.slice Ap S9.parts.length cp)) ⟨g4, 3, none⟩ (.slice A9 S9.files.length c9)) ⟨g4, 4, none⟩ (.int .i64 S9.calls)) = w9 at s4 h4 hs ⊢
    have n_B2 := Aside0.mk ((hs g2 NE_g2_g4.out).trans B2.out); have n_B3 := Aside0.mk ((hs g3 NE_g3_g4.out).trans B3.out); have n_HD := Aside0.mk (HD.out.step (fun k hk _ => hs k hk.2.2.2)); have n_HB := Aside0.mk (h4); clear B2 B3 HD HB; have B2 := n_B2; have B3 := n_B3; have HD := n_HD; have HB := n_HB; clear n_B2 n_B3 n_HD n_HB
    clear B4
    have B4 := Aside0.mk s4
    clear hs s0 s1 s2 s3 s4 h0 h1 h2 h3 h4
    refine bodyPost_ret (results_ct rfl _ _ g4 49 #[.int .i64 S9.room, .slice Af S9.fails.length cf, .slice Ap S9.parts.length cp, .slice A9 S9.files.length c9, .int .i64 S9.calls] (0, 0) _ rfl B4.out Try.underlying49 rfl (by kernel_rfl)) rfl ?_
    rw [HR9.out]
    exact ⟨A9, c9, rfl, HD.out.mono (fun k hk => hk.1), HB.out⟩

end Go.Proofs.Yteibdmpjlpcgbaa.XDisk
