/- The document's disk: Crash. -/
import Derived.Test.YteibdmpjlpcgbaaTHDoc5
namespace Go.Proofs.Yteibdmpjlpcgbaa.XDisk
open Go Go.RowKit Go.Proofs.YteibdmpjlpcgbaaW.PrintWords Go.Proofs.YteibdmpjlpcgbaaW.PrintLast Go.Proofs.YteibdmpjlpcgbaaW.PrintMore
open Go.Proofs.Yteibdmpjlpcgbaa
set_option linter.unusedVariables false
set_option linter.unusedSimpArgs false
theorem crashN_len : ∀ (m : Nat) (ks : List Int) (l : List (Nm × FA)), (crashN ks m l).length = l.length
  | 0, _, _ => rfl
  | _ + 1, _, [] => rfl
  | m + 1, ks, p :: l => by simp [crashN, crashN_len m]
theorem crashN_snoc : ∀ (m : Nat) (ks : List Int) (l : List (Nm × FA)) (p : Nm × FA), l[m]? = some p → (crashN ks (m + 1) l).take (m + 1) = (crashN ks m l).take m ++ [(p.1, crashF (ks.getD m 0) p.2)]
  | 0, ks, [], p, h => by simp at h
  | 0, ks, q :: l, p, h => by
    obtain rfl : q = p := by simpa using h
    have e : ks.getD 0 0 = ks.headD 0 := by cases ks <;> rfl
    rw [e]
    rfl
  | m + 1, ks, [], p, h => by simp at h
  | m + 1, ks, q :: l, p, h => by
    have e : ks.getD (m + 1) 0 = ks.tail.getD m 0 := by cases ks <;> simp
    rw [e]
    show (q.1, crashF (ks.headD 0) q.2) :: (crashN ks.tail (m + 1) l).take (m + 1) = (q.1, crashF (ks.headD 0) q.2) :: ((crashN ks.tail m l).take m ++ _)
    rw [crashN_snoc m ks.tail l p (by simpa using h)]
def CrashRel (w : World) (P : Nat → Prop) (Af : Option Addr) (cf : Nat) (Ap : Option Addr) (cp : Nat) (A : Option Addr) (c : Nat) (S : DA) (ks : List Int) (g2 g4 : Nat) (v5 v6 : Value) (wr : World) : Prop :=
  ∃ (i : Nat) (rows : List (List Value)) (Ao : Option Addr) (nn co : Nat), i ≤ S.files.length ∧ v5 = .slice Ao nn co ∧ v6 = .int .i64 i ∧ Aside0 (RowsOf w P rows ((crashN ks i S.files).take i)) ∧ Aside0 (Kd.R (Kd.raw 3) 57 wr w.heap.size (fun k => k ≠ g2 ∧ k ≠ g4) (.slice Ao nn co) rows) ∧ Aside0 (wr.heap[g2]? = some (.cells #[.int .i64 S.room, .slice Af S.fails.length cf, .slice Ap S.parts.length cp, .slice A S.files.length c, .int .i64 S.calls] 49 (0, 0))) ∧ Aside0 (wr.heap[g4]? = some (.cells #[.int .i64 0, .slice none 0 0, .slice none 0 0, .slice none 0 0, .int .i64 0] 49 (0, 0))) ∧ Aside0 (Below w.heap.size w wr)
theorem crash_cells {w : World} {P : Nat → Prop} {n : Nm} {f : FA} {A : Option Addr} {c kk : Nat} {q ki : Int} (hq : keepN ki f = q) (hk : f.safe + q = (kk : Int)) (hl : kk ≤ f.b.length) (hc : f.b.length ≤ c) (hF : Kd.F (Kd.int .u8) w P A f.b.length f.b) : Kd.FK k57 w P (toS (n, crashF ki f)) [.string (str n), .slice A kk c, .int .i64 (kk : Int)] := by
  rw [← hk]
  have e : crashF ki f = ⟨f.b.take kk, f.safe + q⟩ := by
    unfold crashF
    rw [hq]
    have h1 : (f.safe + q).toNat = kk := by omega
    rw [h1]
  have hl2 : (f.b.take kk).length = kk := by rw [List.length_take]; omega
  have h := k57_mkF w P (toS (n, (⟨f.b.take kk, f.safe + q⟩ : FA))) (A1 := A) (c1 := c) (by show (f.b.take kk).length ≤ c; omega) (Kd.F_take hF hl)
  rw [e]
  have h2 : Kd.FK k57 w P (toS (n, (⟨f.b.take kk, f.safe + q⟩ : FA))) [.string (str n), .slice A (f.b.take kk).length c, .int .i64 (f.safe + q)] := h
  rw [hl2] at h2
  exact h2
set_option maxHeartbeats 16000000 in
set_option maxRecDepth 100000 in
theorem crash_doc (P : Nat → Prop) (Af : Option Addr) (cf : Nat) (Ap : Option Addr) (cp : Nat) (A : Option Addr) (c : Nat) (S : DA) (ks : List Int) (Ak : Option Addr) (ck : Nat) (w : World) (h : DocIn w P Af cf Ap cp A c S) (hln : S.files.length ≤ 10000) (hsane : Sane S.files) (hk : Kd.C (Kd.int .i64) w Ak ks.length ks) (hkc : ks.length ≤ ck) :
    Calls Try.prog 42 #[docV Af cf Ap cp A c S, .slice Ak ks.length ck] w fun e w' => ∃ A' c', e = .returned (docV Af cf Ap cp A' c' (crashP S ks)) ∧ DocIn w' (fun k => P k ∨ w.heap.size ≤ k) Af cf Ap cp A' c' (crashP S ks) ∧ Below w.heap.size w w' := by
  have HI := Aside0.mk h.bound
  have HB := Aside0.mk (Below.refl w.heap.size w)
  have HLN := Aside0.mk hln
  have HSN := Aside0.mk hsane
  have HKC := Aside0.mk hk
  have HKL := Aside0.mk hkc
  have hkl : ks.length ≤ 9223372036854775807 := hk.2.1
  clear h hln hsane hk hkc
  go_enter Try.func42, Try.ntmps42
  go_upto_region 3 with (first | ((with_reducible refine gate_dst (N := 2) rfl ?_); refine box_event ?hg (N := 2) ?hd (cs := #[.int .i64 S.room, .slice Af S.fails.length cf, .slice Ap S.parts.length cp, .slice A S.files.length c, .int .i64 S.calls]) (t := 49) ?hr ?_; (case hd => rfl); (case hg => rfl); (case hr => first | (go_simp; done) | (go_simp; rfl)); intro g2 hg w3 hbox hb; have GE_g2 : Aside0 (w.heap.size ≤ g2) := ⟨by rw [hg]; exact below_size HB.out⟩; have n_HB := Aside0.mk (below_step HB.out hb); clear HB; have HB := n_HB; clear n_HB; have B2 := Aside0.mk hbox; clear hg hbox hb) | ((with_reducible refine gate_dst (N := 4) rfl ?_); refine box_event ?hg (N := 4) ?hd (cs := #[.int .i64 0, .slice none 0 0, .slice none 0 0, .slice none 0 0, .int .i64 0]) (t := 49) ?hr ?_; (case hd => rfl); (case hg => rfl); (case hr => first | (go_simp; done) | (go_simp; rfl)); intro g4 hg w3 hbox hb; have NE_g2_g4 : Aside0 (g2 ≠ g4) := ⟨by rw [hg]; exact Nat.ne_of_lt (blk_lt B2.out)⟩; have GE_g4 : Aside0 (w.heap.size ≤ g4) := ⟨by rw [hg]; exact below_size HB.out⟩; have n_B2 := Aside0.mk (blk_below B2.out hb); have n_HB := Aside0.mk (below_step HB.out hb); clear B2 HB; have B2 := n_B2; have HB := n_HB; clear n_B2 n_HB; have B4 := Aside0.mk hbox; clear hg hbox hb))
  rename World => w5
  go_loopw [5, 6] (fun v5 v6 wr => CrashRel w (fun k => P k ∧ k < w.heap.size) Af cf Ap cp A c S ks g2 g4 v5 v6 wr) (fun v5 v6 _ => S.files.length - (intOf v6).toNat)
  case atStart => exact ⟨0, [], none, 0, 0, Nat.zero_le _, rfl, rfl, ⟨RowsOf.nil w _⟩, ⟨Kd.R_nil _ _ _ _ _⟩, B2, B4, HB⟩
  case round =>
    clear B2 B4 HB
    obtain ⟨i, rows, Ao, nn, co, hi, rfl, rfl, HRO, HR, B2, B4, HB⟩ := hrel
    rename World => wr
    have hbn : S.files.length ≤ 10000 := HLN.out
    by_cases hlt : i < S.files.length
    · have bB2_0 := (blk_cell B2.out 0).trans (show _ = some (.int .i64 S.room) from rfl)
      have bB2_1 := (blk_cell B2.out 1).trans (show _ = some (.slice Af S.fails.length cf) from rfl)
      have bB2_2 := (blk_cell B2.out 2).trans (show _ = some (.slice Ap S.parts.length cp) from rfl)
      have bB2_3 := (blk_cell B2.out 3).trans (show _ = some (.slice A S.files.length c) from rfl)
      have bB2_4 := (blk_cell B2.out 4).trans (show _ = some (.int .i64 S.calls) from rfl)
      have bB2_f := fun j => blk_frozen B2.out j
      clear bB2_f
      obtain ⟨pf, hp⟩ : ∃ p, S.files[i]? = some p := ⟨_, List.getElem?_eq_getElem hlt⟩
      have HP := Aside0.mk hp
      obtain ⟨n, f⟩ := pf
      obtain ⟨hs0, hs1⟩ := HSN.out _ (List.mem_of_getElem? hp)
      simp only at hs0 hs1
      obtain ⟨ad, A1, c1, e0, x0, x1, x2, l1, q1⟩ := at_F57 HI.out.fs (i : Int) (by omega) (by omega)
      subst e0
      rw [docF_get hp] at x0 x1 x2 l1 q1
      simp only [toS, Int.toNat_natCast] at x0 x1 x2 l1 q1
      replace x0 := (HB.out.cell (World.block_lt_of_cell? w _ x0)).trans x0
      replace x1 := (HB.out.cell (World.block_lt_of_cell? w _ x1)).trans x1
      replace x2 := (HB.out.cell (World.block_lt_of_cell? w _ x2)).trans x2
      have HLF := Aside0.mk l1
      have HQF := Aside0.mk q1
      have hbl : f.b.length ≤ 9223372036854775807 := Kd.F_max q1
      clear l1 q1 hp
      go_upto_region 6 with (first | ((with_reducible refine gate_dst (N := 7) rfl ?_); refine box_event ?hg (N := 7) ?hd (cs := #[.string ByteArray.empty, .slice none 0 0, .int .i64 0]) (t := 57) ?hr ?_; (case hd => rfl); (case hg => rfl); (case hr => first | (go_simp; done) | (go_simp; rfl)); intro g7 hg w3 hbox hb; have NE_g2_g7 : Aside0 (g2 ≠ g7) := ⟨by rw [hg]; exact Nat.ne_of_lt (blk_lt B2.out)⟩; have NE_g4_g7 : Aside0 (g4 ≠ g7) := ⟨by rw [hg]; exact Nat.ne_of_lt (blk_lt B4.out)⟩; have GE_g7 : Aside0 (w.heap.size ≤ g7) := ⟨by rw [hg]; exact below_size HB.out⟩; have n_HR := Aside0.mk (Kd.R_mono (ok' := fun k => k ≠ g2 ∧ k ≠ g4 ∧ k ≠ g7) (Kd.R_bound HR.out) (fun k hk => ⟨hk.1.1, hk.1.2, by rw [hg]; exact Nat.ne_of_lt hk.2.2.1⟩)); clear HR; have HR := n_HR; clear n_HR; have n_B2 := Aside0.mk (blk_below B2.out hb); have n_B4 := Aside0.mk (blk_below B4.out hb); have n_HR := Aside0.mk (Kd.R_mono (Kd.R_move (Kd.R_bound HR.out) (fun k hk => hb.block k hk.2.2.1)) (fun k hk => hk.1)); have n_HB := Aside0.mk (below_step HB.out hb); clear B2 B4 HR HB; have B2 := n_B2; have B4 := n_B4; have HR := n_HR; have HB := n_HB; clear n_B2 n_B4 n_HR n_HB; have B7 := Aside0.mk hbox; clear hg hbox hb; have bB7_0 := (blk_cell B7.out 0).trans (show _ = some (.string ByteArray.empty) from rfl); have bB7_1 := (blk_cell B7.out 1).trans (show _ = some (.slice none 0 0) from rfl); have bB7_2 := (blk_cell B7.out 2).trans (show _ = some (.int .i64 0) from rfl); have bB7_f := fun j => blk_frozen B7.out j))
      clear x0 x1 x2 bB2_0 bB2_1 bB2_2 bB2_3 bB2_4
      clear bB7_0 bB7_1 bB7_2 bB7_f
      rename World => wz
      have s0 := blk_put (cs' := #[.string (str n), .slice none 0 0, .int .i64 0]) B7.out 0 (.string (str n)) rfl
      have h0 := below_set (j := 0) (v := .string (str n)) HB.out GE_g7.out
      have s1 := blk_put (cs' := #[.string (str n), .slice A1 f.b.length c1, .int .i64 0]) s0 1 (.slice A1 f.b.length c1) rfl
      have h1 := below_set (j := 1) (v := .slice A1 f.b.length c1) h0 GE_g7.out
      have s2 := blk_put (cs' := #[.string (str n), .slice A1 f.b.length c1, .int .i64 f.safe]) s1 2 (.int .i64 f.safe) rfl
      have h2 := below_set (j := 2) (v := .int .i64 f.safe) h1 GE_g7.out
      have hs : ∀ k, k ≠ g7 → (World.setCell (World.setCell (World.setCell wz ⟨g7, 0, none⟩ (.string (str n))) ⟨g7, 1, none⟩ (.slice A1 f.b.length c1)) ⟨g7, 2, none⟩ (.int .i64 f.safe)).heap[k]? = wz.heap[k]? := fun k hk => ((Below.heap_setCell (World.setCell (World.setCell wz ⟨g7, 0, none⟩ (.string (str n))) ⟨g7, 1, none⟩ (.slice A1 f.b.length c1)) ⟨g7, 2, none⟩ (.int .i64 f.safe) k hk).trans ((Below.heap_setCell (World.setCell wz ⟨g7, 0, none⟩ (.string (str n))) ⟨g7, 1, none⟩ (.slice A1 f.b.length c1) k hk).trans (Below.heap_setCell wz ⟨g7, 0, none⟩ (.string (str n)) k hk)))
      generalize (World.setCell (World.setCell (World.setCell wz ⟨g7, 0, none⟩ (.string (str n))) ⟨g7, 1, none⟩ (.slice A1 f.b.length c1)) ⟨g7, 2, none⟩ (.int .i64 f.safe)) = wa at s2 h2 hs ⊢
      have n_B2 := Aside0.mk ((hs g2 NE_g2_g7.out).trans B2.out); have n_B4 := Aside0.mk ((hs g4 NE_g4_g7.out).trans B4.out); have n_HR := Aside0.mk (Kd.R_move HR.out (fun k hk => hs k hk.2.2)); have n_HB := Aside0.mk (h2); clear B2 B4 HR HB; have B2 := n_B2; have B4 := n_B4; have HR := n_HR; have HB := n_HB; clear n_B2 n_B4 n_HR n_HB
      clear B7
      have B7 := Aside0.mk s2
      clear hs s0 s1 s2 h0 h1 h2
      have bB7_0 := (blk_cell B7.out 0).trans (show _ = some (.string (str n)) from rfl)
      have bB7_1 := (blk_cell B7.out 1).trans (show _ = some (.slice A1 f.b.length c1) from rfl)
      have bB7_2 := (blk_cell B7.out 2).trans (show _ = some (.int .i64 f.safe) from rfl)
      have bB7_f := fun j => blk_frozen B7.out j
      by_cases hik : i < ks.length
      · obtain ⟨ak, cs, hak, _, hKv, hcell⟩ := Kd.C_get HKC.out 0 (i : Int) (by omega) (by omega)
        rw [Int.toNat_natCast] at hKv hcell
        obtain rfl := hKv
        have y0 := (HB.out.cell (World.block_lt_of_cell? w _ (hcell 0 _ rfl))).trans (hcell 0 _ rfl)
        have hys : (Kd.int IntKind.i64).sz = 1 := rfl
        rw [hys, Nat.mul_one, Nat.add_zero] at y0
        clear hcell hys
        subst hak
        obtain ⟨q, hq⟩ : ∃ q, ks.getD i 0 = q := ⟨_, rfl⟩
        have HQ := Aside0.mk hq
        rw [hq] at y0
        clear hq
        by_cases hpos : q > 0
        · by_cases hmo : q > (f.b.length : Int) - f.safe
          · have hkeep : keepN (ks.getD i 0) f = (f.b.length : Int) - f.safe := by rw [HQ.out]; unfold keepN; omega
            obtain ⟨kk, hkk⟩ : ∃ kk : Nat, f.safe + ((f.b.length : Int) - f.safe) = (kk : Int) := ⟨(f.safe + ((f.b.length : Int) - f.safe)).toNat, by omega⟩
            have HKK := Aside0.mk hkk
            have hkl2 : kk ≤ f.b.length := by omega
            have HKP : Aside0 (Kd.FK k57 w (fun k => P k ∧ k < w.heap.size) (toS (n, crashF (ks.getD i 0) f)) [.string (str n), .slice A1 kk c1, .int .i64 (kk : Int)]) := ⟨crash_cells hkeep hkk hkl2 HLF.out HQF.out⟩
            clear hkeep
            go_upto_region 13 with (fail)
            clear bB7_0 bB7_1 bB7_2 bB7_f
            rename World => wz
            have s0 := blk_put (cs' := #[.string (str n), .slice A1 f.b.length c1, .int .i64 (kk : Int)]) B7.out 2 (.int .i64 (kk : Int)) rfl
            have h0 := below_set (j := 2) (v := .int .i64 (kk : Int)) HB.out GE_g7.out
            have hs : ∀ k, k ≠ g7 → (World.setCell wz ⟨g7, 2, none⟩ (.int .i64 (kk : Int))).heap[k]? = wz.heap[k]? := fun k hk => (Below.heap_setCell wz ⟨g7, 2, none⟩ (.int .i64 (kk : Int)) k hk)
            generalize (World.setCell wz ⟨g7, 2, none⟩ (.int .i64 (kk : Int))) = wb at s0 h0 hs ⊢
            have n_B2 := Aside0.mk ((hs g2 NE_g2_g7.out).trans B2.out); have n_B4 := Aside0.mk ((hs g4 NE_g4_g7.out).trans B4.out); have n_HR := Aside0.mk (Kd.R_move HR.out (fun k hk => hs k hk.2.2)); have n_HB := Aside0.mk (h0); clear B2 B4 HR HB; have B2 := n_B2; have B4 := n_B4; have HR := n_HR; have HB := n_HB; clear n_B2 n_B4 n_HR n_HB
            clear B7
            have B7 := Aside0.mk s0
            clear hs s0 h0
            have bB7_0 := (blk_cell B7.out 0).trans (show _ = some (.string (str n)) from rfl)
            have bB7_1 := (blk_cell B7.out 1).trans (show _ = some (.slice A1 f.b.length c1) from rfl)
            have bB7_2 := (blk_cell B7.out 2).trans (show _ = some (.int .i64 (kk : Int)) from rfl)
            have bB7_f := fun j => blk_frozen B7.out j
            have hcut : ∀ W : World, (Instr.slice 30 (.slice A1 f.b.length c1) none (some (.int .i64 (kk : Int))) none).run Try.prog W = .ok (.slice A1 kk c1) W := fun W => cut_h W A1 f.b.length c1 kk (Nat.le_trans hkl2 HLF.out)
            go_upto_region 14 with (fail)
            clear hcut
            clear bB7_0 bB7_1 bB7_2 bB7_f
            rename World => wz
            have s0 := blk_put (cs' := #[.string (str n), .slice A1 kk c1, .int .i64 (kk : Int)]) B7.out 1 (.slice A1 kk c1) rfl
            have h0 := below_set (j := 1) (v := .slice A1 kk c1) HB.out GE_g7.out
            have hs : ∀ k, k ≠ g7 → (World.setCell wz ⟨g7, 1, none⟩ (.slice A1 kk c1)).heap[k]? = wz.heap[k]? := fun k hk => (Below.heap_setCell wz ⟨g7, 1, none⟩ (.slice A1 kk c1) k hk)
            generalize (World.setCell wz ⟨g7, 1, none⟩ (.slice A1 kk c1)) = wd at s0 h0 hs ⊢
            have n_B2 := Aside0.mk ((hs g2 NE_g2_g7.out).trans B2.out); have n_B4 := Aside0.mk ((hs g4 NE_g4_g7.out).trans B4.out); have n_HR := Aside0.mk (Kd.R_move HR.out (fun k hk => hs k hk.2.2)); have n_HB := Aside0.mk (h0); clear B2 B4 HR HB; have B2 := n_B2; have B4 := n_B4; have HR := n_HR; have HB := n_HB; clear n_B2 n_B4 n_HR n_HB
            clear B7
            have B7 := Aside0.mk s0
            clear hs s0 h0
            have bB7_0 := (blk_cell B7.out 0).trans (show _ = some (.string (str n)) from rfl)
            have bB7_1 := (blk_cell B7.out 1).trans (show _ = some (.slice A1 kk c1) from rfl)
            have bB7_2 := (blk_cell B7.out 2).trans (show _ = some (.int .i64 (kk : Int)) from rfl)
            have bB7_f := fun j => blk_frozen B7.out j
            go_wp2_with (first | ((with_reducible refine gate_builtin (b := .append) (xs := #[.tmp 58, .tmp 60]) rfl ?_); at_builtin; (refine Kd.R_append (Kd.raw 3) (w0 := w) w.heap.size rfl (.tmp 58) (.tmp 60) 47 57 (.agg #[(.string ⟨#[]⟩), (.slice none 0 0), (.int .i64 0)]) 48 rfl Try.underlying47 info57 rfl (by decide) (by omega) _ _ [.string (str n), .slice A1 kk c1, .int .i64 (kk : Int)] [.string (str n), .slice A1 kk c1, .int .i64 (kk : Int)] (fun k => k ≠ g2 ∧ k ≠ g4 ∧ k ≠ g7) (fun _ => False) rfl rfl (raw_M (Kd.FK_now HKP.out)) (fun _ hk => hk.elim) (fun k hk => ⟨by have := blk_lt B2.out; omega, by have := blk_lt B4.out; omega, by have := blk_lt B7.out; omega⟩) HR.out HB.out (below_size HB.out) (by have h1 := HRO.out.len; have h2 := List.length_take_le i (crashN ks i S.files); have h3 := HLN.out; omega) ?_); intro v1 w1 ho hb hg hat; have n_B2 := Aside0.mk ((hg.block g2 (blk_lt B2.out) (fun e => (HR.out.1 g2 e.symm).1 rfl)).trans B2.out); have n_B4 := Aside0.mk ((hg.block g4 (blk_lt B4.out) (fun e => (HR.out.1 g4 e.symm).2.1 rfl)).trans B4.out); have n_HRO := Aside0.mk (HRO.out.snoc HKP.out); obtain ⟨A9, n9, c9, hv9⟩ := R_form3 ho; subst hv9; have n_HR := Aside0.mk (Kd.R_mono ho (ok' := fun k => k ≠ g2 ∧ k ≠ g4) (fun k hk => ⟨hk.1, hk.2.1⟩)); have n_HB := Aside0.mk hb; clear HR HB B2 B4 B7 HRO ho hb hg hat; have HR := n_HR; have HB := n_HB; have B2 := n_B2; have B4 := n_B4; have HRO := n_HRO; clear n_HR n_HB n_B2 n_B4 n_HRO))
            go_roundw
            case rel => (first | refine ⟨_, _, ?_, rfl, rfl⟩ | skip); exact ⟨i + 1, _, _, _, _, by omega, rfl, by go_num, ⟨by rw [crashN_snoc i ks S.files (n, f) HP.out]; exact HRO.out⟩, HR, B2, B4, HB⟩
            case measure => simp [intOf]; omega
          · have hkeep : keepN (ks.getD i 0) f = q := by rw [HQ.out]; unfold keepN; omega
            obtain ⟨kk, hkk⟩ : ∃ kk : Nat, f.safe + q = (kk : Int) := ⟨(f.safe + q).toNat, by omega⟩
            have HKK := Aside0.mk hkk
            have hkl2 : kk ≤ f.b.length := by omega
            have HKP : Aside0 (Kd.FK k57 w (fun k => P k ∧ k < w.heap.size) (toS (n, crashF (ks.getD i 0) f)) [.string (str n), .slice A1 kk c1, .int .i64 (kk : Int)]) := ⟨crash_cells hkeep hkk hkl2 HLF.out HQF.out⟩
            clear hkeep
            go_upto_region 13 with (fail)
            clear bB7_0 bB7_1 bB7_2 bB7_f
            rename World => wz
            have s0 := blk_put (cs' := #[.string (str n), .slice A1 f.b.length c1, .int .i64 (kk : Int)]) B7.out 2 (.int .i64 (kk : Int)) rfl
            have h0 := below_set (j := 2) (v := .int .i64 (kk : Int)) HB.out GE_g7.out
            have hs : ∀ k, k ≠ g7 → (World.setCell wz ⟨g7, 2, none⟩ (.int .i64 (kk : Int))).heap[k]? = wz.heap[k]? := fun k hk => (Below.heap_setCell wz ⟨g7, 2, none⟩ (.int .i64 (kk : Int)) k hk)
            generalize (World.setCell wz ⟨g7, 2, none⟩ (.int .i64 (kk : Int))) = wb at s0 h0 hs ⊢
            have n_B2 := Aside0.mk ((hs g2 NE_g2_g7.out).trans B2.out); have n_B4 := Aside0.mk ((hs g4 NE_g4_g7.out).trans B4.out); have n_HR := Aside0.mk (Kd.R_move HR.out (fun k hk => hs k hk.2.2)); have n_HB := Aside0.mk (h0); clear B2 B4 HR HB; have B2 := n_B2; have B4 := n_B4; have HR := n_HR; have HB := n_HB; clear n_B2 n_B4 n_HR n_HB
            clear B7
            have B7 := Aside0.mk s0
            clear hs s0 h0
            have bB7_0 := (blk_cell B7.out 0).trans (show _ = some (.string (str n)) from rfl)
            have bB7_1 := (blk_cell B7.out 1).trans (show _ = some (.slice A1 f.b.length c1) from rfl)
            have bB7_2 := (blk_cell B7.out 2).trans (show _ = some (.int .i64 (kk : Int)) from rfl)
            have bB7_f := fun j => blk_frozen B7.out j
            have hcut : ∀ W : World, (Instr.slice 30 (.slice A1 f.b.length c1) none (some (.int .i64 (kk : Int))) none).run Try.prog W = .ok (.slice A1 kk c1) W := fun W => cut_h W A1 f.b.length c1 kk (Nat.le_trans hkl2 HLF.out)
            go_upto_region 14 with (fail)
            clear hcut
            clear bB7_0 bB7_1 bB7_2 bB7_f
            rename World => wz
            have s0 := blk_put (cs' := #[.string (str n), .slice A1 kk c1, .int .i64 (kk : Int)]) B7.out 1 (.slice A1 kk c1) rfl
            have h0 := below_set (j := 1) (v := .slice A1 kk c1) HB.out GE_g7.out
            have hs : ∀ k, k ≠ g7 → (World.setCell wz ⟨g7, 1, none⟩ (.slice A1 kk c1)).heap[k]? = wz.heap[k]? := fun k hk => (Below.heap_setCell wz ⟨g7, 1, none⟩ (.slice A1 kk c1) k hk)
            generalize (World.setCell wz ⟨g7, 1, none⟩ (.slice A1 kk c1)) = wd at s0 h0 hs ⊢
            have n_B2 := Aside0.mk ((hs g2 NE_g2_g7.out).trans B2.out); have n_B4 := Aside0.mk ((hs g4 NE_g4_g7.out).trans B4.out); have n_HR := Aside0.mk (Kd.R_move HR.out (fun k hk => hs k hk.2.2)); have n_HB := Aside0.mk (h0); clear B2 B4 HR HB; have B2 := n_B2; have B4 := n_B4; have HR := n_HR; have HB := n_HB; clear n_B2 n_B4 n_HR n_HB
            clear B7
            have B7 := Aside0.mk s0
            clear hs s0 h0
            have bB7_0 := (blk_cell B7.out 0).trans (show _ = some (.string (str n)) from rfl)
            have bB7_1 := (blk_cell B7.out 1).trans (show _ = some (.slice A1 kk c1) from rfl)
            have bB7_2 := (blk_cell B7.out 2).trans (show _ = some (.int .i64 (kk : Int)) from rfl)
            have bB7_f := fun j => blk_frozen B7.out j
            go_wp2_with (first | ((with_reducible refine gate_builtin (b := .append) (xs := #[.tmp 58, .tmp 60]) rfl ?_); at_builtin; (refine Kd.R_append (Kd.raw 3) (w0 := w) w.heap.size rfl (.tmp 58) (.tmp 60) 47 57 (.agg #[(.string ⟨#[]⟩), (.slice none 0 0), (.int .i64 0)]) 48 rfl Try.underlying47 info57 rfl (by decide) (by omega) _ _ [.string (str n), .slice A1 kk c1, .int .i64 (kk : Int)] [.string (str n), .slice A1 kk c1, .int .i64 (kk : Int)] (fun k => k ≠ g2 ∧ k ≠ g4 ∧ k ≠ g7) (fun _ => False) rfl rfl (raw_M (Kd.FK_now HKP.out)) (fun _ hk => hk.elim) (fun k hk => ⟨by have := blk_lt B2.out; omega, by have := blk_lt B4.out; omega, by have := blk_lt B7.out; omega⟩) HR.out HB.out (below_size HB.out) (by have h1 := HRO.out.len; have h2 := List.length_take_le i (crashN ks i S.files); have h3 := HLN.out; omega) ?_); intro v1 w1 ho hb hg hat; have n_B2 := Aside0.mk ((hg.block g2 (blk_lt B2.out) (fun e => (HR.out.1 g2 e.symm).1 rfl)).trans B2.out); have n_B4 := Aside0.mk ((hg.block g4 (blk_lt B4.out) (fun e => (HR.out.1 g4 e.symm).2.1 rfl)).trans B4.out); have n_HRO := Aside0.mk (HRO.out.snoc HKP.out); obtain ⟨A9, n9, c9, hv9⟩ := R_form3 ho; subst hv9; have n_HR := Aside0.mk (Kd.R_mono ho (ok' := fun k => k ≠ g2 ∧ k ≠ g4) (fun k hk => ⟨hk.1, hk.2.1⟩)); have n_HB := Aside0.mk hb; clear HR HB B2 B4 B7 HRO ho hb hg hat; have HR := n_HR; have HB := n_HB; have B2 := n_B2; have B4 := n_B4; have HRO := n_HRO; clear n_HR n_HB n_B2 n_B4 n_HRO))
            go_roundw
            case rel => (first | refine ⟨_, _, ?_, rfl, rfl⟩ | skip); exact ⟨i + 1, _, _, _, _, by omega, rfl, by go_num, ⟨by rw [crashN_snoc i ks S.files (n, f) HP.out]; exact HRO.out⟩, HR, B2, B4, HB⟩
            case measure => simp [intOf]; omega
        · have hkeep : keepN (ks.getD i 0) f = 0 := by rw [HQ.out]; unfold keepN; omega
          obtain ⟨kk, hkk⟩ : ∃ kk : Nat, f.safe + 0 = (kk : Int) := ⟨(f.safe + 0).toNat, by omega⟩
          have HKK := Aside0.mk hkk
          have hkl2 : kk ≤ f.b.length := by omega
          have HKP : Aside0 (Kd.FK k57 w (fun k => P k ∧ k < w.heap.size) (toS (n, crashF (ks.getD i 0) f)) [.string (str n), .slice A1 kk c1, .int .i64 (kk : Int)]) := ⟨crash_cells hkeep hkk hkl2 HLF.out HQF.out⟩
          clear hkeep
          go_upto_region 13 with (fail)
          clear bB7_0 bB7_1 bB7_2 bB7_f
          rename World => wz
          have s0 := blk_put (cs' := #[.string (str n), .slice A1 f.b.length c1, .int .i64 (kk : Int)]) B7.out 2 (.int .i64 (kk : Int)) rfl
          have h0 := below_set (j := 2) (v := .int .i64 (kk : Int)) HB.out GE_g7.out
          have hs : ∀ k, k ≠ g7 → (World.setCell wz ⟨g7, 2, none⟩ (.int .i64 (kk : Int))).heap[k]? = wz.heap[k]? := fun k hk => (Below.heap_setCell wz ⟨g7, 2, none⟩ (.int .i64 (kk : Int)) k hk)
          generalize (World.setCell wz ⟨g7, 2, none⟩ (.int .i64 (kk : Int))) = wb at s0 h0 hs ⊢
          have n_B2 := Aside0.mk ((hs g2 NE_g2_g7.out).trans B2.out); have n_B4 := Aside0.mk ((hs g4 NE_g4_g7.out).trans B4.out); have n_HR := Aside0.mk (Kd.R_move HR.out (fun k hk => hs k hk.2.2)); have n_HB := Aside0.mk (h0); clear B2 B4 HR HB; have B2 := n_B2; have B4 := n_B4; have HR := n_HR; have HB := n_HB; clear n_B2 n_B4 n_HR n_HB
          clear B7
          have B7 := Aside0.mk s0
          clear hs s0 h0
          have bB7_0 := (blk_cell B7.out 0).trans (show _ = some (.string (str n)) from rfl)
          have bB7_1 := (blk_cell B7.out 1).trans (show _ = some (.slice A1 f.b.length c1) from rfl)
          have bB7_2 := (blk_cell B7.out 2).trans (show _ = some (.int .i64 (kk : Int)) from rfl)
          have bB7_f := fun j => blk_frozen B7.out j
          have hcut : ∀ W : World, (Instr.slice 30 (.slice A1 f.b.length c1) none (some (.int .i64 (kk : Int))) none).run Try.prog W = .ok (.slice A1 kk c1) W := fun W => cut_h W A1 f.b.length c1 kk (Nat.le_trans hkl2 HLF.out)
          go_upto_region 14 with (fail)
          clear hcut
          clear bB7_0 bB7_1 bB7_2 bB7_f
          rename World => wz
          have s0 := blk_put (cs' := #[.string (str n), .slice A1 kk c1, .int .i64 (kk : Int)]) B7.out 1 (.slice A1 kk c1) rfl
          have h0 := below_set (j := 1) (v := .slice A1 kk c1) HB.out GE_g7.out
          have hs : ∀ k, k ≠ g7 → (World.setCell wz ⟨g7, 1, none⟩ (.slice A1 kk c1)).heap[k]? = wz.heap[k]? := fun k hk => (Below.heap_setCell wz ⟨g7, 1, none⟩ (.slice A1 kk c1) k hk)
          generalize (World.setCell wz ⟨g7, 1, none⟩ (.slice A1 kk c1)) = wd at s0 h0 hs ⊢
          have n_B2 := Aside0.mk ((hs g2 NE_g2_g7.out).trans B2.out); have n_B4 := Aside0.mk ((hs g4 NE_g4_g7.out).trans B4.out); have n_HR := Aside0.mk (Kd.R_move HR.out (fun k hk => hs k hk.2.2)); have n_HB := Aside0.mk (h0); clear B2 B4 HR HB; have B2 := n_B2; have B4 := n_B4; have HR := n_HR; have HB := n_HB; clear n_B2 n_B4 n_HR n_HB
          clear B7
          have B7 := Aside0.mk s0
          clear hs s0 h0
          have bB7_0 := (blk_cell B7.out 0).trans (show _ = some (.string (str n)) from rfl)
          have bB7_1 := (blk_cell B7.out 1).trans (show _ = some (.slice A1 kk c1) from rfl)
          have bB7_2 := (blk_cell B7.out 2).trans (show _ = some (.int .i64 (kk : Int)) from rfl)
          have bB7_f := fun j => blk_frozen B7.out j
          go_wp2_with (first | ((with_reducible refine gate_builtin (b := .append) (xs := #[.tmp 58, .tmp 60]) rfl ?_); at_builtin; (refine Kd.R_append (Kd.raw 3) (w0 := w) w.heap.size rfl (.tmp 58) (.tmp 60) 47 57 (.agg #[(.string ⟨#[]⟩), (.slice none 0 0), (.int .i64 0)]) 48 rfl Try.underlying47 info57 rfl (by decide) (by omega) _ _ [.string (str n), .slice A1 kk c1, .int .i64 (kk : Int)] [.string (str n), .slice A1 kk c1, .int .i64 (kk : Int)] (fun k => k ≠ g2 ∧ k ≠ g4 ∧ k ≠ g7) (fun _ => False) rfl rfl (raw_M (Kd.FK_now HKP.out)) (fun _ hk => hk.elim) (fun k hk => ⟨by have := blk_lt B2.out; omega, by have := blk_lt B4.out; omega, by have := blk_lt B7.out; omega⟩) HR.out HB.out (below_size HB.out) (by have h1 := HRO.out.len; have h2 := List.length_take_le i (crashN ks i S.files); have h3 := HLN.out; omega) ?_); intro v1 w1 ho hb hg hat; have n_B2 := Aside0.mk ((hg.block g2 (blk_lt B2.out) (fun e => (HR.out.1 g2 e.symm).1 rfl)).trans B2.out); have n_B4 := Aside0.mk ((hg.block g4 (blk_lt B4.out) (fun e => (HR.out.1 g4 e.symm).2.1 rfl)).trans B4.out); have n_HRO := Aside0.mk (HRO.out.snoc HKP.out); obtain ⟨A9, n9, c9, hv9⟩ := R_form3 ho; subst hv9; have n_HR := Aside0.mk (Kd.R_mono ho (ok' := fun k => k ≠ g2 ∧ k ≠ g4) (fun k hk => ⟨hk.1, hk.2.1⟩)); have n_HB := Aside0.mk hb; clear HR HB B2 B4 B7 HRO ho hb hg hat; have HR := n_HR; have HB := n_HB; have B2 := n_B2; have B4 := n_B4; have HRO := n_HRO; clear n_HR n_HB n_B2 n_B4 n_HRO))
          go_roundw
          case rel => (first | refine ⟨_, _, ?_, rfl, rfl⟩ | skip); exact ⟨i + 1, _, _, _, _, by omega, rfl, by go_num, ⟨by rw [crashN_snoc i ks S.files (n, f) HP.out]; exact HRO.out⟩, HR, B2, B4, HB⟩
          case measure => simp [intOf]; omega
      · have hkeep : keepN (ks.getD i 0) f = 0 := by rw [List.getD_eq_getElem?_getD, List.getElem?_eq_none (by omega), Option.getD_none]; unfold keepN; omega
        obtain ⟨kk, hkk⟩ : ∃ kk : Nat, f.safe + 0 = (kk : Int) := ⟨(f.safe + 0).toNat, by omega⟩
        have HKK := Aside0.mk hkk
        have hkl2 : kk ≤ f.b.length := by omega
        have HKP : Aside0 (Kd.FK k57 w (fun k => P k ∧ k < w.heap.size) (toS (n, crashF (ks.getD i 0) f)) [.string (str n), .slice A1 kk c1, .int .i64 (kk : Int)]) := ⟨crash_cells hkeep hkk hkl2 HLF.out HQF.out⟩
        clear hkeep
        go_upto_region 13 with (fail)
        clear bB7_0 bB7_1 bB7_2 bB7_f
        rename World => wz
        have s0 := blk_put (cs' := #[.string (str n), .slice A1 f.b.length c1, .int .i64 (kk : Int)]) B7.out 2 (.int .i64 (kk : Int)) rfl
        have h0 := below_set (j := 2) (v := .int .i64 (kk : Int)) HB.out GE_g7.out
        have hs : ∀ k, k ≠ g7 → (World.setCell wz ⟨g7, 2, none⟩ (.int .i64 (kk : Int))).heap[k]? = wz.heap[k]? := fun k hk => (Below.heap_setCell wz ⟨g7, 2, none⟩ (.int .i64 (kk : Int)) k hk)
        generalize (World.setCell wz ⟨g7, 2, none⟩ (.int .i64 (kk : Int))) = wb at s0 h0 hs ⊢
        have n_B2 := Aside0.mk ((hs g2 NE_g2_g7.out).trans B2.out); have n_B4 := Aside0.mk ((hs g4 NE_g4_g7.out).trans B4.out); have n_HR := Aside0.mk (Kd.R_move HR.out (fun k hk => hs k hk.2.2)); have n_HB := Aside0.mk (h0); clear B2 B4 HR HB; have B2 := n_B2; have B4 := n_B4; have HR := n_HR; have HB := n_HB; clear n_B2 n_B4 n_HR n_HB
        clear B7
        have B7 := Aside0.mk s0
        clear hs s0 h0
        have bB7_0 := (blk_cell B7.out 0).trans (show _ = some (.string (str n)) from rfl)
        have bB7_1 := (blk_cell B7.out 1).trans (show _ = some (.slice A1 f.b.length c1) from rfl)
        have bB7_2 := (blk_cell B7.out 2).trans (show _ = some (.int .i64 (kk : Int)) from rfl)
        have bB7_f := fun j => blk_frozen B7.out j
        have hcut : ∀ W : World, (Instr.slice 30 (.slice A1 f.b.length c1) none (some (.int .i64 (kk : Int))) none).run Try.prog W = .ok (.slice A1 kk c1) W := fun W => cut_h W A1 f.b.length c1 kk (Nat.le_trans hkl2 HLF.out)
        go_upto_region 14 with (fail)
        clear hcut
        clear bB7_0 bB7_1 bB7_2 bB7_f
        rename World => wz
        have s0 := blk_put (cs' := #[.string (str n), .slice A1 kk c1, .int .i64 (kk : Int)]) B7.out 1 (.slice A1 kk c1) rfl
        have h0 := below_set (j := 1) (v := .slice A1 kk c1) HB.out GE_g7.out
        have hs : ∀ k, k ≠ g7 → (World.setCell wz ⟨g7, 1, none⟩ (.slice A1 kk c1)).heap[k]? = wz.heap[k]? := fun k hk => (Below.heap_setCell wz ⟨g7, 1, none⟩ (.slice A1 kk c1) k hk)
        generalize (World.setCell wz ⟨g7, 1, none⟩ (.slice A1 kk c1)) = wd at s0 h0 hs ⊢
        have n_B2 := Aside0.mk ((hs g2 NE_g2_g7.out).trans B2.out); have n_B4 := Aside0.mk ((hs g4 NE_g4_g7.out).trans B4.out); have n_HR := Aside0.mk (Kd.R_move HR.out (fun k hk => hs k hk.2.2)); have n_HB := Aside0.mk (h0); clear B2 B4 HR HB; have B2 := n_B2; have B4 := n_B4; have HR := n_HR; have HB := n_HB; clear n_B2 n_B4 n_HR n_HB
        clear B7
        have B7 := Aside0.mk s0
        clear hs s0 h0
        have bB7_0 := (blk_cell B7.out 0).trans (show _ = some (.string (str n)) from rfl)
        have bB7_1 := (blk_cell B7.out 1).trans (show _ = some (.slice A1 kk c1) from rfl)
        have bB7_2 := (blk_cell B7.out 2).trans (show _ = some (.int .i64 (kk : Int)) from rfl)
        have bB7_f := fun j => blk_frozen B7.out j
        go_wp2_with (first | ((with_reducible refine gate_builtin (b := .append) (xs := #[.tmp 58, .tmp 60]) rfl ?_); at_builtin; (refine Kd.R_append (Kd.raw 3) (w0 := w) w.heap.size rfl (.tmp 58) (.tmp 60) 47 57 (.agg #[(.string ⟨#[]⟩), (.slice none 0 0), (.int .i64 0)]) 48 rfl Try.underlying47 info57 rfl (by decide) (by omega) _ _ [.string (str n), .slice A1 kk c1, .int .i64 (kk : Int)] [.string (str n), .slice A1 kk c1, .int .i64 (kk : Int)] (fun k => k ≠ g2 ∧ k ≠ g4 ∧ k ≠ g7) (fun _ => False) rfl rfl (raw_M (Kd.FK_now HKP.out)) (fun _ hk => hk.elim) (fun k hk => ⟨by have := blk_lt B2.out; omega, by have := blk_lt B4.out; omega, by have := blk_lt B7.out; omega⟩) HR.out HB.out (below_size HB.out) (by have h1 := HRO.out.len; have h2 := List.length_take_le i (crashN ks i S.files); have h3 := HLN.out; omega) ?_); intro v1 w1 ho hb hg hat; have n_B2 := Aside0.mk ((hg.block g2 (blk_lt B2.out) (fun e => (HR.out.1 g2 e.symm).1 rfl)).trans B2.out); have n_B4 := Aside0.mk ((hg.block g4 (blk_lt B4.out) (fun e => (HR.out.1 g4 e.symm).2.1 rfl)).trans B4.out); have n_HRO := Aside0.mk (HRO.out.snoc HKP.out); obtain ⟨A9, n9, c9, hv9⟩ := R_form3 ho; subst hv9; have n_HR := Aside0.mk (Kd.R_mono ho (ok' := fun k => k ≠ g2 ∧ k ≠ g4) (fun k hk => ⟨hk.1, hk.2.1⟩)); have n_HB := Aside0.mk hb; clear HR HB B2 B4 B7 HRO ho hb hg hat; have HR := n_HR; have HB := n_HB; have B2 := n_B2; have B4 := n_B4; have HRO := n_HRO; clear n_HR n_HB n_B2 n_B4 n_HRO))
        go_roundw
        case rel => (first | refine ⟨_, _, ?_, rfl, rfl⟩ | skip); exact ⟨i + 1, _, _, _, _, by omega, rfl, by go_num, ⟨by rw [crashN_snoc i ks S.files (n, f) HP.out]; exact HRO.out⟩, HR, B2, B4, HB⟩
        case measure => simp [intOf]; omega
    · obtain rfl : i = S.files.length := by omega
      clear hlt hi
      have bB2_0 := (blk_cell B2.out 0).trans (show _ = some (.int .i64 S.room) from rfl)
      have bB2_1 := (blk_cell B2.out 1).trans (show _ = some (.slice Af S.fails.length cf) from rfl)
      have bB2_2 := (blk_cell B2.out 2).trans (show _ = some (.slice Ap S.parts.length cp) from rfl)
      have bB2_3 := (blk_cell B2.out 3).trans (show _ = some (.slice A S.files.length c) from rfl)
      have bB2_4 := (blk_cell B2.out 4).trans (show _ = some (.int .i64 S.calls) from rfl)
      have bB2_f := fun j => blk_frozen B2.out j
      go_upto_region 16 with (fail)
      clear bB2_0 bB2_1 bB2_2 bB2_3 bB2_4 bB2_f
      rename World => wz
      have s0 := blk_put (cs' := #[.int .i64 S.room, .slice Af S.fails.length cf, .slice Ap S.parts.length cp, .slice Ao nn co, .int .i64 S.calls]) B2.out 3 (.slice Ao nn co) rfl
      have h0 := below_set (j := 3) (v := .slice Ao nn co) HB.out GE_g2.out
      have hs : ∀ k, k ≠ g2 → (World.setCell wz ⟨g2, 3, none⟩ (.slice Ao nn co)).heap[k]? = wz.heap[k]? := fun k hk => (Below.heap_setCell wz ⟨g2, 3, none⟩ (.slice Ao nn co) k hk)
      generalize (World.setCell wz ⟨g2, 3, none⟩ (.slice Ao nn co)) = wa at s0 h0 hs ⊢
      have n_B4 := Aside0.mk ((hs g4 (fun e => NE_g2_g4.out e.symm)).trans B4.out); have n_HR := Aside0.mk (Kd.R_move HR.out (fun k hk => hs k (fun e => by subst e; first | exact hk.1 rfl | exact hk.2 rfl))); have n_HB := Aside0.mk (h0); clear B4 HR HB; have B4 := n_B4; have HR := n_HR; have HB := n_HB; clear n_B4 n_HR n_HB
      clear B2
      have B2 := Aside0.mk s0
      clear hs s0 h0
      have bB2_0 := (blk_cell B2.out 0).trans (show _ = some (.int .i64 S.room) from rfl)
      have bB2_1 := (blk_cell B2.out 1).trans (show _ = some (.slice Af S.fails.length cf) from rfl)
      have bB2_2 := (blk_cell B2.out 2).trans (show _ = some (.slice Ap S.parts.length cp) from rfl)
      have bB2_3 := (blk_cell B2.out 3).trans (show _ = some (.slice Ao nn co) from rfl)
      have bB2_4 := (blk_cell B2.out 4).trans (show _ = some (.int .i64 S.calls) from rfl)
      have bB2_f := fun j => blk_frozen B2.out j
      have bB4_0 := (blk_cell B4.out 0).trans (show _ = some (.int .i64 0) from rfl)
      have bB4_1 := (blk_cell B4.out 1).trans (show _ = some (.slice none 0 0) from rfl)
      have bB4_2 := (blk_cell B4.out 2).trans (show _ = some (.slice none 0 0) from rfl)
      have bB4_3 := (blk_cell B4.out 3).trans (show _ = some (.slice none 0 0) from rfl)
      have bB4_4 := (blk_cell B4.out 4).trans (show _ = some (.int .i64 0) from rfl)
      have bB4_f := fun j => blk_frozen B4.out j
      go_wp2
      clear bB2_0 bB2_1 bB2_2 bB2_3 bB2_4 bB2_f
      clear bB4_0 bB4_1 bB4_2 bB4_3 bB4_4 bB4_f
      have s0 := blk_put (cs' := #[.int .i64 S.room, .slice none 0 0, .slice none 0 0, .slice none 0 0, .int .i64 0]) B4.out 0 (.int .i64 S.room) rfl
      have h0 := below_set (j := 0) (v := .int .i64 S.room) HB.out GE_g4.out
      have s1 := blk_put (cs' := #[.int .i64 S.room, .slice Af S.fails.length cf, .slice none 0 0, .slice none 0 0, .int .i64 0]) s0 1 (.slice Af S.fails.length cf) rfl
      have h1 := below_set (j := 1) (v := .slice Af S.fails.length cf) h0 GE_g4.out
      have s2 := blk_put (cs' := #[.int .i64 S.room, .slice Af S.fails.length cf, .slice Ap S.parts.length cp, .slice none 0 0, .int .i64 0]) s1 2 (.slice Ap S.parts.length cp) rfl
      have h2 := below_set (j := 2) (v := .slice Ap S.parts.length cp) h1 GE_g4.out
      have s3 := blk_put (cs' := #[.int .i64 S.room, .slice Af S.fails.length cf, .slice Ap S.parts.length cp, .slice Ao nn co, .int .i64 0]) s2 3 (.slice Ao nn co) rfl
      have h3 := below_set (j := 3) (v := .slice Ao nn co) h2 GE_g4.out
      have s4 := blk_put (cs' := #[.int .i64 S.room, .slice Af S.fails.length cf, .slice Ap S.parts.length cp, .slice Ao nn co, .int .i64 S.calls]) s3 4 (.int .i64 S.calls) rfl
      have h4 := below_set (j := 4) (v := .int .i64 S.calls) h3 GE_g4.out
      have hs : ∀ k, k ≠ g4 → (World.setCell (World.setCell (World.setCell (World.setCell (World.setCell wa ⟨g4, 0, none⟩ (.int .i64 S.room)) ⟨g4, 1, none⟩ (.slice Af S.fails.length cf)) ⟨g4, 2, none⟩ (.slice Ap S.parts.length cp)) ⟨g4, 3, none⟩ (.slice Ao nn co)) ⟨g4, 4, none⟩ (.int .i64 S.calls)).heap[k]? = wa.heap[k]? := fun k hk => ((Below.heap_setCell (World.setCell (World.setCell (World.setCell (World.setCell wa ⟨g4, 0, none⟩ (.int .i64 S.room)) ⟨g4, 1, none⟩ (.slice Af S.fails.length cf)) ⟨g4, 2, none⟩ (.slice Ap S.parts.length cp)) ⟨g4, 3, none⟩ (.slice Ao nn co)) ⟨g4, 4, none⟩ (.int .i64 S.calls) k hk).trans ((Below.heap_setCell (World.setCell (World.setCell (World.setCell wa ⟨g4, 0, none⟩ (.int .i64 S.room)) ⟨g4, 1, none⟩ (.slice Af S.fails.length cf)) ⟨g4, 2, none⟩ (.slice Ap S.parts.length cp)) ⟨g4, 3, none⟩ (.slice Ao nn co) k hk).trans ((Below.heap_setCell (World.setCell (World.setCell wa ⟨g4, 0, none⟩ (.int .i64 S.room)) ⟨g4, 1, none⟩ (.slice Af S.fails.length cf)) ⟨g4, 2, none⟩ (.slice Ap S.parts.length cp) k hk).trans ((Below.heap_setCell (World.setCell wa ⟨g4, 0, none⟩ (.int .i64 S.room)) ⟨g4, 1, none⟩ (.slice Af S.fails.length cf) k hk).trans (Below.heap_setCell wa ⟨g4, 0, none⟩ (.int .i64 S.room) k hk)))))
      generalize (World.setCell (World.setCell (World.setCell (World.setCell (World.setCell wa ⟨g4, 0, none⟩ (.int .i64 S.room)) ⟨g4, 1, none⟩ (.slice Af S.fails.length cf)) ⟨g4, 2, none⟩ (.slice Ap S.parts.length cp)) ⟨g4, 3, none⟩ (.slice Ao nn co)) ⟨g4, 4, none⟩ (.int .i64 S.calls)) = wb at s4 h4 hs ⊢
      have n_B2 := Aside0.mk ((hs g2 NE_g2_g4.out).trans B2.out); have n_HR := Aside0.mk (Kd.R_move HR.out (fun k hk => hs k (fun e => by subst e; first | exact hk.1 rfl | exact hk.2 rfl))); have n_HB := Aside0.mk (h4); clear B2 HR HB; have B2 := n_B2; have HR := n_HR; have HB := n_HB; clear n_B2 n_HR n_HB
      clear B4
      have B4 := Aside0.mk s4
      clear hs s0 s1 s2 s3 s4 h0 h1 h2 h3 h4
      refine bodyPost_ret (results_cell_row rfl _ _ g4 49 #[.int .i64 S.room, .slice Af S.fails.length cf, .slice Ap S.parts.length cp, .slice Ao nn co, .int .i64 S.calls] (0, 0) _ rfl B4.out Try.underlying49 rfl (by kernel_rfl)) rfl ?_
      have hful : (crashN ks S.files.length S.files).take S.files.length = crashN ks S.files.length S.files := List.take_of_length_le (by rw [crashN_len]; exact Nat.le_refl _)
      have hro := HRO.out
      rw [hful] at hro
      obtain ⟨hlen, hcap, hC⟩ := raw_C HR.out hro HB.out
      have hI := HI.out.below HB.out
      subst hlen
      exact ⟨Ao, co, rfl, ⟨Kd.F_mono hI.fl (fun k hk => .inl hk.1), hI.fc, Kd.F_mono hI.pt (fun k hk => .inl hk.1), hI.pc, Kd.F_mono hC (fun k hk => hk.imp And.left And.right), hcap⟩, HB.out⟩

end Go.Proofs.Yteibdmpjlpcgbaa.XDisk
