/- The document's disk (ratlineref01), read only: what it stands for; with. -/
import Derived.Test.YteibdmpjlpcgbaaTHTwo
namespace Go.Proofs.Yteibdmpjlpcgbaa.XDisk
open Go Go.RowKit Go.Proofs.YteibdmpjlpcgbaaW.PrintWords Go.Proofs.YteibdmpjlpcgbaaW.PrintLast Go.Proofs.YteibdmpjlpcgbaaW.PrintMore
open Go.Proofs.Yteibdmpjlpcgbaa
set_option linter.unusedVariables false
set_option linter.unusedSimpArgs false
def toS (p : Nm × FA) : S57 := ⟨str p.1, p.2.b, p.2.safe⟩
def docF (l : List (Nm × FA)) : List S57 := l.map toS
theorem docF_len (l : List (Nm × FA)) : (docF l).length = l.length := by simp [docF]
theorem docF_get {l : List (Nm × FA)} {i : Nat} {p : Nm × FA} (h : l[i]? = some p) : rd_T57 (docF l) (i : Int) = toS p := by
  unfold rd_T57 docF
  rw [Int.toNat_natCast, List.getD_eq_getElem?_getD, List.getElem?_map, h]
  rfl
/-- The document's disk, as a value; what is read of it. -/
abbrev docV (Af : Option Addr) (cf : Nat) (Ap : Option Addr) (cp : Nat) (A : Option Addr) (c : Nat) (S : DA) : Value := .agg #[.int .i64 S.room, .slice Af S.fails.length cf, .slice Ap S.parts.length cp, .slice A S.files.length c, .int .i64 S.calls]
structure DocIn (w : World) (P : Nat → Prop) (Af : Option Addr) (cf : Nat) (Ap : Option Addr) (cp : Nat) (A : Option Addr) (c : Nat) (S : DA) : Prop where
  fl : Kd.F (Kd.int .i64) w P Af S.fails.length S.fails
  fc : S.fails.length ≤ cf
  pt : Kd.F (Kd.int .i64) w P Ap S.parts.length S.parts
  pc : S.parts.length ≤ cp
  fs : Kd.F k57 w P A S.files.length (docF S.files)
  sc : S.files.length ≤ c
theorem DocIn.step {w w' : World} {P : Nat → Prop} {Af : Option Addr} {cf : Nat} {Ap : Option Addr} {cp : Nat} {A : Option Addr} {c : Nat} {S : DA} (h : DocIn w P Af cf Ap cp A c S) (hm : ∀ k, P k → k < w.heap.size → w'.heap[k]? = w.heap[k]?) : DocIn w' P Af cf Ap cp A c S :=
  ⟨Kd.F_step h.fl hm, h.fc, Kd.F_step h.pt hm, h.pc, Kd.F_step h.fs hm, h.sc⟩
theorem DocIn.below {w w' : World} {P : Nat → Prop} {Af : Option Addr} {cf : Nat} {Ap : Option Addr} {cp : Nat} {A : Option Addr} {c : Nat} {S : DA} (h : DocIn w P Af cf Ap cp A c S) (hb : Below w.heap.size w w') : DocIn w' P Af cf Ap cp A c S :=
  h.step (fun k _ hlt => hb.block k hlt)
theorem DocIn.mono {w : World} {P P' : Nat → Prop} {Af : Option Addr} {cf : Nat} {Ap : Option Addr} {cp : Nat} {A : Option Addr} {c : Nat} {S : DA} (h : DocIn w P Af cf Ap cp A c S) (hp : ∀ k, P k → P' k) : DocIn w P' Af cf Ap cp A c S :=
  ⟨Kd.F_mono h.fl hp, h.fc, Kd.F_mono h.pt hp, h.pc, Kd.F_mono h.fs hp, h.sc⟩
theorem DocIn.bound {w : World} {P : Nat → Prop} {Af : Option Addr} {cf : Nat} {Ap : Option Addr} {cp : Nat} {A : Option Addr} {c : Nat} {S : DA} (h : DocIn w P Af cf Ap cp A c S) : DocIn w (fun k => P k ∧ k < w.heap.size) Af cf Ap cp A c S :=
  ⟨Kd.F_bound h.fl, h.fc, Kd.F_bound h.pt, h.pc, Kd.F_bound h.fs, h.sc⟩
/-- A field that is put in, its bytes told. -/
theorem at_F57 {w : World} {P : Nat → Prop} {A : Option Addr} {n : Nat} {xs : List S57} (h : Kd.F k57 w P A n xs) (i : Int) (h0 : 0 ≤ i) (h1 : i < n) : ∃ ad A1 c1, A = some ad ∧ w.cell? (ad.add (i.toNat * 3)) = some (.string (rd_T57 xs i).f0) ∧ w.cell? ⟨(ad.add (i.toNat * 3)).block, (ad.add (i.toNat * 3)).off + 1, none⟩ = some (.slice A1 (rd_T57 xs i).f1.length c1) ∧ w.cell? ⟨(ad.add (i.toNat * 3)).block, (ad.add (i.toNat * 3)).off + 2, none⟩ = some (.int .i64 (rd_T57 xs i).f2) ∧ (rd_T57 xs i).f1.length ≤ c1 ∧ Kd.F (Kd.int .u8) w P A1 (rd_T57 xs i).f1.length (rd_T57 xs i).f1 := by
  obtain ⟨ad, c, e, _, hK, hc0, _⟩ := Kd.F_get h z57 i h0 h1
  have hc : ∀ j u, c[j]? = some u → w.cell? (ad.add (i.toNat * 3 + j)) = some u := hc0
  obtain ⟨A1, c1, rfl, l1, g1⟩ := k57_openF hK
  exact ⟨ad, A1, c1, e, hc 0 _ rfl, by rw [← add_field _ _ 1 (by omega)]; exact hc 1 _ rfl, by rw [← add_field _ _ 2 (by omega)]; exact hc 2 _ rfl, l1, g1⟩
/-- with, name by name. -/
def withR (n : Nm) (q : Nm × FA) : Bool → List (Nm × FA) → List (Nm × FA)
  | false, [] => [q]
  | true, [] => []
  | false, p :: l => if p.1 < n then p :: withR n q false l else if p.1 = n then q :: withR n q true l else q :: p :: withR n q true l
  | true, p :: l => if p.1 = n then withR n q true l else p :: withR n q true l
theorem withR_true (n : Nm) (q : Nm × FA) : ∀ l, withR n q true l = del n l
  | [] => rfl
  | p :: l => by
    have ih := withR_true n q l
    unfold withR del
    rw [List.filter_cons]
    by_cases h : p.1 = n
    · rw [if_pos h, ih]; simp [h, del]
    · rw [if_neg h, ih]; simp [h, del]
theorem withR_false (n : Nm) (f : FA) : ∀ l, Rising l → withR n (n, f) false l = put n f l
  | [], _ => rfl
  | p :: l, hr => by
    have hr' := hr
    unfold Rising at hr
    rw [List.pairwise_cons] at hr
    unfold withR
    by_cases h : p.1 < n
    · rw [if_pos h, withR_false n f l hr.2, put_cons_lt f h]
    · rw [if_neg h]
      have hgt : ∀ q ∈ l, n < q.1 := fun q hq => by
        rcases lt_tri p.1 n with h1 | h1 | h1
        · exact absurd h1 h
        · rw [← h1]; exact hr.1 q hq
        · exact List.lt_trans h1 (hr.1 q hq)
      have hdl : del n l = l := List.filter_eq_self.2 (fun q hq => by
        have h1 := hgt q hq
        have h2 : q.1 ≠ n := fun e => by rw [e] at h1; exact List.lt_irrefl _ h1
        simp [h2])
      rw [withR_true, hdl]
      by_cases he : p.1 = n
      · rw [if_pos he]
        obtain ⟨pn, pf⟩ := p
        simp only at he
        subst he
        exact (put_head hgt).symm
      · rw [if_neg he]
        have hpn : n < p.1 := by
          rcases lt_tri p.1 n with h1 | h1 | h1
          · exact absurd h1 h
          · exact absurd h1 he
          · exact h1
        have e1 : (p :: l).filter (fun q => decide (q.1 < n)) = [] := List.filter_eq_nil_iff.2 (fun q hq => by
          rcases List.mem_cons.1 hq with rfl | hq
          · simpa using h
          · simpa using lt_no (hgt q hq))
        have e2 : (p :: l).filter (fun q => decide (n < q.1)) = p :: l := List.filter_eq_self.2 (fun q hq => by
          rcases List.mem_cons.1 hq with rfl | hq
          · simpa using hpn
          · simpa using hgt q hq)
        unfold put
        rw [e1, e2]
        rfl
/-- Cells of a row, what they read as. -/
structure RowsOf (w : World) (P : Nat → Prop) (rows : List (List Value)) (out : List (Nm × FA)) : Prop where
  len : rows.length = out.length
  at_ : ∀ (j : Nat) (p : Nm × FA) (c : List Value), out[j]? = some p → rows[j]? = some c → Kd.FK k57 w P (toS p) c
theorem RowsOf.nil (w : World) (P : Nat → Prop) : RowsOf w P [] [] := ⟨rfl, fun j p c h => by simp at h⟩
theorem RowsOf.snoc {w : World} {P : Nat → Prop} {rows : List (List Value)} {out : List (Nm × FA)} (h : RowsOf w P rows out) {p : Nm × FA} {c : List Value} (hk : Kd.FK k57 w P (toS p) c) : RowsOf w P (rows ++ [c]) (out ++ [p]) := by
  refine ⟨by simp [h.len], fun j q d h1 h2 => ?_⟩
  rcases Nat.lt_or_ge j out.length with hlt | hge
  · rw [List.getElem?_append_left hlt] at h1
    rw [List.getElem?_append_left (by rw [h.len]; exact hlt)] at h2
    exact h.at_ j q d h1 h2
  · rw [List.getElem?_append_right hge] at h1
    rw [List.getElem?_append_right (by rw [h.len]; exact hge), h.len] at h2
    obtain ⟨rfl, hj⟩ : p = q ∧ j - out.length = 0 := by
      rcases hj : j - out.length with _ | k
      · rw [hj] at h1; exact ⟨by simpa using h1, rfl⟩
      · rw [hj] at h1; simp at h1
    rw [hj] at h2
    obtain rfl : c = d := by simpa using h2
    exact hk
theorem raw_C {w w' : World} {P : Nat → Prop} {ok : Nat → Prop} {A : Option Addr} {n c : Nat} {rows : List (List Value)} {out : List (Nm × FA)} (hR : Kd.R (Kd.raw 3) 57 w' w.heap.size ok (.slice A n c) rows) (h : RowsOf w P rows out) (hb : Below w.heap.size w w') : n = out.length ∧ n ≤ c ∧ Kd.F k57 w' (fun k => P k ∨ (ok k ∧ w.heap.size ≤ k)) A out.length (docF out) := by
  obtain ⟨h1, h2, _⟩ := Kd.R_reads' hR
  have hl := h.len
  refine ⟨by omega, h2, fun W' hW => ?_⟩
  have hR' : Kd.R (Kd.raw 3) 57 W' w.heap.size _ (.slice A n c) rows := Kd.R_move (Kd.R_bound hR) (fun k hk => hW k (.inr ⟨hk.1, hk.2.1⟩) hk.2.2.1)
  obtain ⟨_, _, h3⟩ := Kd.R_reads' hR'
  rw [hl] at h3
  refine ⟨docF_len out, h3.2.1, fun hp => ?_⟩
  obtain ⟨ad, e, hc⟩ := h3.2.2 hp
  refine ⟨ad, e, fun j q hj => ?_⟩
  unfold docF at hj
  rw [List.getElem?_map] at hj
  obtain ⟨p, hp2, rfl⟩ := Option.map_eq_some_iff.1 hj
  have hjl : j < rows.length := by rw [hl]; exact (List.getElem?_eq_some_iff.1 hp2).1
  obtain ⟨cs, hs, hr, hcell⟩ := hc j _ (List.getElem?_eq_getElem hjl)
  obtain ⟨rfl, _, _⟩ := hr
  exact ⟨rows[j], hs, (h.at_ j p _ hp2 (List.getElem?_eq_getElem hjl)) W' (fun k hk hlt => (hW k (.inl hk) (Nat.lt_of_lt_of_le hlt hb.size)).trans (hb.block k hlt)), hcell⟩
theorem raw_M {w W : World} {p : S57} {cs : List Value} {b : Nat} (h : k57.K w p cs) : (Kd.raw 3).M W b (fun _ => False) cs cs := ⟨rfl, k57.K_len h, k57.K_one h⟩
theorem R_form3 {e b : Nat} {W : World} {ok : Nat → Prop} {v : Value} {xs : List (List Value)} (h : Kd.R (Kd.raw 3) e W b ok v xs) : ∃ A n c, v = .slice A n c := let ⟨A, c, e⟩ := R_form h; ⟨A, _, c, e⟩
theorem ge_str {a b : Nm} : Op.bytesLess (str a).toList (str b).toList = decide (a < b) := by rw [Go.Proofs.bytesLess_eq, toList_str, toList_str]
def WithRel (w : World) (P : Nat → Prop) (Af : Option Addr) (cf : Nat) (Ap : Option Addr) (cp : Nat) (A : Option Addr) (c : Nat) (S : DA) (n n2 : Nm) (f : FA) (A2 : Option Addr) (c2 : Nat) (gone : Bool) (g4 g6 g8 : Nat) (v9 v10 v11 : Value) (wr : World) : Prop := ∃ (i : Nat) (dn : Bool) (out : List (Nm × FA)) (rows : List (List Value)) (Ao : Option Addr) (nn co : Nat), i ≤ S.files.length ∧ v9 = .slice Ao nn co ∧ v10 = .bool dn ∧ v11 = .int .i64 i ∧ Aside0 (out ++ withR n (n2, f) dn (S.files.drop i) = withR n (n2, f) gone S.files) ∧ Aside0 (dn = false → gone = false) ∧ Aside0 (out.length ≤ 2 * i) ∧ Aside0 (RowsOf w P rows out) ∧ Aside0 (Kd.R (Kd.raw 3) 57 wr w.heap.size (fun k => k ≠ g4 ∧ k ≠ g6 ∧ k ≠ g8) (.slice Ao nn co) rows) ∧ Aside0 (wr.heap[g4]? = some (.cells #[.int .i64 S.room, .slice Af S.fails.length cf, .slice Ap S.parts.length cp, .slice A S.files.length c, .int .i64 S.calls] 49 (0, 0))) ∧ Aside0 (wr.heap[g6]? = some (.cells #[.string (str n2), .slice A2 f.b.length c2, .int .i64 f.safe] 57 (0, 0))) ∧ Aside0 (wr.heap[g8]? = some (.cells #[.int .i64 0, .slice none 0 0, .slice none 0 0, .slice none 0 0, .int .i64 0] 49 (0, 0))) ∧ Aside0 (Below w.heap.size w wr)
set_option maxHeartbeats 16000000 in
set_option maxRecDepth 100000 in
theorem with_doc (P : Nat → Prop) (Af : Option Addr) (cf : Nat) (Ap : Option Addr) (cp : Nat) (A : Option Addr) (c : Nat) (S : DA) (n n2 : Nm) (f : FA) (A2 : Option Addr) (c2 : Nat) (gone : Bool) (w : World) (h : DocIn w P Af cf Ap cp A c S) (hf : Kd.F (Kd.int .u8) w P A2 f.b.length f.b) (hfc : f.b.length ≤ c2) (hln : S.files.length ≤ 10000) :
    Calls Try.prog 62 #[docV Af cf Ap cp A c S, .string (str n), .agg #[.string (str n2), .slice A2 f.b.length c2, .int .i64 f.safe], .bool gone] w fun e w' => ∃ A' c', e = .returned (docV Af cf Ap cp A' c' { S with files := withR n (n2, f) gone S.files }) ∧ DocIn w' (fun k => P k ∨ w.heap.size ≤ k) Af cf Ap cp A' c' { S with files := withR n (n2, f) gone S.files } ∧ Below w.heap.size w w' := by
  have HI := Aside0.mk h
  have HF := Aside0.mk hf
  have HFC := Aside0.mk hfc
  have HLN := Aside0.mk hln
  have HKF : Aside0 (Kd.FK k57 w P (toS (n2, f)) [.string (str n2), .slice A2 f.b.length c2, .int .i64 f.safe]) := ⟨k57_mkF w P (toS (n2, f)) hfc hf⟩
  have HB := Aside0.mk (Below.refl w.heap.size w)
  clear h hf hfc hln
  go_enter Try.func62, Try.ntmps62
  go_upto_region 4 with (first | ((with_reducible refine gate_dst (N := 4) rfl ?_); refine box_event ?hg (N := 4) ?hd (cs := #[.int .i64 S.room, .slice Af S.fails.length cf, .slice Ap S.parts.length cp, .slice A S.files.length c, .int .i64 S.calls]) (t := 49) ?hr ?_; (case hd => rfl); (case hg => rfl); (case hr => first | (go_simp; done) | (go_simp; rfl)); intro g4 hg w3 hbox hb; have GE_g4 : Aside0 (w.heap.size ≤ g4) := ⟨by rw [hg]; exact below_size HB.out⟩; have n_HB := Aside0.mk (below_step HB.out hb); clear HB; have HB := n_HB; clear n_HB; have B4 := Aside0.mk hbox; clear hg hbox hb) | ((with_reducible refine gate_dst (N := 6) rfl ?_); refine box_event ?hg (N := 6) ?hd (cs := #[.string (str n2), .slice A2 f.b.length c2, .int .i64 f.safe]) (t := 57) ?hr ?_; (case hd => rfl); (case hg => rfl); (case hr => first | (go_simp; done) | (go_simp; rfl)); intro g6 hg w3 hbox hb; have NE_g4_g6 : Aside0 (g4 ≠ g6) := ⟨by rw [hg]; exact Nat.ne_of_lt (blk_lt B4.out)⟩; have GE_g6 : Aside0 (w.heap.size ≤ g6) := ⟨by rw [hg]; exact below_size HB.out⟩; have n_B4 := Aside0.mk (blk_below B4.out hb); have n_HB := Aside0.mk (below_step HB.out hb); clear B4 HB; have B4 := n_B4; have HB := n_HB; clear n_B4 n_HB; have B6 := Aside0.mk hbox; clear hg hbox hb) | ((with_reducible refine gate_dst (N := 8) rfl ?_); refine box_event ?hg (N := 8) ?hd (cs := #[.int .i64 0, .slice none 0 0, .slice none 0 0, .slice none 0 0, .int .i64 0]) (t := 49) ?hr ?_; (case hd => rfl); (case hg => rfl); (case hr => first | (go_simp; done) | (go_simp; rfl)); intro g8 hg w3 hbox hb; have NE_g4_g8 : Aside0 (g4 ≠ g8) := ⟨by rw [hg]; exact Nat.ne_of_lt (blk_lt B4.out)⟩; have NE_g6_g8 : Aside0 (g6 ≠ g8) := ⟨by rw [hg]; exact Nat.ne_of_lt (blk_lt B6.out)⟩; have GE_g8 : Aside0 (w.heap.size ≤ g8) := ⟨by rw [hg]; exact below_size HB.out⟩; have n_B4 := Aside0.mk (blk_below B4.out hb); have n_B6 := Aside0.mk (blk_below B6.out hb); have n_HB := Aside0.mk (below_step HB.out hb); clear B4 B6 HB; have B4 := n_B4; have B6 := n_B6; have HB := n_HB; clear n_B4 n_B6 n_HB; have B8 := Aside0.mk hbox; clear hg hbox hb))
  rename World => w5
  go_loopw [9, 10, 11] (fun v9 v10 v11 wr => WithRel w P Af cf Ap cp A c S n n2 f A2 c2 gone g4 g6 g8 v9 v10 v11 wr) (fun v9 v10 v11 _ => S.files.length - (intOf v11).toNat)
  case atStart => exact ⟨0, gone, [], [], none, 0, 0, Nat.zero_le _, rfl, rfl, rfl, ⟨by rw [List.drop_zero]; rfl⟩, ⟨fun q => q⟩, ⟨Nat.zero_le _⟩, ⟨RowsOf.nil w P⟩, ⟨Kd.R_nil _ _ _ _ _⟩, B4, B6, B8, HB⟩
  case round =>
    clear B4 B6 B8 HB
    obtain ⟨i, dn, out, rows, Ao, nn, co, hi, rfl, rfl, rfl, HEQ, HDG, HOL, HRO, HR, B4, B6, B8, HB⟩ := hrel
    rename World => wr
    have HIL : Aside0 (i ≤ S.files.length ∧ S.files.length ≤ 10000) := ⟨hi, HLN.out⟩
    have hbn : S.files.length ≤ 10000 := HLN.out
    by_cases hlt : i < S.files.length
    · have bB4_0 := (blk_cell B4.out 0).trans (show _ = some (.int .i64 S.room) from rfl)
      have bB4_1 := (blk_cell B4.out 1).trans (show _ = some (.slice Af S.fails.length cf) from rfl)
      have bB4_2 := (blk_cell B4.out 2).trans (show _ = some (.slice Ap S.parts.length cp) from rfl)
      have bB4_3 := (blk_cell B4.out 3).trans (show _ = some (.slice A S.files.length c) from rfl)
      have bB4_4 := (blk_cell B4.out 4).trans (show _ = some (.int .i64 S.calls) from rfl)
      have bB4_f := fun j => blk_frozen B4.out j
      have bB6_0 := (blk_cell B6.out 0).trans (show _ = some (.string (str n2)) from rfl)
      have bB6_1 := (blk_cell B6.out 1).trans (show _ = some (.slice A2 f.b.length c2) from rfl)
      have bB6_2 := (blk_cell B6.out 2).trans (show _ = some (.int .i64 f.safe) from rfl)
      have bB6_f := fun j => blk_frozen B6.out j
      clear bB4_f bB6_f
      obtain ⟨p, hp⟩ : ∃ p, S.files[i]? = some p := ⟨_, List.getElem?_eq_getElem hlt⟩
      have hd : S.files.drop i = p :: S.files.drop (i + 1) := by rw [List.drop_eq_getElem_cons hlt]; congr 1; exact (List.getElem?_eq_some_iff.1 hp).2
      obtain ⟨ad, A1, c1, e0, x0, x1, x2, l1, q1⟩ := at_F57 HI.out.fs (i : Int) (by omega) (by omega)
      subst e0
      rw [docF_get hp] at x0 x1 x2 l1 q1
      simp only [Int.toNat_natCast] at x0 x1 x2
      have HKP := Aside0.mk (k57_mkF w P (toS p) l1 q1)
      simp only [toS] at x0 x1 x2
      have heq := HEQ.out
      rw [hd] at heq
      have WX0 := Aside0.mk x0
      have WX1 := Aside0.mk x1
      have WX2 := Aside0.mk x2
      replace x0 := (HB.out.cell (World.block_lt_of_cell? w _ x0)).trans x0
      replace x1 := (HB.out.cell (World.block_lt_of_cell? w _ x1)).trans x1
      replace x2 := (HB.out.cell (World.block_lt_of_cell? w _ x2)).trans x2
      clear l1 q1 hp hd HEQ
      cases dn with
      | false =>
        obtain rfl : gone = false := HDG.out rfl
        by_cases hlt1 : p.1 < n
        · have y1 : Op.bytesLess (str p.1).toList (str n).toList = true := by rw [ge_str]; exact decide_eq_true hlt1
          have y2 : ((str p.1).toList == (str n).toList) = false := by rw [toList_str, toList_str]; exact beq_eq_false_iff_ne.2 (lt_ne' hlt1)
          have he : withR n (n2, f) false (p :: S.files.drop (i + 1)) = p :: withR n (n2, f) false (S.files.drop (i + 1)) := by rw [withR, if_pos hlt1]
          rw [he] at heq
          have HEQ := Aside0.mk heq
          clear heq he hlt1
          go_wp2_with (first | ((with_reducible refine gate_builtin (b := .append) (xs := #[.tmp 44, .tmp 50]) rfl ?_); at_builtin; (refine Kd.R_append (Kd.raw 3) (w0 := w) w.heap.size rfl (.tmp 44) (.tmp 50) 47 57 (.agg #[(.string ⟨#[]⟩), (.slice none 0 0), (.int .i64 0)]) 48 rfl Try.underlying47 info57 rfl (by decide) (by omega) _ _ [.string (str p.1), .slice A1 p.2.b.length c1, .int .i64 p.2.safe] [.string (str p.1), .slice A1 p.2.b.length c1, .int .i64 p.2.safe] (fun k => k ≠ g4 ∧ k ≠ g6 ∧ k ≠ g8) (fun _ => False) rfl rfl (raw_M (Kd.FK_now HKP.out)) (fun _ hk => hk.elim) (fun k hk => ⟨by have := blk_lt B4.out; omega, by have := blk_lt B6.out; omega, by have := blk_lt B8.out; omega⟩) HR.out HB.out (below_size HB.out) (by have h1 := HRO.out.len; have h2 := HOL.out; have h3 := HIL.out; (try simp only [List.length_append, List.length_cons, List.length_nil] at h1 ⊢); omega) ?_); intro v1 w1 ho hb hg hat; have n_B4 := Aside0.mk ((hg.block g4 (blk_lt B4.out) (fun e => (HR.out.1 g4 e.symm).1 rfl)).trans B4.out); have n_B6 := Aside0.mk ((hg.block g6 (blk_lt B6.out) (fun e => (HR.out.1 g6 e.symm).2.1 rfl)).trans B6.out); have n_B8 := Aside0.mk ((hg.block g8 (blk_lt B8.out) (fun e => (HR.out.1 g8 e.symm).2.2 rfl)).trans B8.out); have n_HRO := Aside0.mk (HRO.out.snoc HKP.out); obtain ⟨A9, n9, c9, hv9⟩ := R_form3 ho; subst hv9; have n_HR := Aside0.mk ho; have n_HB := Aside0.mk hb; clear HR HB B4 B6 B8 HRO ho hb hg hat; have HR := n_HR; have HB := n_HB; have B4 := n_B4; have B6 := n_B6; have B8 := n_B8; have HRO := n_HRO; clear n_HR n_HB n_B4 n_B6 n_B8 n_HRO))
          go_roundw
          case rel => (first | refine ⟨_, _, _, ?_, rfl, rfl, rfl⟩ | skip); exact ⟨i + 1, false, out ++ [p], _, _, _, _, by have := HIL.out; omega, rfl, rfl, by go_num, ⟨by rw [List.append_assoc]; exact HEQ.out⟩, ⟨by first | (intro q; cases q; done) | (intro q; rfl) | exact fun q => q⟩, ⟨by have := HOL.out; simp at this ⊢; omega⟩, HRO, HR, B4, B6, B8, HB⟩
          case measure => have := HIL.out; simp [intOf]; omega
        · by_cases he1 : p.1 = n
          · have y1 : Op.bytesLess (str p.1).toList (str n).toList = false := by rw [ge_str]; exact decide_eq_false hlt1
            have y2 : ((str p.1).toList == (str n).toList) = true := by rw [toList_str, toList_str]; exact by rw [he1]; exact beq_self_eq_true _
            have he : withR n (n2, f) false (p :: S.files.drop (i + 1)) = (n2, f) :: withR n (n2, f) true (S.files.drop (i + 1)) := by rw [withR, if_neg hlt1, if_pos he1]
            rw [he] at heq
            have HEQ := Aside0.mk heq
            clear heq he hlt1 he1
            go_wp2_with (first | ((with_reducible refine gate_builtin (b := .append) (xs := #[.tmp 32, .tmp 34]) rfl ?_); at_builtin; (refine Kd.R_append (Kd.raw 3) (w0 := w) w.heap.size rfl (.tmp 32) (.tmp 34) 47 57 (.agg #[(.string ⟨#[]⟩), (.slice none 0 0), (.int .i64 0)]) 48 rfl Try.underlying47 info57 rfl (by decide) (by omega) _ _ [.string (str n2), .slice A2 f.b.length c2, .int .i64 f.safe] [.string (str n2), .slice A2 f.b.length c2, .int .i64 f.safe] (fun k => k ≠ g4 ∧ k ≠ g6 ∧ k ≠ g8) (fun _ => False) rfl rfl (raw_M (Kd.FK_now HKF.out)) (fun _ hk => hk.elim) (fun k hk => ⟨by have := blk_lt B4.out; omega, by have := blk_lt B6.out; omega, by have := blk_lt B8.out; omega⟩) HR.out HB.out (below_size HB.out) (by have h1 := HRO.out.len; have h2 := HOL.out; have h3 := HIL.out; (try simp only [List.length_append, List.length_cons, List.length_nil] at h1 ⊢); omega) ?_); intro v1 w1 ho hb hg hat; have n_B4 := Aside0.mk ((hg.block g4 (blk_lt B4.out) (fun e => (HR.out.1 g4 e.symm).1 rfl)).trans B4.out); have n_B6 := Aside0.mk ((hg.block g6 (blk_lt B6.out) (fun e => (HR.out.1 g6 e.symm).2.1 rfl)).trans B6.out); have n_B8 := Aside0.mk ((hg.block g8 (blk_lt B8.out) (fun e => (HR.out.1 g8 e.symm).2.2 rfl)).trans B8.out); have n_HRO := Aside0.mk (HRO.out.snoc HKF.out); obtain ⟨A9, n9, c9, hv9⟩ := R_form3 ho; subst hv9; have n_HR := Aside0.mk ho; have n_HB := Aside0.mk hb; clear HR HB B4 B6 B8 HRO ho hb hg hat; have HR := n_HR; have HB := n_HB; have B4 := n_B4; have B6 := n_B6; have B8 := n_B8; have HRO := n_HRO; clear n_HR n_HB n_B4 n_B6 n_B8 n_HRO; clear x0 x1 x2 bB4_0 bB4_1 bB4_2 bB4_3 bB4_4; have x0 := (HB.out.cell (World.block_lt_of_cell? w _ WX0.out)).trans WX0.out; have x1 := (HB.out.cell (World.block_lt_of_cell? w _ WX1.out)).trans WX1.out; have x2 := (HB.out.cell (World.block_lt_of_cell? w _ WX2.out)).trans WX2.out; have bB4_0 := (blk_cell B4.out 0).trans (show _ = some (.int .i64 S.room) from rfl); have bB4_1 := (blk_cell B4.out 1).trans (show _ = some (.slice Af S.fails.length cf) from rfl); have bB4_2 := (blk_cell B4.out 2).trans (show _ = some (.slice Ap S.parts.length cp) from rfl); have bB4_3 := (blk_cell B4.out 3).trans (show _ = some (.slice (some ad) S.files.length c) from rfl); have bB4_4 := (blk_cell B4.out 4).trans (show _ = some (.int .i64 S.calls) from rfl)))
            go_roundw
            case rel => (first | refine ⟨_, _, _, ?_, rfl, rfl, rfl⟩ | skip); exact ⟨i + 1, true, out ++ [(n2, f)], _, _, _, _, by have := HIL.out; omega, rfl, rfl, by go_num, ⟨by rw [List.append_assoc]; exact HEQ.out⟩, ⟨by first | (intro q; cases q; done) | (intro q; rfl) | exact fun q => q⟩, ⟨by have := HOL.out; simp at this ⊢; omega⟩, HRO, HR, B4, B6, B8, HB⟩
            case measure => have := HIL.out; simp [intOf]; omega
          · have y1 : Op.bytesLess (str p.1).toList (str n).toList = false := by rw [ge_str]; exact decide_eq_false hlt1
            have y2 : ((str p.1).toList == (str n).toList) = false := by rw [toList_str, toList_str]; exact beq_eq_false_iff_ne.2 he1
            have he : withR n (n2, f) false (p :: S.files.drop (i + 1)) = (n2, f) :: p :: withR n (n2, f) true (S.files.drop (i + 1)) := by rw [withR, if_neg hlt1, if_neg he1]
            rw [he] at heq
            have HEQ := Aside0.mk heq
            clear heq he hlt1 he1
            go_wp2_with (first | ((with_reducible refine gate_builtin (b := .append) (xs := #[.tmp 32, .tmp 34]) rfl ?_); at_builtin; (refine Kd.R_append (Kd.raw 3) (w0 := w) w.heap.size rfl (.tmp 32) (.tmp 34) 47 57 (.agg #[(.string ⟨#[]⟩), (.slice none 0 0), (.int .i64 0)]) 48 rfl Try.underlying47 info57 rfl (by decide) (by omega) _ _ [.string (str n2), .slice A2 f.b.length c2, .int .i64 f.safe] [.string (str n2), .slice A2 f.b.length c2, .int .i64 f.safe] (fun k => k ≠ g4 ∧ k ≠ g6 ∧ k ≠ g8) (fun _ => False) rfl rfl (raw_M (Kd.FK_now HKF.out)) (fun _ hk => hk.elim) (fun k hk => ⟨by have := blk_lt B4.out; omega, by have := blk_lt B6.out; omega, by have := blk_lt B8.out; omega⟩) HR.out HB.out (below_size HB.out) (by have h1 := HRO.out.len; have h2 := HOL.out; have h3 := HIL.out; (try simp only [List.length_append, List.length_cons, List.length_nil] at h1 ⊢); omega) ?_); intro v1 w1 ho hb hg hat; have n_B4 := Aside0.mk ((hg.block g4 (blk_lt B4.out) (fun e => (HR.out.1 g4 e.symm).1 rfl)).trans B4.out); have n_B6 := Aside0.mk ((hg.block g6 (blk_lt B6.out) (fun e => (HR.out.1 g6 e.symm).2.1 rfl)).trans B6.out); have n_B8 := Aside0.mk ((hg.block g8 (blk_lt B8.out) (fun e => (HR.out.1 g8 e.symm).2.2 rfl)).trans B8.out); have n_HRO := Aside0.mk (HRO.out.snoc HKF.out); obtain ⟨A9, n9, c9, hv9⟩ := R_form3 ho; subst hv9; have n_HR := Aside0.mk ho; have n_HB := Aside0.mk hb; clear HR HB B4 B6 B8 HRO ho hb hg hat; have HR := n_HR; have HB := n_HB; have B4 := n_B4; have B6 := n_B6; have B8 := n_B8; have HRO := n_HRO; clear n_HR n_HB n_B4 n_B6 n_B8 n_HRO; clear x0 x1 x2 bB4_0 bB4_1 bB4_2 bB4_3 bB4_4; have x0 := (HB.out.cell (World.block_lt_of_cell? w _ WX0.out)).trans WX0.out; have x1 := (HB.out.cell (World.block_lt_of_cell? w _ WX1.out)).trans WX1.out; have x2 := (HB.out.cell (World.block_lt_of_cell? w _ WX2.out)).trans WX2.out; have bB4_0 := (blk_cell B4.out 0).trans (show _ = some (.int .i64 S.room) from rfl); have bB4_1 := (blk_cell B4.out 1).trans (show _ = some (.slice Af S.fails.length cf) from rfl); have bB4_2 := (blk_cell B4.out 2).trans (show _ = some (.slice Ap S.parts.length cp) from rfl); have bB4_3 := (blk_cell B4.out 3).trans (show _ = some (.slice (some ad) S.files.length c) from rfl); have bB4_4 := (blk_cell B4.out 4).trans (show _ = some (.int .i64 S.calls) from rfl)) | ((with_reducible refine gate_builtin (b := .append) (xs := #[.tmp 44, .tmp 50]) rfl ?_); at_builtin; (refine Kd.R_append (Kd.raw 3) (w0 := w) w.heap.size rfl (.tmp 44) (.tmp 50) 47 57 (.agg #[(.string ⟨#[]⟩), (.slice none 0 0), (.int .i64 0)]) 48 rfl Try.underlying47 info57 rfl (by decide) (by omega) _ _ [.string (str p.1), .slice A1 p.2.b.length c1, .int .i64 p.2.safe] [.string (str p.1), .slice A1 p.2.b.length c1, .int .i64 p.2.safe] (fun k => k ≠ g4 ∧ k ≠ g6 ∧ k ≠ g8) (fun _ => False) rfl rfl (raw_M (Kd.FK_now HKP.out)) (fun _ hk => hk.elim) (fun k hk => ⟨by have := blk_lt B4.out; omega, by have := blk_lt B6.out; omega, by have := blk_lt B8.out; omega⟩) HR.out HB.out (below_size HB.out) (by have h1 := HRO.out.len; have h2 := HOL.out; have h3 := HIL.out; (try simp only [List.length_append, List.length_cons, List.length_nil] at h1 ⊢); omega) ?_); intro v1 w1 ho hb hg hat; have n_B4 := Aside0.mk ((hg.block g4 (blk_lt B4.out) (fun e => (HR.out.1 g4 e.symm).1 rfl)).trans B4.out); have n_B6 := Aside0.mk ((hg.block g6 (blk_lt B6.out) (fun e => (HR.out.1 g6 e.symm).2.1 rfl)).trans B6.out); have n_B8 := Aside0.mk ((hg.block g8 (blk_lt B8.out) (fun e => (HR.out.1 g8 e.symm).2.2 rfl)).trans B8.out); have n_HRO := Aside0.mk (HRO.out.snoc HKP.out); obtain ⟨A9, n9, c9, hv9⟩ := R_form3 ho; subst hv9; have n_HR := Aside0.mk ho; have n_HB := Aside0.mk hb; clear HR HB B4 B6 B8 HRO ho hb hg hat; have HR := n_HR; have HB := n_HB; have B4 := n_B4; have B6 := n_B6; have B8 := n_B8; have HRO := n_HRO; clear n_HR n_HB n_B4 n_B6 n_B8 n_HRO))
            go_roundw
            case rel => (first | refine ⟨_, _, _, ?_, rfl, rfl, rfl⟩ | skip); exact ⟨i + 1, true, out ++ [(n2, f)] ++ [p], _, _, _, _, by have := HIL.out; omega, rfl, rfl, by go_num, ⟨by rw [List.append_assoc, List.append_assoc]; exact HEQ.out⟩, ⟨by first | (intro q; cases q; done) | (intro q; rfl) | exact fun q => q⟩, ⟨by have := HOL.out; simp at this ⊢; omega⟩, HRO, HR, B4, B6, B8, HB⟩
            case measure => have := HIL.out; simp [intOf]; omega
      | true =>
        by_cases he1 : p.1 = n
        · have y2 : ((str p.1).toList == (str n).toList) = true := by rw [toList_str, toList_str]; exact by rw [he1]; exact beq_self_eq_true _
          have he : withR n (n2, f) true (p :: S.files.drop (i + 1)) = withR n (n2, f) true (S.files.drop (i + 1)) := by rw [withR, if_pos he1]
          rw [he] at heq
          have HEQ := Aside0.mk heq
          clear heq he he1
          go_wp2
          go_roundw
          case rel => (first | refine ⟨_, _, _, ?_, rfl, rfl, rfl⟩ | skip); exact ⟨i + 1, true, out, _, _, _, _, by have := HIL.out; omega, rfl, rfl, by go_num, ⟨by exact HEQ.out⟩, ⟨by first | (intro q; cases q; done) | (intro q; rfl) | exact fun q => q⟩, ⟨by have := HOL.out; omega⟩, HRO, HR, B4, B6, B8, HB⟩
          case measure => have := HIL.out; simp [intOf]; omega
        · have y2 : ((str p.1).toList == (str n).toList) = false := by rw [toList_str, toList_str]; exact beq_eq_false_iff_ne.2 he1
          have he : withR n (n2, f) true (p :: S.files.drop (i + 1)) = p :: withR n (n2, f) true (S.files.drop (i + 1)) := by rw [withR, if_neg he1]
          rw [he] at heq
          have HEQ := Aside0.mk heq
          clear heq he he1
          go_wp2_with (first | ((with_reducible refine gate_builtin (b := .append) (xs := #[.tmp 44, .tmp 50]) rfl ?_); at_builtin; (refine Kd.R_append (Kd.raw 3) (w0 := w) w.heap.size rfl (.tmp 44) (.tmp 50) 47 57 (.agg #[(.string ⟨#[]⟩), (.slice none 0 0), (.int .i64 0)]) 48 rfl Try.underlying47 info57 rfl (by decide) (by omega) _ _ [.string (str p.1), .slice A1 p.2.b.length c1, .int .i64 p.2.safe] [.string (str p.1), .slice A1 p.2.b.length c1, .int .i64 p.2.safe] (fun k => k ≠ g4 ∧ k ≠ g6 ∧ k ≠ g8) (fun _ => False) rfl rfl (raw_M (Kd.FK_now HKP.out)) (fun _ hk => hk.elim) (fun k hk => ⟨by have := blk_lt B4.out; omega, by have := blk_lt B6.out; omega, by have := blk_lt B8.out; omega⟩) HR.out HB.out (below_size HB.out) (by have h1 := HRO.out.len; have h2 := HOL.out; have h3 := HIL.out; (try simp only [List.length_append, List.length_cons, List.length_nil] at h1 ⊢); omega) ?_); intro v1 w1 ho hb hg hat; have n_B4 := Aside0.mk ((hg.block g4 (blk_lt B4.out) (fun e => (HR.out.1 g4 e.symm).1 rfl)).trans B4.out); have n_B6 := Aside0.mk ((hg.block g6 (blk_lt B6.out) (fun e => (HR.out.1 g6 e.symm).2.1 rfl)).trans B6.out); have n_B8 := Aside0.mk ((hg.block g8 (blk_lt B8.out) (fun e => (HR.out.1 g8 e.symm).2.2 rfl)).trans B8.out); have n_HRO := Aside0.mk (HRO.out.snoc HKP.out); obtain ⟨A9, n9, c9, hv9⟩ := R_form3 ho; subst hv9; have n_HR := Aside0.mk ho; have n_HB := Aside0.mk hb; clear HR HB B4 B6 B8 HRO ho hb hg hat; have HR := n_HR; have HB := n_HB; have B4 := n_B4; have B6 := n_B6; have B8 := n_B8; have HRO := n_HRO; clear n_HR n_HB n_B4 n_B6 n_B8 n_HRO))
          go_roundw
          case rel => (first | refine ⟨_, _, _, ?_, rfl, rfl, rfl⟩ | skip); exact ⟨i + 1, true, out ++ [p], _, _, _, _, by have := HIL.out; omega, rfl, rfl, by go_num, ⟨by rw [List.append_assoc]; exact HEQ.out⟩, ⟨by first | (intro q; cases q; done) | (intro q; rfl) | exact fun q => q⟩, ⟨by have := HOL.out; simp at this ⊢; omega⟩, HRO, HR, B4, B6, B8, HB⟩
          case measure => have := HIL.out; simp [intOf]; omega
    · obtain rfl : i = S.files.length := by omega
      have heq := HEQ.out
      rw [List.drop_length] at heq
      clear HEQ hlt hi
      cases dn with
      | false =>
        obtain rfl : gone = false := HDG.out rfl
        have bB4_0 := (blk_cell B4.out 0).trans (show _ = some (.int .i64 S.room) from rfl)
        have bB4_1 := (blk_cell B4.out 1).trans (show _ = some (.slice Af S.fails.length cf) from rfl)
        have bB4_2 := (blk_cell B4.out 2).trans (show _ = some (.slice Ap S.parts.length cp) from rfl)
        have bB4_3 := (blk_cell B4.out 3).trans (show _ = some (.slice A S.files.length c) from rfl)
        have bB4_4 := (blk_cell B4.out 4).trans (show _ = some (.int .i64 S.calls) from rfl)
        have bB4_f := fun j => blk_frozen B4.out j
        have bB6_0 := (blk_cell B6.out 0).trans (show _ = some (.string (str n2)) from rfl)
        have bB6_1 := (blk_cell B6.out 1).trans (show _ = some (.slice A2 f.b.length c2) from rfl)
        have bB6_2 := (blk_cell B6.out 2).trans (show _ = some (.int .i64 f.safe) from rfl)
        have bB6_f := fun j => blk_frozen B6.out j
        clear bB4_f bB6_f
        have HEND : Aside0 (out ++ [(n2, f)] = withR n (n2, f) false S.files) := ⟨heq⟩
        clear heq
        go_upto_region 13 with (first | ((with_reducible refine gate_builtin (b := .append) (xs := #[.tmp 54, .tmp 56]) rfl ?_); at_builtin; (refine Kd.R_append (Kd.raw 3) (w0 := w) w.heap.size rfl (.tmp 54) (.tmp 56) 47 57 (.agg #[(.string ⟨#[]⟩), (.slice none 0 0), (.int .i64 0)]) 48 rfl Try.underlying47 info57 rfl (by decide) (by omega) _ _ [.string (str n2), .slice A2 f.b.length c2, .int .i64 f.safe] [.string (str n2), .slice A2 f.b.length c2, .int .i64 f.safe] (fun k => k ≠ g4 ∧ k ≠ g6 ∧ k ≠ g8) (fun _ => False) rfl rfl (raw_M (Kd.FK_now HKF.out)) (fun _ hk => hk.elim) (fun k hk => ⟨by have := blk_lt B4.out; omega, by have := blk_lt B6.out; omega, by have := blk_lt B8.out; omega⟩) HR.out HB.out (below_size HB.out) (by have h1 := HRO.out.len; have h2 := HOL.out; have h3 := HIL.out; (try simp only [List.length_append, List.length_cons, List.length_nil] at h1 ⊢); omega) ?_); intro v1 w1 ho hb hg hat; have n_B4 := Aside0.mk ((hg.block g4 (blk_lt B4.out) (fun e => (HR.out.1 g4 e.symm).1 rfl)).trans B4.out); have n_B6 := Aside0.mk ((hg.block g6 (blk_lt B6.out) (fun e => (HR.out.1 g6 e.symm).2.1 rfl)).trans B6.out); have n_B8 := Aside0.mk ((hg.block g8 (blk_lt B8.out) (fun e => (HR.out.1 g8 e.symm).2.2 rfl)).trans B8.out); have n_HRO := Aside0.mk (HRO.out.snoc HKF.out); obtain ⟨A9, n9, c9, hv9⟩ := R_form3 ho; subst hv9; have n_HR := Aside0.mk ho; have n_HB := Aside0.mk hb; clear HR HB B4 B6 B8 HRO ho hb hg hat; have HR := n_HR; have HB := n_HB; have B4 := n_B4; have B6 := n_B6; have B8 := n_B8; have HRO := n_HRO; clear n_HR n_HB n_B4 n_B6 n_B8 n_HRO))
        clear bB4_0 bB4_1 bB4_2 bB4_3 bB4_4 bB6_0 bB6_1 bB6_2
        have bB4_0 := (blk_cell B4.out 0).trans (show _ = some (.int .i64 S.room) from rfl)
        have bB4_1 := (blk_cell B4.out 1).trans (show _ = some (.slice Af S.fails.length cf) from rfl)
        have bB4_2 := (blk_cell B4.out 2).trans (show _ = some (.slice Ap S.parts.length cp) from rfl)
        have bB4_3 := (blk_cell B4.out 3).trans (show _ = some (.slice A S.files.length c) from rfl)
        have bB4_4 := (blk_cell B4.out 4).trans (show _ = some (.int .i64 S.calls) from rfl)
        have bB4_f := fun j => blk_frozen B4.out j
        go_upto_region 14 with (fail)
        clear bB4_0 bB4_1 bB4_2 bB4_3 bB4_4 bB4_f
        rename World => wz
        have s0 := blk_put (cs' := #[.int .i64 S.room, .slice Af S.fails.length cf, .slice Ap S.parts.length cp, .slice A9 n9 c9, .int .i64 S.calls]) B4.out 3 (.slice A9 n9 c9) rfl
        have h0 := below_set (j := 3) (v := .slice A9 n9 c9) HB.out GE_g4.out
        have hs : ∀ k, k ≠ g4 → (World.setCell wz ⟨g4, 3, none⟩ (.slice A9 n9 c9)).heap[k]? = wz.heap[k]? := fun k hk => (Below.heap_setCell wz ⟨g4, 3, none⟩ (.slice A9 n9 c9) k hk)
        generalize (World.setCell wz ⟨g4, 3, none⟩ (.slice A9 n9 c9)) = wa at s0 h0 hs ⊢
        have n_B6 := Aside0.mk ((hs g6 (fun e => NE_g4_g6.out e.symm)).trans B6.out); have n_B8 := Aside0.mk ((hs g8 (fun e => NE_g4_g8.out e.symm)).trans B8.out); have n_HR := Aside0.mk (Kd.R_move HR.out (fun k hk => hs k (fun e => by subst e; first | exact hk.1 rfl | exact hk.2.1 rfl | exact hk.2.2 rfl))); have n_HB := Aside0.mk (h0); clear B6 B8 HR HB; have B6 := n_B6; have B8 := n_B8; have HR := n_HR; have HB := n_HB; clear n_B6 n_B8 n_HR n_HB
        clear B4
        have B4 := Aside0.mk s0
        clear hs s0 h0
        have bB4_0 := (blk_cell B4.out 0).trans (show _ = some (.int .i64 S.room) from rfl)
        have bB4_1 := (blk_cell B4.out 1).trans (show _ = some (.slice Af S.fails.length cf) from rfl)
        have bB4_2 := (blk_cell B4.out 2).trans (show _ = some (.slice Ap S.parts.length cp) from rfl)
        have bB4_3 := (blk_cell B4.out 3).trans (show _ = some (.slice A9 n9 c9) from rfl)
        have bB4_4 := (blk_cell B4.out 4).trans (show _ = some (.int .i64 S.calls) from rfl)
        have bB4_f := fun j => blk_frozen B4.out j
        have bB8_0 := (blk_cell B8.out 0).trans (show _ = some (.int .i64 0) from rfl)
        have bB8_1 := (blk_cell B8.out 1).trans (show _ = some (.slice none 0 0) from rfl)
        have bB8_2 := (blk_cell B8.out 2).trans (show _ = some (.slice none 0 0) from rfl)
        have bB8_3 := (blk_cell B8.out 3).trans (show _ = some (.slice none 0 0) from rfl)
        have bB8_4 := (blk_cell B8.out 4).trans (show _ = some (.int .i64 0) from rfl)
        have bB8_f := fun j => blk_frozen B8.out j
        go_wp2
        clear bB4_0 bB4_1 bB4_2 bB4_3 bB4_4 bB4_f bB8_0 bB8_1 bB8_2 bB8_3 bB8_4 bB8_f
        have s0 := blk_put (cs' := #[.int .i64 S.room, .slice none 0 0, .slice none 0 0, .slice none 0 0, .int .i64 0]) B8.out 0 (.int .i64 S.room) rfl
        have h0 := below_set (j := 0) (v := .int .i64 S.room) HB.out GE_g8.out
        have s1 := blk_put (cs' := #[.int .i64 S.room, .slice Af S.fails.length cf, .slice none 0 0, .slice none 0 0, .int .i64 0]) s0 1 (.slice Af S.fails.length cf) rfl
        have h1 := below_set (j := 1) (v := .slice Af S.fails.length cf) h0 GE_g8.out
        have s2 := blk_put (cs' := #[.int .i64 S.room, .slice Af S.fails.length cf, .slice Ap S.parts.length cp, .slice none 0 0, .int .i64 0]) s1 2 (.slice Ap S.parts.length cp) rfl
        have h2 := below_set (j := 2) (v := .slice Ap S.parts.length cp) h1 GE_g8.out
        have s3 := blk_put (cs' := #[.int .i64 S.room, .slice Af S.fails.length cf, .slice Ap S.parts.length cp, .slice A9 n9 c9, .int .i64 0]) s2 3 (.slice A9 n9 c9) rfl
        have h3 := below_set (j := 3) (v := .slice A9 n9 c9) h2 GE_g8.out
        have s4 := blk_put (cs' := #[.int .i64 S.room, .slice Af S.fails.length cf, .slice Ap S.parts.length cp, .slice A9 n9 c9, .int .i64 S.calls]) s3 4 (.int .i64 S.calls) rfl
        have h4 := below_set (j := 4) (v := .int .i64 S.calls) h3 GE_g8.out
        have hs : ∀ k, k ≠ g8 → (World.setCell (World.setCell (World.setCell (World.setCell (World.setCell wa ⟨g8, 0, none⟩ (.int .i64 S.room)) ⟨g8, 1, none⟩ (.slice Af S.fails.length cf)) ⟨g8, 2, none⟩ (.slice Ap S.parts.length cp)) ⟨g8, 3, none⟩ (.slice A9 n9 c9)) ⟨g8, 4, none⟩ (.int .i64 S.calls)).heap[k]? = wa.heap[k]? := fun k hk => ((Below.heap_setCell (World.setCell (World.setCell (World.setCell (World.setCell wa ⟨g8, 0, none⟩ (.int .i64 S.room)) ⟨g8, 1, none⟩ (.slice Af S.fails.length cf)) ⟨g8, 2, none⟩ (.slice Ap S.parts.length cp)) ⟨g8, 3, none⟩ (.slice A9 n9 c9)) ⟨g8, 4, none⟩ (.int .i64 S.calls) k hk).trans ((Below.heap_setCell (World.setCell (World.setCell (World.setCell wa ⟨g8, 0, none⟩ (.int .i64 S.room)) ⟨g8, 1, none⟩ (.slice Af S.fails.length cf)) ⟨g8, 2, none⟩ (.slice Ap S.parts.length cp)) ⟨g8, 3, none⟩ (.slice A9 n9 c9) k hk).trans ((Below.heap_setCell (World.setCell (World.setCell wa ⟨g8, 0, none⟩ (.int .i64 S.room)) ⟨g8, 1, none⟩ (.slice Af S.fails.length cf)) ⟨g8, 2, none⟩ (.slice Ap S.parts.length cp) k hk).trans ((Below.heap_setCell (World.setCell wa ⟨g8, 0, none⟩ (.int .i64 S.room)) ⟨g8, 1, none⟩ (.slice Af S.fails.length cf) k hk).trans (Below.heap_setCell wa ⟨g8, 0, none⟩ (.int .i64 S.room) k hk)))))
        generalize (World.setCell (World.setCell (World.setCell (World.setCell (World.setCell wa ⟨g8, 0, none⟩ (.int .i64 S.room)) ⟨g8, 1, none⟩ (.slice Af S.fails.length cf)) ⟨g8, 2, none⟩ (.slice Ap S.parts.length cp)) ⟨g8, 3, none⟩ (.slice A9 n9 c9)) ⟨g8, 4, none⟩ (.int .i64 S.calls)) = wb at s4 h4 hs ⊢
        have n_B4 := Aside0.mk ((hs g4 NE_g4_g8.out).trans B4.out); have n_B6 := Aside0.mk ((hs g6 NE_g6_g8.out).trans B6.out); have n_HR := Aside0.mk (Kd.R_move HR.out (fun k hk => hs k (fun e => by subst e; first | exact hk.1 rfl | exact hk.2.1 rfl | exact hk.2.2 rfl))); have n_HB := Aside0.mk (h4); clear B4 B6 HR HB; have B4 := n_B4; have B6 := n_B6; have HR := n_HR; have HB := n_HB; clear n_B4 n_B6 n_HR n_HB
        clear B8
        have B8 := Aside0.mk s4
        clear hs s0 s1 s2 s3 s4 h0 h1 h2 h3 h4
        refine bodyPost_ret (results_cell_row rfl _ _ g8 49 #[.int .i64 S.room, .slice Af S.fails.length cf, .slice Ap S.parts.length cp, .slice A9 n9 c9, .int .i64 S.calls] (0, 0) _ rfl B8.out Try.underlying49 rfl (by kernel_rfl)) rfl ?_
        obtain ⟨hlen, hcap, hC⟩ := raw_C HR.out HRO.out HB.out
        have hI := HI.out.below HB.out
        have hlen2 : n9 = (withR n (n2, f) false S.files).length := by rw [hlen]; exact congrArg List.length HEND.out
        rw [hlen2] at hcap ⊢
        rw [HEND.out] at hC
        exact ⟨A9, c9, rfl, ⟨Kd.F_mono hI.fl (fun _ => .inl), hI.fc, Kd.F_mono hI.pt (fun _ => .inl), hI.pc, Kd.F_mono hC (fun k hk => hk.imp id And.right), hcap⟩, HB.out⟩
      | true =>
        have HEND : Aside0 (out = withR n (n2, f) gone S.files) := ⟨by rw [← heq]; exact (List.append_nil out).symm⟩
        clear heq
        have bB4_0 := (blk_cell B4.out 0).trans (show _ = some (.int .i64 S.room) from rfl)
        have bB4_1 := (blk_cell B4.out 1).trans (show _ = some (.slice Af S.fails.length cf) from rfl)
        have bB4_2 := (blk_cell B4.out 2).trans (show _ = some (.slice Ap S.parts.length cp) from rfl)
        have bB4_3 := (blk_cell B4.out 3).trans (show _ = some (.slice A S.files.length c) from rfl)
        have bB4_4 := (blk_cell B4.out 4).trans (show _ = some (.int .i64 S.calls) from rfl)
        have bB4_f := fun j => blk_frozen B4.out j
        go_upto_region 13 with (fail)
        go_upto_region 14 with (fail)
        clear bB4_0 bB4_1 bB4_2 bB4_3 bB4_4 bB4_f
        rename World => wz
        have s0 := blk_put (cs' := #[.int .i64 S.room, .slice Af S.fails.length cf, .slice Ap S.parts.length cp, .slice Ao nn co, .int .i64 S.calls]) B4.out 3 (.slice Ao nn co) rfl
        have h0 := below_set (j := 3) (v := .slice Ao nn co) HB.out GE_g4.out
        have hs : ∀ k, k ≠ g4 → (World.setCell wz ⟨g4, 3, none⟩ (.slice Ao nn co)).heap[k]? = wz.heap[k]? := fun k hk => (Below.heap_setCell wz ⟨g4, 3, none⟩ (.slice Ao nn co) k hk)
        generalize (World.setCell wz ⟨g4, 3, none⟩ (.slice Ao nn co)) = wa at s0 h0 hs ⊢
        have n_B6 := Aside0.mk ((hs g6 (fun e => NE_g4_g6.out e.symm)).trans B6.out); have n_B8 := Aside0.mk ((hs g8 (fun e => NE_g4_g8.out e.symm)).trans B8.out); have n_HR := Aside0.mk (Kd.R_move HR.out (fun k hk => hs k (fun e => by subst e; first | exact hk.1 rfl | exact hk.2.1 rfl | exact hk.2.2 rfl))); have n_HB := Aside0.mk (h0); clear B6 B8 HR HB; have B6 := n_B6; have B8 := n_B8; have HR := n_HR; have HB := n_HB; clear n_B6 n_B8 n_HR n_HB
        clear B4
        have B4 := Aside0.mk s0
        clear hs s0 h0
        have bB4_0 := (blk_cell B4.out 0).trans (show _ = some (.int .i64 S.room) from rfl)
        have bB4_1 := (blk_cell B4.out 1).trans (show _ = some (.slice Af S.fails.length cf) from rfl)
        have bB4_2 := (blk_cell B4.out 2).trans (show _ = some (.slice Ap S.parts.length cp) from rfl)
        have bB4_3 := (blk_cell B4.out 3).trans (show _ = some (.slice Ao nn co) from rfl)
        have bB4_4 := (blk_cell B4.out 4).trans (show _ = some (.int .i64 S.calls) from rfl)
        have bB4_f := fun j => blk_frozen B4.out j
        have bB8_0 := (blk_cell B8.out 0).trans (show _ = some (.int .i64 0) from rfl)
        have bB8_1 := (blk_cell B8.out 1).trans (show _ = some (.slice none 0 0) from rfl)
        have bB8_2 := (blk_cell B8.out 2).trans (show _ = some (.slice none 0 0) from rfl)
        have bB8_3 := (blk_cell B8.out 3).trans (show _ = some (.slice none 0 0) from rfl)
        have bB8_4 := (blk_cell B8.out 4).trans (show _ = some (.int .i64 0) from rfl)
        have bB8_f := fun j => blk_frozen B8.out j
        go_wp2
        clear bB4_0 bB4_1 bB4_2 bB4_3 bB4_4 bB4_f bB8_0 bB8_1 bB8_2 bB8_3 bB8_4 bB8_f
        have s0 := blk_put (cs' := #[.int .i64 S.room, .slice none 0 0, .slice none 0 0, .slice none 0 0, .int .i64 0]) B8.out 0 (.int .i64 S.room) rfl
        have h0 := below_set (j := 0) (v := .int .i64 S.room) HB.out GE_g8.out
        have s1 := blk_put (cs' := #[.int .i64 S.room, .slice Af S.fails.length cf, .slice none 0 0, .slice none 0 0, .int .i64 0]) s0 1 (.slice Af S.fails.length cf) rfl
        have h1 := below_set (j := 1) (v := .slice Af S.fails.length cf) h0 GE_g8.out
        have s2 := blk_put (cs' := #[.int .i64 S.room, .slice Af S.fails.length cf, .slice Ap S.parts.length cp, .slice none 0 0, .int .i64 0]) s1 2 (.slice Ap S.parts.length cp) rfl
        have h2 := below_set (j := 2) (v := .slice Ap S.parts.length cp) h1 GE_g8.out
        have s3 := blk_put (cs' := #[.int .i64 S.room, .slice Af S.fails.length cf, .slice Ap S.parts.length cp, .slice Ao nn co, .int .i64 0]) s2 3 (.slice Ao nn co) rfl
        have h3 := below_set (j := 3) (v := .slice Ao nn co) h2 GE_g8.out
        have s4 := blk_put (cs' := #[.int .i64 S.room, .slice Af S.fails.length cf, .slice Ap S.parts.length cp, .slice Ao nn co, .int .i64 S.calls]) s3 4 (.int .i64 S.calls) rfl
        have h4 := below_set (j := 4) (v := .int .i64 S.calls) h3 GE_g8.out
        have hs : ∀ k, k ≠ g8 → (World.setCell (World.setCell (World.setCell (World.setCell (World.setCell wa ⟨g8, 0, none⟩ (.int .i64 S.room)) ⟨g8, 1, none⟩ (.slice Af S.fails.length cf)) ⟨g8, 2, none⟩ (.slice Ap S.parts.length cp)) ⟨g8, 3, none⟩ (.slice Ao nn co)) ⟨g8, 4, none⟩ (.int .i64 S.calls)).heap[k]? = wa.heap[k]? := fun k hk => ((Below.heap_setCell (World.setCell (World.setCell (World.setCell (World.setCell wa ⟨g8, 0, none⟩ (.int .i64 S.room)) ⟨g8, 1, none⟩ (.slice Af S.fails.length cf)) ⟨g8, 2, none⟩ (.slice Ap S.parts.length cp)) ⟨g8, 3, none⟩ (.slice Ao nn co)) ⟨g8, 4, none⟩ (.int .i64 S.calls) k hk).trans ((Below.heap_setCell (World.setCell (World.setCell (World.setCell wa ⟨g8, 0, none⟩ (.int .i64 S.room)) ⟨g8, 1, none⟩ (.slice Af S.fails.length cf)) ⟨g8, 2, none⟩ (.slice Ap S.parts.length cp)) ⟨g8, 3, none⟩ (.slice Ao nn co) k hk).trans ((Below.heap_setCell (World.setCell (World.setCell wa ⟨g8, 0, none⟩ (.int .i64 S.room)) ⟨g8, 1, none⟩ (.slice Af S.fails.length cf)) ⟨g8, 2, none⟩ (.slice Ap S.parts.length cp) k hk).trans ((Below.heap_setCell (World.setCell wa ⟨g8, 0, none⟩ (.int .i64 S.room)) ⟨g8, 1, none⟩ (.slice Af S.fails.length cf) k hk).trans (Below.heap_setCell wa ⟨g8, 0, none⟩ (.int .i64 S.room) k hk)))))
        generalize (World.setCell (World.setCell (World.setCell (World.setCell (World.setCell wa ⟨g8, 0, none⟩ (.int .i64 S.room)) ⟨g8, 1, none⟩ (.slice Af S.fails.length cf)) ⟨g8, 2, none⟩ (.slice Ap S.parts.length cp)) ⟨g8, 3, none⟩ (.slice Ao nn co)) ⟨g8, 4, none⟩ (.int .i64 S.calls)) = wb at s4 h4 hs ⊢
        have n_B4 := Aside0.mk ((hs g4 NE_g4_g8.out).trans B4.out); have n_B6 := Aside0.mk ((hs g6 NE_g6_g8.out).trans B6.out); have n_HR := Aside0.mk (Kd.R_move HR.out (fun k hk => hs k (fun e => by subst e; first | exact hk.1 rfl | exact hk.2.1 rfl | exact hk.2.2 rfl))); have n_HB := Aside0.mk (h4); clear B4 B6 HR HB; have B4 := n_B4; have B6 := n_B6; have HR := n_HR; have HB := n_HB; clear n_B4 n_B6 n_HR n_HB
        clear B8
        have B8 := Aside0.mk s4
        clear hs s0 s1 s2 s3 s4 h0 h1 h2 h3 h4
        refine bodyPost_ret (results_cell_row rfl _ _ g8 49 #[.int .i64 S.room, .slice Af S.fails.length cf, .slice Ap S.parts.length cp, .slice Ao nn co, .int .i64 S.calls] (0, 0) _ rfl B8.out Try.underlying49 rfl (by kernel_rfl)) rfl ?_
        obtain ⟨hlen, hcap, hC⟩ := raw_C HR.out HRO.out HB.out
        have hI := HI.out.below HB.out
        have hlen2 : nn = (withR n (n2, f) gone S.files).length := by rw [hlen]; exact congrArg List.length HEND.out
        rw [hlen2] at hcap ⊢
        rw [HEND.out] at hC
        exact ⟨Ao, co, rfl, ⟨Kd.F_mono hI.fl (fun _ => .inl), hI.fc, Kd.F_mono hI.pt (fun _ => .inl), hI.pc, Kd.F_mono hC (fun k hk => hk.imp id And.right), hcap⟩, HB.out⟩
end Go.Proofs.Yteibdmpjlpcgbaa.XDisk
