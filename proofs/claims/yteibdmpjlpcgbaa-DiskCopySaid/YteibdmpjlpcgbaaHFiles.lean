/- The laws' view of a disk: files, same. -/
import Derived.Test.YteibdmpjlpcgbaaHDoes
namespace Go.Proofs.Yteibdmpjlpcgbaa.XDisk
open Go Go.RowKit Go.Proofs.YteibdmpjlpcgbaaW.PrintWords Go.Proofs.YteibdmpjlpcgbaaW.PrintLast Go.Proofs.YteibdmpjlpcgbaaW.PrintMore
open Go.Proofs.Yteibdmpjlpcgbaa
set_option linter.unusedVariables false
set_option linter.unusedSimpArgs false
theorem zero42 : ∀ W : World, (zeroValue 42).run Try.prog W = .ok (.agg #[.string ByteArray.empty, .int .i64 0]) W := Try.zeroValue42
def m35 : HStrMap.SM Try.prog 35 := ⟨9, 42, .agg #[.string ByteArray.empty, .int .i64 0], Try.underlying35, Try.underlying9, zero42⟩
/-- What a law sees of a file. -/
def fval (f : FA) : Value := .agg #[.string (strOfNums f.b), .int .i64 ((f.b.length : Int) - f.safe)]
def filesOf (l : List (Nm × FA)) : List (ByteArray × Value) := l.map (fun p => (str p.1, fval p.2))
theorem not_before {l : List (Nm × FA)} (hr : Rising l) {i : Nat} {p : Nm × FA} (hp : l[i]? = some p) : ∀ q ∈ l.take i, q.1 ≠ p.1 := by
  intro q hq e
  obtain ⟨j, hj, hqe⟩ := List.getElem_of_mem hq
  rw [List.length_take] at hj
  have hji : j < i := by omega
  have hjl : j < l.length := by omega
  have h1 : l[j] = q := by rw [← hqe, List.getElem_take]
  obtain ⟨hil, hpe⟩ := List.getElem?_eq_some_iff.1 hp
  have h2 := List.pairwise_iff_getElem.1 hr j i hjl hil hji
  rw [h1, hpe, e] at h2
  exact List.lt_irrefl _ h2
theorem files_next {l : List (Nm × FA)} (hr : Rising l) {i : Nat} {p : Nm × FA} (hp : l[i]? = some p) : ((str p.1, fval p.2) :: HStrMap.without (filesOf (l.take i)) (str p.1)).Perm (filesOf (l.take (i + 1))) := by
  have h1 : HStrMap.without (filesOf (l.take i)) (str p.1) = filesOf (l.take i) := by
    unfold HStrMap.without
    refine List.filter_eq_self.2 (fun q hq => ?_)
    obtain ⟨r, hr2, rfl⟩ := List.mem_map.1 hq
    have := not_before hr hp r hr2
    simp only [Bool.not_eq_true', decide_eq_false_iff_not]
    exact fun e => this (str_inj e)
  obtain ⟨hil, hpe⟩ := List.getElem?_eq_some_iff.1 hp
  rw [h1, List.take_succ_eq_append_getElem hil, hpe]
  unfold filesOf
  rw [List.map_append]
  exact (List.perm_append_comm (l₁ := [(str p.1, fval p.2)])).trans (.refl _)
theorem filesOf_vals (l : List (Nm × FA)) : ∀ p ∈ filesOf l, ∃ s x, p.2 = .agg #[.string s, .int .i64 x] := fun p hp => by
  obtain ⟨q, _, rfl⟩ := List.mem_map.1 hp
  exact ⟨_, _, rfl⟩
/-- The names are names. -/
def Named (l : List (Nm × FA)) : Prop := ∀ p ∈ l, vN p.1 = true
theorem vN_len {n : Nm} (h : vN n = true) : n.length ≤ 40 := by unfold vN at h; simp only [Bool.and_eq_true, decide_eq_true_eq] at h; exact h.2
theorem findP_of {S : DA} (hr : Rising S.files) {p : Nm × FA} (hp : p ∈ S.files) (hv : vN p.1 = true) : findP S p.1 = (p.2, 0) := by
  unfold findP
  rw [if_neg (by rw [hv]; decide), mem_get hr hp]
theorem files_below {w wr w6 w9 : World} {gm : Nat} (h0 : Below w.heap.size w wr) (h1 : Below wr.heap.size wr w6) (h2 : w6.grownBy w9 (some gm)) (hg : w.heap.size ≤ gm) : Below w.heap.size w w9 := by
  have h3 := below_step h0 h1
  exact pw_below_grown h3 _ h3.size h2 (fun k e => by cases e; exact hg)
theorem files_keep {wr w6 w9 : World} {gm k : Nat} (h1 : Below wr.heap.size wr w6) (h2 : w6.grownBy w9 (some gm)) (hk : k < wr.heap.size) (hne : k ≠ gm) : w9.heap[k]? = wr.heap[k]? :=
  (h2.block k (Nat.lt_of_lt_of_le hk h1.size) (fun e => hne (Option.some.inj e))).trans (h1.block k hk)
set_option maxHeartbeats 8000000 in
set_option maxRecDepth 100000 in
theorem files_at (gd B : Nat) (φ : Nat → Tg) (S : DA) (w : World) (h : DAt w φ B gd S) (hO : Ok S) (hV : Named S.files) :
    Calls Try.prog 14 #[.pointer (some ⟨gd, 0, none⟩)] w fun e w' => ∃ m n, e = .returned (.map (some m)) ∧ HStrMap.Owns m35 w' m n (filesOf S.files) ∧ w.heap.size ≤ m ∧ Below w.heap.size w w' ∧ n ≤ 100000 := by
  have HD := Aside0.mk h
  have HO := Aside0.mk hO
  have HV := Aside0.mk hV
  have HRI : Aside0 (Rising S.files) := ⟨by obtain ⟨_, _, _, _, _, _, _, hd, _⟩ := h; exact hd.rise⟩
  have HLL := Aside0.mk (list_at gd B φ S _ (h.below (below_alloc (Below.refl w.heap.size w) (.map #[] 0))) hO.fl)
  have hmm := @run_makeMap Try.prog
  clear h hO hV
  go_enter Try.func14, Try.ntmps14
  go_upto_region 2 with (fail)
  have HOW := Aside0.mk (HStrMap.owns_made m35 w)
  have HB1 := Aside0.mk (below_alloc (Below.refl w.heap.size w) (.map #[] 0))
  obtain ⟨gm, hgm⟩ : ∃ gm, gm = w.heap.size := ⟨_, rfl⟩
  rw [← hgm] at HOW ⊢
  have HGM := Aside0.mk hgm
  clear hgm
  generalize w.alloc (.map #[] 0) = w1 at HLL HOW HB1 ⊢
  go_upto_region 3 with (go_at_call 16; refine HLL.out.mono ?_; rintro e w2 ⟨v, rfl, hv, hb⟩; obtain ⟨AN, cN, rfl, hnl, hnc⟩ := names_cell hv; have HNC := Aside0.mk hnc; have HB2 := Aside0.mk hb; clear hv hb hnc)
  simp only [List.length_map] at *
  go_loopw [14] (fun v14 wr => ∃ i : Nat, i ≤ S.files.length ∧ v14 = .int .i64 i ∧ Aside0 (HStrMap.Owns m35 wr gm i (filesOf (S.files.take i))) ∧ Aside0 (Below w.heap.size w wr) ∧ Aside0 (∀ k, w1.heap.size ≤ k → k < w2.heap.size → wr.heap[k]? = w2.heap[k]?) ∧ Aside0 (w2.heap.size ≤ wr.heap.size)) (fun v14 _ => S.files.length - (intOf v14).toNat)
  case atStart => exact ⟨0, Nat.zero_le _, rfl, ⟨by rw [List.take_zero]; exact HOW.out.move (HB2.out.block gm HOW.out.lt)⟩, ⟨below_step HB1.out HB2.out⟩, ⟨fun _ _ _ => rfl⟩, ⟨Nat.le_refl _⟩⟩
  case round =>
    obtain ⟨i, hi, rfl, HOW2, HB2, HK2, HS2⟩ := hrel
    rename World => wr
    by_cases hlt : i < S.files.length
    · obtain ⟨p, hp⟩ : ∃ p, S.files[i]? = some p := ⟨_, List.getElem?_eq_getElem hlt⟩
      have HP := Aside0.mk hp
      have hnm : (S.files.map Prod.fst).getD i [] = p.1 := by rw [List.getD_eq_getElem?_getD, List.getElem?_map, hp]; rfl
      obtain ⟨ad, rfl, had, hnc⟩ := HNC.out i hlt
      rw [hnm] at hnc
      have hnc2 : wr.cell? (ad.add i) = some (.string (str p.1)) := (World.cell?_of_block (HK2.out _ had (World.block_lt_of_cell? w2 (ad.add i) hnc))).trans hnc
      have hpm : p ∈ S.files := List.mem_of_getElem? hp
      have hfp := findP_of HRI.out hpm (HV.out p hpm)
      have hsz : (str p.1).size ≤ maxLen := by have := vN_len (HV.out p hpm); rw [str_size]; unfold maxLen; omega
      have hle := HO.out.small.len p hpm
      have hsn := HO.out.sane p hpm
      have hnl0 := HO.out.nl p hpm
      have HRD := Aside0.mk (read_at gd B φ S p.1 wr (HD.out.below HB2.out) hnl0 (by rw [hfp]; exact hle))
      rw [hfp] at HRD
      have HLO : Aside0 (∀ W, Below w.heap.size w W → Calls Try.prog 30 #[.pointer (some ⟨gd, 0, none⟩), .string (str p.1)] W fun e w' => e = .returned (.tuple #[.int .i64 (p.2.b.length - p.2.safe), .int .i64 0]) ∧ Below W.heap.size W w') := ⟨fun W hb => by have h1 := loose_at gd B φ S p.1 W (HD.out.below hb) hnl0 (by rw [hfp]; exact hle) (by rw [hfp]; exact hsn.1) (by rw [hfp]; exact hsn.2); rw [hfp] at h1; exact h1⟩
      have HSZ := Aside0.mk hsz
      have HLE := Aside0.mk hle
      clear hnm hnc had hpm hfp hsz hle hsn hnl0 hp
      go_upto_region 7 with (first | (go_at_call 23; refine HRD.out.mono ?_; rintro e w5 ⟨AB, cB, rfl, hR, hb⟩; have HRB := Aside0.mk hR; have HB5 := Aside0.mk hb; clear hR hb) | (go_at_call 30; refine (HLO.out _ (below_step HB2.out HB5.out)).mono ?_; rintro e w6 ⟨rfl, hb⟩; have HB6 := Aside0.mk hb; clear hb))
      have hcv : (convert 30 9 (.slice AB p.2.b.length cB)).run Try.prog w6 = .ok (.string (strOfNums p.2.b)) w6 := Kd.C_string Try.underlying30 Try.underlying5 Try.underlying9 (Kd.C_below (Kd.R_reads' HRB.out).2.2 HB6.out)
      have HB7 := Aside0.mk (below_step HB5.out HB6.out)
      have HOQ := Aside0.mk (HOW2.out.move (HB7.out.block gm HOW2.out.lt))
      have HIL : Aside0 (i < maxLen) := ⟨by have := HO.out.fl; unfold maxLen; omega⟩
      go_wp2_with (at_mapUpdate; (with_reducible refine HStrMap.wp_store m35 _ rfl (.tmp 30) (.tmp 31) (.tmp 35) rfl gm i _ ?g1 HOQ.out HIL.out (str p.1) ?g3 HSZ.out (fval p.2) ?g4 ?_); (case g1 => rfl); (case g3 => rfl); (case g4 => rfl); intro w9 ho9 hg9 hs9; have HO9 := Aside0.mk ho9; have HG9 := Aside0.mk hg9; clear ho9 hg9 hs9)
      go_roundw
      case rel => exact ⟨i + 1, by omega, by go_num, ⟨HO9.out.perm (files_next HRI.out HP.out)⟩, ⟨files_below HB2.out HB7.out HG9.out (by rw [HGM.out]; exact Nat.le_refl _)⟩, ⟨fun k h1 h2 => (files_keep HB7.out HG9.out (Nat.lt_of_lt_of_le h2 HS2.out) (fun e => by have := HOW.out.lt; omega)).trans (HK2.out k h1 h2)⟩, ⟨Nat.le_trans HS2.out (Nat.le_trans HB7.out.size HG9.out.size)⟩⟩
      case measure => simp [intOf]; omega
    · obtain rfl : i = S.files.length := by omega
      go_wp2
      go_ret
      refine ⟨gm, S.files.length, rfl, ?_, by rw [HGM.out]; exact Nat.le_refl _, HB2.out, HO.out.fl⟩
      have := HOW2.out
      rw [List.take_length] at this
      exact this
def SameRel (w : World) (a rr na : Nat) (l : List (ByteArray × Value)) (wq : World) : Prop := ∃ (todo : List (ByteArray × Value)) (cnt : Nat), Aside0 (HStrMap.Ranges m35 wq a rr na l todo cnt) ∧ Aside0 (Below w.heap.size w wq)
set_option maxHeartbeats 8000000 in
set_option maxRecDepth 100000 in
theorem same_at (a b na nb : Nat) (l l' : List (ByteArray × Value)) (w : World) (ha : HStrMap.Owns m35 w a na l) (hb : HStrMap.Owns m35 w b nb l') (hp : l.Perm l') (hv : ∀ p ∈ l, ∃ s x, p.2 = .agg #[.string s, .int .i64 x]) :
    Calls Try.prog 18 #[.map (some a), .map (some b)] w fun e w' => e = .returned (.bool true) ∧ Below w.heap.size w w' := by
  have HA := Aside0.mk ha
  have HBB := Aside0.mk hb
  have HP := Aside0.mk hp
  have HV := Aside0.mk hv
  have HSZ : Aside0 (∀ p ∈ l, p.1.size ≤ maxLen) := ⟨by obtain ⟨_, _, _, _, h4⟩ := ha; exact h4⟩
  clear ha hb hp hv
  obtain ⟨rr, hrr0⟩ : ∃ rr, rr = w.heap.size := ⟨_, rfl⟩
  have HRR := Aside0.mk hrr0
  clear hrr0
  go_enter Try.func18, Try.ntmps18
  go_upto_region 2 with (at_range; (with_reducible refine HStrMap.wp_range m35 _ rfl (.tmp 9) rfl a na _ ?h1 HA.out ?_); (case h1 => rfl); intro w9 cnt hr9 hg9 hs9; have RG := Aside0.mk hr9; have HB9 := Aside0.mk (pw_below_grown (Below.refl w.heap.size w) none (Nat.le_refl _) hg9 (fun k e => by cases e)); clear hr9 hg9 hs9)
  rw [← HRR.out]
  rw [← HRR.out] at RG
  go_frame
  go_loopw [5] (fun v5 wq => SameRel w a rr na l wq) (fun v5 wq => wq.rangeLeft a rr)
  case atStart => exact ⟨_, cnt, RG, HB9⟩
  case round =>
    obtain ⟨todo, cnt, RQ, HBQ⟩ := hrel
    rename World => wq
    clear RG HB9
    go_wp2_with (at_next; (with_reducible refine HStrMap.wp_next m35 _ rfl (.tmp 10) rfl a rr na cnt _ todo ?h1 RQ.out ?_ ?_); (case h1 => rfl))
    · intro hdone
      clear hdone
      have hl1 := fun ty => HStrMap.run_len m35 (HA.out.move (HBQ.out.block a HA.out.lt)) ty
      have hl2 := fun ty => HStrMap.run_len m35 (HBB.out.move (HBQ.out.block b HBB.out.lt)) ty
      rw [← HP.out.length_eq] at hl2
      go_wp2
      go_ret
      exact ⟨rfl, HBQ.out⟩
    · intro s v todo' w9 cnt9 hsz hperm hr9 hlt9 hg9 hs9 hen
      have RG9 := Aside0.mk hr9
      have HLT := Aside0.mk hlt9
      have HB9 := Aside0.mk (pw_below_grown HBQ.out _ (below_size HBQ.out) hg9 (fun k e => by cases e; rw [HRR.out]; exact Nat.le_refl _))
      have hmem := RQ.out.mem (s, v) (hperm.mem_iff.2 List.mem_cons_self)
      obtain ⟨t, x, rfl⟩ := HV.out _ hmem
      have hlk0 : HStrMap.look l' s = some (.agg #[.string t, .int .i64 x]) := (HStrMap.look_some HBB.out.nodup).2 (HP.out.mem_iff.1 hmem)
      have HLK : Aside0 (∀ W, Below w9.heap.size w9 W → (Instr.lookup 35 (.map (some b)) (.string s) true).run Try.prog W = .ok (.tuple #[.agg #[.string t, .int .i64 x], .bool true]) W) := ⟨fun W hb => by have h1 := HStrMap.run_look2 m35 (HBB.out.move ((below_step HB9.out hb).block b HBB.out.lt)) hsz; rw [hlk0] at h1; exact h1⟩
      have HB0 := Aside0.mk (Below.refl w9.heap.size w9)
      clear hsz hperm hr9 hlt9 hg9 hs9 hmem hlk0
      go_upto_region 4 with (first | ((with_reducible refine gate_dst (N := 6) rfl ?_); refine box_event ?hg (N := 6) ?hd (cs := #[.string ByteArray.empty, .int .i64 0]) (t := 42) ?hr ?_; (case hd => rfl); (case hg => rfl); (case hr => first | (go_simp; done) | (go_simp; rfl)); intro g6 hg w3 hbox hb; have BX := Aside0.mk hbox; have HX := Aside0.mk hb; have HG := Aside0.mk hg; have bc0 := (blk_cell hbox 0).trans (show _ = some (.string ByteArray.empty) from rfl); have bc1 := (blk_cell hbox 1).trans (show _ = some (.int .i64 0) from rfl); have bz := fun j => blk_frozen hbox j; clear hbox hb hg))
      have s0 := blk_put (cs' := #[.string t, .int .i64 x]) (blk_put (cs' := #[.string t, .int .i64 0]) BX.out 0 (.string t) rfl) 1 (.int .i64 x) rfl
      have hge : w9.heap.size ≤ g6 := by rw [HG.out]; exact below_size HB0.out
      have hbn := (below_set (j := 1) (v := .int .i64 x) (below_set (j := 0) (v := .string t) (below_step HB0.out HX.out) hge) hge)
      generalize World.setCell (World.setCell w3 ⟨g6, 0, none⟩ (.string t)) ⟨g6, 1, none⟩ (.int .i64 x) = w4 at s0 hbn ⊢
      have S6 := Aside0.mk s0
      have B6 := Aside0.mk hbn
      have hlk := HLK.out _ B6.out
      clear s0 hbn hge BX HX HG bz bc0 bc1
      go_upto_region 5 with (first | ((with_reducible refine gate_dst (N := 7) rfl ?_); refine box_event ?hg (N := 7) ?hd (cs := #[.string ByteArray.empty, .int .i64 0]) (t := 42) ?hr ?_; (case hd => rfl); (case hg => rfl); (case hr => first | (go_simp; done) | (go_simp; rfl)); intro g7 hg w3 hbox hb; have BX := Aside0.mk hbox; have HX := Aside0.mk hb; have HG := Aside0.mk hg; have bc0 := (blk_cell hbox 0).trans (show _ = some (.string ByteArray.empty) from rfl); have bc1 := (blk_cell hbox 1).trans (show _ = some (.int .i64 0) from rfl); have bz := fun j => blk_frozen hbox j; clear hbox hb hg))
      have S6b := Aside0.mk (blk_below S6.out HX.out)
      have hne : g6 ≠ g7 := by rw [HG.out]; exact Nat.ne_of_lt (blk_lt S6.out)
      have s6 := blk_far (blk_far S6b.out (p := ⟨g7, 0, none⟩) hne (.string t)) (p := ⟨g7, 1, none⟩) hne (.int .i64 x)
      have s0 := blk_put (cs' := #[.string t, .int .i64 x]) (blk_put (cs' := #[.string t, .int .i64 0]) BX.out 0 (.string t) rfl) 1 (.int .i64 x) rfl
      have hge : w9.heap.size ≤ g7 := by rw [HG.out]; exact below_size B6.out
      have hbn := (below_set (j := 1) (v := .int .i64 x) (below_set (j := 0) (v := .string t) (below_step B6.out HX.out) hge) hge)
      generalize World.setCell (World.setCell w3 ⟨g7, 0, none⟩ (.string t)) ⟨g7, 1, none⟩ (.int .i64 x) = w6 at s0 s6 hbn ⊢
      have B7 := Aside0.mk hbn
      have c60 := (blk_cell s6 0).trans (show _ = some (.string t) from rfl)
      have c61 := (blk_cell s6 1).trans (show _ = some (.int .i64 x) from rfl)
      have c70 := (blk_cell s0 0).trans (show _ = some (.string t) from rfl)
      have c71 := (blk_cell s0 1).trans (show _ = some (.int .i64 x) from rfl)
      clear s0 s6 hbn hge BX HX HG bz bc0 bc1 hlk hne
      go_wp2
      go_roundw
      case rel => exact ⟨todo', cnt9, ⟨RG9.out.move (B7.out.block a RG9.out.owns.lt) (B7.out.block rr RG9.out.lt)⟩, ⟨below_step HB9.out B7.out⟩⟩
      case measure => rw [HStrMap.Ranges.left (HStrMap.Ranges.move RG9.out (B7.out.block a RG9.out.owns.lt) (B7.out.block rr RG9.out.lt)), HStrMap.Ranges.left RQ.out]; exact HLT.out
end Go.Proofs.Yteibdmpjlpcgbaa.XDisk
