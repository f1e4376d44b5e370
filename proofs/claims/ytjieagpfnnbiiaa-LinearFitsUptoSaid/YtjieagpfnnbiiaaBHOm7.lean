/- omap's Apply. -/
import Derived.Test.YtjieagpfnnbiiaaBHOm6
namespace Go.Proofs.Ytjieagpfnnbiiaa.XLin
open Go Go.RowKit Go.Proofs.YtjieagpfnnbiiaaW.PrintWords Go.Proofs.YtjieagpfnnbiiaaW.PrintLast Go.Proofs.YtjieagpfnnbiiaaW.PrintMore
open Go.Proofs.Ytjieagpfnnbiiaa
set_option linter.unusedVariables false
set_option linter.unusedSimpArgs false
theorem ikey_Right_some (a : ByteArray) (b c : Int) : ∃ r, ikey_Right.f a b c = some r := by
  unfold ikey_Right.f
  repeat' split
  all_goals exact ⟨_, rfl⟩
theorem ikey_Entry_some (a : ByteArray) (b c : Int) (d : ByteArray) : ∃ r, ikey_Entry.f a b c d = some r := by
  obtain ⟨t, ht⟩ := ikey_Right_some a b c
  unfold ikey_Entry.f
  rw [ht]
  simp only [Option.bind_some]
  repeat' split
  all_goals exact ⟨_, rfl⟩
theorem batch_Op_some (a : Int) (b c : ByteArray) : ∃ r, batch_Op.f a b c = some r := by
  obtain ⟨t, ht⟩ := ikey_Entry_some b 0 a c
  unfold batch_Op.f
  rw [ht]
  exact ⟨_, rfl⟩
/-- batch.Op. -/
def opOk (o : S71) : Bool := (batch_Op.f o.f0 o.f1 o.f2).getD false
theorem opOk_eq (o : S71) : batch_Op.f o.f0 o.f1 o.f2 = some (opOk o) := by
  obtain ⟨r, h⟩ := batch_Op_some o.f0 o.f1 o.f2
  unfold opOk
  rw [h]
  rfl
theorem op48 (o : S71) (w : World) : Calls Try.prog 48 #[.agg #[.int .u8 o.f0, .string o.f1, .string o.f2]] w fun e w' => e = .returned (.bool (opOk o)) ∧ Below w.heap.size w w' := batch_Op.calls _ _ _ _ w (opOk_eq o)
/-- omap.Apply: one op. -/
def applyOne (out : List S25) (o : S71) : List S25 :=
  if opOk o = false then out else if o.f0 = 0 then (if foundP out o.f1 = true then out.eraseIdx (searchP out o.f1) else out)
  else if foundP out o.f1 = true then out.set (searchP out o.f1) ⟨o.f1, o.f2⟩ else insP out (searchP out o.f1) ⟨o.f1, o.f2⟩
def applyP (m : List S25) (l : List S71) : List S25 := l.foldl applyOne m
theorem applyOne_len (out : List S25) (o : S71) : (applyOne out o).length ≤ out.length + 1 := by
  unfold applyOne
  repeat' split
  · omega
  · have := List.length_eraseIdx_le out (searchP out o.f1); omega
  · omega
  · rw [List.length_set]; omega
  · rw [insP_len _ (searchP_le out o.f1)]; omega
theorem rd71_nat (xs : List S71) (i : Nat) : rd_T71 xs (i : Int) = xs.getD i z71 := by unfold rd_T71; rw [Int.toNat_natCast]
theorem lit_event {P : Program} {ops : Array Oper} {rest : List Oper} {o : Oper} {a : Act} {Q : Exit → Act → World → Prop} {W : World} (hgd : o.guard = none) {cs : Array Value} {t : TypeId} {k : Nat}
    (hrun : (execOp a.eval o).run P W = .ok (.value (.slice (some ⟨W.heap.size, 0, none⟩) k k)) (W.alloc (.cells cs t (0, 0))))
    (h : ∀ g, g = W.heap.size → ∀ w1, w1.heap[g]? = some (.cells cs t (0, 0)) → Below W.heap.size W w1 → wpList P ops Q rest (a.put o.dst (.slice (some ⟨g, 0, none⟩) k k)) w1) : wpList P ops Q (o :: rest) a W :=
  Kd.event_run hgd hrun (h _ rfl _ (blk_new W _) (below_alloc (Below.refl _ _) _))
/-- An element of a row of one's own is stored. -/
theorem set25 {W : World} {base g c i : Nat} {xs : List S25} {p : S25} (h : Kd.R k25 25 W base (fun _ => True) (.slice (some ⟨g, 0, none⟩) xs.length c) xs) (hi : i < xs.length) :
    Kd.R k25 25 (World.setCell (World.setCell W ⟨g, i * 2, none⟩ (.string p.f0)) ⟨g, i * 2 + 1, none⟩ (.string p.f1)) base (fun _ => True) (.slice (some ⟨g, 0, none⟩) (xs.set i p).length c) (xs.set i p) := by
  obtain ⟨g', cur, hg, _, hb, hh, hnc, hc, hcs, ht⟩ := R_blk h
  simp only [Addr.mk.injEq, and_true] at hg
  subst hg
  obtain ⟨cur2, hh2, hcs2, ht2⟩ := setCells_row (e := 25) [.string p.f0, .string p.f1] (i * 2) W cur hh (by simp only [List.length_cons, List.length_nil]; omega)
  have hlen : (xs.set i p).length = xs.length := List.length_set
  refine R_mk hb hh2 (by omega) hc (by omega) ?_
  rw [hlen, ht2]
  have e1 : cur.toList.take (i * 2) = cellsP (xs.take i) := by rw [← cellsP_take, ← ht, List.take_take, Nat.min_eq_left (by omega)]
  have e2 : (cur.toList.drop (i * 2 + 2)).take (xs.length * 2 - (i * 2 + 2)) = cellsP (xs.drop (i + 1)) := by
    rw [← cellsP_drop, ← ht, show (i + 1) * 2 = i * 2 + 2 by omega, List.drop_take]
  have e3 : xs.set i p = xs.take i ++ p :: xs.drop (i + 1) := List.set_eq_take_append_cons_drop.trans (if_pos hi)
  rw [e1, e3, cellsP_append, cellsP_cons, ← e2]
  simp only [List.length_cons, List.length_nil, List.append_assoc, List.cons_append, List.nil_append]
  rw [List.take_append, List.take_of_length_le (by rw [cellsP_len, List.length_take]; omega), cellsP_len, List.length_take, Nat.min_eq_left (by omega)]
  congr 1
  rw [show xs.length * 2 - i * 2 = (xs.length * 2 - (i * 2 + 2)) + 1 + 1 by omega, List.take_succ_cons, List.take_succ_cons]
theorem cell25 {W : World} {base g c i : Nat} {xs : List S25} (h : Kd.R k25 25 W base (fun _ => True) (.slice (some ⟨g, 0, none⟩) xs.length c) xs) (hi : i < xs.length * 2) : ∃ v, W.cell? ⟨g, i, none⟩ = some v ∧ W.frozen? ⟨g, i, none⟩ = false := by
  obtain ⟨g', cur, hg, _, hb, hh, hnc, hc, hcs, ht⟩ := R_blk h
  simp only [Addr.mk.injEq, and_true] at hg
  subst hg
  obtain ⟨v, hv⟩ := Option.isSome_iff_exists.1 (row_some hh (j := i) (by omega))
  exact ⟨v, hv, blk_frozen hh _⟩
theorem own_base2 {W : World} {base : Nat} {ok : Nat → Prop} {v : Value} {xs : List S25} (h : Kd.R k25 25 W base ok v xs) (k : Nat) (hk : v.ownBlock = some k) : base ≤ k := ((Kd.R_bound h).1 k hk).2.1
set_option maxHeartbeats 8000000 in
set_option maxRecDepth 100000 in
theorem apply20 (A : Option Addr) (c : Nat) (m : List S25) (B : Option Addr) (b : Nat) (l : List S71) (w : World) (hr : Kd.C k25 w A m.length m) (hc : m.length ≤ c) (hl : Kd.C k71 w B l.length l) (hlc : l.length ≤ b) (hs : m.length + l.length ≤ 4398046511000) :
    Calls Try.prog 20 #[.slice A m.length c, .slice B l.length b] w fun e w' => ∃ A' c', e = .returned (.slice A' (applyP m l).length c') ∧ Kd.R k25 25 w' w.heap.size (fun _ => True) (.slice A' (applyP m l).length c') (applyP m l) ∧ Below w.heap.size w w' := by
  have HR := Aside0.mk hr
  have HC := Aside0.mk hc
  have HL := Aside0.mk hl
  have HLC := Aside0.mk hlc
  have hll : l.length ≤ 9223372036854775807 := hl.2.1
  clear hr hc hl hlc
  obtain ⟨res, hres⟩ : ∃ res, applyP m l = res := ⟨_, rfl⟩
  rw [hres]
  have HRES := Aside0.mk hres
  clear hres
  go_enter Try.func20, Try.ntmps20
  go_upto_region 2 with (go_at_call 38; refine (clone38 A c m _ HR.out HC.out (by omega)).mono ?_; rintro e w5 ⟨A1, c1, rfl, hR, hb⟩; have HO := Aside0.mk hR; have HB := Aside0.mk hb; clear hR hb)
  go_upto_region 3 with (fail)
  go_loopw [5, 15] (fun v5 v15 wr => ∃ (i : Nat) (out : List S25) (Ao : Option Addr) (no co : Nat), i ≤ l.length ∧ v5 = .slice Ao no co ∧ v15 = .int .i64 (i : Int) ∧ Aside0 (no = out.length) ∧ Aside0 (List.foldl applyOne out (l.drop i) = res) ∧ Aside0 (out.length ≤ m.length + i) ∧ Aside0 (Kd.R k25 25 wr w.heap.size (fun _ => True) (.slice Ao no co) out) ∧ Aside0 (Below w.heap.size w wr)) (fun v5 v15 _ => l.length - (intOf v15).toNat)
  case atStart => exact ⟨0, m, A1, _, c1, Nat.zero_le _, rfl, rfl, ⟨rfl⟩, ⟨by rw [List.drop_zero]; exact HRES.out⟩, ⟨Nat.le_refl _⟩, HO, HB⟩
  case round =>
    clear HO HB
    obtain ⟨i, out, Ao, no, co, hi, rfl, rfl, HNO, HEQ, HLEN, HO, HB⟩ := hrel
    rename World => wr
    have hno := HNO.out
    have hlen := HLEN.out
    subst hno
    clear HNO
    by_cases hlt : i < l.length
    · obtain ⟨ad, e0, x0, x1, x2⟩ := at_T71 (Kd.C_below HL.out HB.out) (i : Int) (by omega) (by omega)
      rw [rd71_nat] at x0 x1 x2
      simp only [Int.toNat_natCast] at x0 x1 x2
      subst e0
      have heq := HEQ.out
      rw [List.drop_eq_getElem_cons hlt, List.foldl_cons] at heq
      have hgd : l.getD i z71 = l[i] := by rw [List.getD_eq_getElem?_getD, List.getElem?_eq_getElem hlt]; rfl
      rw [hgd] at x0 x1 x2
      obtain ⟨o, ho⟩ : ∃ o, l[i] = o := ⟨_, rfl⟩
      rw [ho] at x0 x1 x2 heq
      obtain ⟨f0, f1, f2⟩ := o
      dsimp only at x0 x1 x2
      have HEQ2 := Aside0.mk heq
      clear heq hgd ho HEQ
      go_upto_region 5 with (first | ((with_reducible refine gate_dst (N := 7) rfl ?_); refine box_event ?hg (N := 7) ?hd (cs := #[.int .u8 0, .string ByteArray.empty, .string ByteArray.empty]) (t := 71) ?hr ?_; (case hd => rfl); (case hg => rfl); (case hr => first | (go_simp; done) | (go_simp; rfl)); intro g7 hg w3 hbox hb; have GE_g7 : Aside0 (w.heap.size ≤ g7) := ⟨by rw [hg]; exact below_size HB.out⟩; have n_HO := Aside0.mk (Kd.R_mono (ok' := fun k => k ≠ g7) (Kd.R_move (Kd.R_bound HO.out) (fun k hk => hb.block k hk.2.2.1)) (fun k hk => by rw [hg]; exact Nat.ne_of_lt hk.2.2.1)); clear HO; have HO := n_HO; clear n_HO; have n_HB := Aside0.mk (below_step HB.out hb); clear HB; have HB := n_HB; clear n_HB; have B7 := Aside0.mk hbox; clear hg hbox hb; have bB7_0 := (blk_cell B7.out 0).trans (show _ = some (.int .u8 0) from rfl); have bB7_1 := (blk_cell B7.out 1).trans (show _ = some (.string ByteArray.empty) from rfl); have bB7_2 := (blk_cell B7.out 2).trans (show _ = some (.string ByteArray.empty) from rfl); have bB7_f := fun j => blk_frozen B7.out j))
      clear x0 x1 x2
      clear bB7_0 bB7_1 bB7_2 bB7_f
      rename World => wz
      have s0 := blk_put (cs' := #[.int .u8 f0, .string ByteArray.empty, .string ByteArray.empty]) B7.out 0 (.int .u8 f0) rfl
      have h0 := below_set (j := 0) (v := .int .u8 f0) HB.out GE_g7.out
      have s1 := blk_put (cs' := #[.int .u8 f0, .string f1, .string ByteArray.empty]) s0 1 (.string f1) rfl
      have h1 := below_set (j := 1) (v := .string f1) h0 GE_g7.out
      have s2 := blk_put (cs' := #[.int .u8 f0, .string f1, .string f2]) s1 2 (.string f2) rfl
      have h2 := below_set (j := 2) (v := .string f2) h1 GE_g7.out
      have hs : ∀ k, k ≠ g7 → (World.setCell (World.setCell (World.setCell wz ⟨g7, 0, none⟩ (.int .u8 f0)) ⟨g7, 1, none⟩ (.string f1)) ⟨g7, 2, none⟩ (.string f2)).heap[k]? = wz.heap[k]? := fun k hk => ((Below.heap_setCell (World.setCell (World.setCell wz ⟨g7, 0, none⟩ (.int .u8 f0)) ⟨g7, 1, none⟩ (.string f1)) ⟨g7, 2, none⟩ (.string f2) k hk).trans ((Below.heap_setCell (World.setCell wz ⟨g7, 0, none⟩ (.int .u8 f0)) ⟨g7, 1, none⟩ (.string f1) k hk).trans (Below.heap_setCell wz ⟨g7, 0, none⟩ (.int .u8 f0) k hk)))
      generalize (World.setCell (World.setCell (World.setCell wz ⟨g7, 0, none⟩ (.int .u8 f0)) ⟨g7, 1, none⟩ (.string f1)) ⟨g7, 2, none⟩ (.string f2)) = wa at s2 h2 hs ⊢
      have n_HO := Aside0.mk (Kd.R_move HO.out (fun k hk => hs k hk)); have n_HB := Aside0.mk (h2); clear HO HB; have HO := n_HO; have HB := n_HB; clear n_HO n_HB
      clear B7
      have B7 := Aside0.mk s2
      clear hs s0 s1 s2 h0 h1 h2
      have bB7_0 := (blk_cell B7.out 0).trans (show _ = some (.int .u8 f0) from rfl)
      have bB7_1 := (blk_cell B7.out 1).trans (show _ = some (.string f1) from rfl)
      have bB7_2 := (blk_cell B7.out 2).trans (show _ = some (.string f2) from rfl)
      have bB7_f := fun j => blk_frozen B7.out j
      obtain ⟨at_, hat⟩ : ∃ at_, searchP out f1 = at_ := ⟨_, rfl⟩
      obtain ⟨fb, hfb⟩ : ∃ fb, foundP out f1 = fb := ⟨_, rfl⟩
      have HAT := Aside0.mk hat
      have HFB := Aside0.mk hfb
      have hle : at_ ≤ out.length := by rw [← hat]; exact searchP_le out f1
      have HFL : Aside0 (fb = true → at_ < out.length) := ⟨fun h => by rw [← hat]; exact foundP_lt (hfb.trans h)⟩
      obtain ⟨ok, hok⟩ : ∃ ok, opOk ⟨f0, f1, f2⟩ = ok := ⟨_, rfl⟩
      have HOK := Aside0.mk hok
      have hap : applyOne out ⟨f0, f1, f2⟩ = if ok = false then out else if f0 = 0 then (if fb = true then out.eraseIdx at_ else out) else if fb = true then out.set at_ ⟨f1, f2⟩ else insP out at_ ⟨f1, f2⟩ := by unfold applyOne; rw [hok, hfb, hat]
      have HAP := Aside0.mk hap
      clear hat hfb hok hap
      go_upto_region 6 with (first | (go_at_call 47; refine (find47 Ao co out f1 _ (Kd.R_reads' HO.out).2.2 (by omega)).mono ?_; rw [HAT.out, HFB.out]; rintro e w5 ⟨rfl, hb⟩; have n_B7 := Aside0.mk (blk_below B7.out hb); have n_HO := Aside0.mk (Kd.R_mono (Kd.R_move (Kd.R_bound HO.out) (fun k hk => hb.block k hk.2.2.1)) (fun k hk => hk.1)); have n_HB := Aside0.mk (below_step HB.out hb); clear B7 HO HB; have B7 := n_B7; have HO := n_HO; have HB := n_HB; clear n_B7 n_HO n_HB; clear hb; clear bB7_0 bB7_1 bB7_2 bB7_f; have bB7_0 := (blk_cell B7.out 0).trans (show _ = some (.int .u8 f0) from rfl); have bB7_1 := (blk_cell B7.out 1).trans (show _ = some (.string f1) from rfl); have bB7_2 := (blk_cell B7.out 2).trans (show _ = some (.string f2) from rfl); have bB7_f := fun j => blk_frozen B7.out j))
      go_upto_region 8 with (first | ((with_reducible refine gate_dst (N := 10) rfl ?_); refine box_event ?hg (N := 10) ?hd (cs := #[.string ByteArray.empty, .string ByteArray.empty]) (t := 25) ?hr ?_; (case hd => rfl); (case hg => rfl); (case hr => first | (go_simp; done) | (go_simp; rfl)); intro g10 hg w3 hbox hb; have NE_g7_g10 : Aside0 (g7 ≠ g10) := ⟨by rw [hg]; exact Nat.ne_of_lt (blk_lt B7.out)⟩; have GE_g10 : Aside0 (w.heap.size ≤ g10) := ⟨by rw [hg]; exact below_size HB.out⟩; have n_HO := Aside0.mk (Kd.R_mono (ok' := fun k => k ≠ g7 ∧ k ≠ g10) (Kd.R_move (Kd.R_bound HO.out) (fun k hk => hb.block k hk.2.2.1)) (fun k hk => ⟨hk.1, by rw [hg]; exact Nat.ne_of_lt hk.2.2.1⟩)); clear HO; have HO := n_HO; clear n_HO; have n_B7 := Aside0.mk (blk_below B7.out hb); have n_HB := Aside0.mk (below_step HB.out hb); clear B7 HB; have B7 := n_B7; have HB := n_HB; clear n_B7 n_HB; have B10 := Aside0.mk hbox; clear hg hbox hb; have bB10_0 := (blk_cell B10.out 0).trans (show _ = some (.string ByteArray.empty) from rfl); have bB10_1 := (blk_cell B10.out 1).trans (show _ = some (.string ByteArray.empty) from rfl); have bB10_f := fun j => blk_frozen B10.out j; clear bB7_0 bB7_1 bB7_2 bB7_f; have bB7_0 := (blk_cell B7.out 0).trans (show _ = some (.int .u8 f0) from rfl); have bB7_1 := (blk_cell B7.out 1).trans (show _ = some (.string f1) from rfl); have bB7_2 := (blk_cell B7.out 2).trans (show _ = some (.string f2) from rfl); have bB7_f := fun j => blk_frozen B7.out j))
      clear bB10_0 bB10_1 bB10_f
      clear bB7_0 bB7_1 bB7_2 bB7_f
      rename World => wz
      have s0 := blk_put (cs' := #[.string f1, .string ByteArray.empty]) B10.out 0 (.string f1) rfl
      have h0 := below_set (j := 0) (v := .string f1) HB.out GE_g10.out
      have s1 := blk_put (cs' := #[.string f1, .string f2]) s0 1 (.string f2) rfl
      have h1 := below_set (j := 1) (v := .string f2) h0 GE_g10.out
      have hs : ∀ k, k ≠ g10 → (World.setCell (World.setCell wz ⟨g10, 0, none⟩ (.string f1)) ⟨g10, 1, none⟩ (.string f2)).heap[k]? = wz.heap[k]? := fun k hk => ((Below.heap_setCell (World.setCell wz ⟨g10, 0, none⟩ (.string f1)) ⟨g10, 1, none⟩ (.string f2) k hk).trans (Below.heap_setCell wz ⟨g10, 0, none⟩ (.string f1) k hk))
      generalize (World.setCell (World.setCell wz ⟨g10, 0, none⟩ (.string f1)) ⟨g10, 1, none⟩ (.string f2)) = wb at s1 h1 hs ⊢
      have n_B7 := Aside0.mk ((hs g7 NE_g7_g10.out).trans B7.out); have n_HO := Aside0.mk (Kd.R_move HO.out (fun k hk => hs k hk.2)); have n_HB := Aside0.mk (h1); clear B7 HO HB; have B7 := n_B7; have HO := n_HO; have HB := n_HB; clear n_B7 n_HO n_HB
      clear B10
      have B10 := Aside0.mk s1
      clear hs s0 s1 h0 h1
      have bB7_0 := (blk_cell B7.out 0).trans (show _ = some (.int .u8 f0) from rfl)
      have bB7_1 := (blk_cell B7.out 1).trans (show _ = some (.string f1) from rfl)
      have bB7_2 := (blk_cell B7.out 2).trans (show _ = some (.string f2) from rfl)
      have bB7_f := fun j => blk_frozen B7.out j
      have bB10_0 := (blk_cell B10.out 0).trans (show _ = some (.string f1) from rfl)
      have bB10_1 := (blk_cell B10.out 1).trans (show _ = some (.string f2) from rfl)
      have bB10_f := fun j => blk_frozen B10.out j
      by_cases hkf : ok = false
      · have hk : ok = false := hkf
        subst hk
        have hap := HAP.out
        rw [if_pos rfl] at hap
        have HA := Aside0.mk hap
        clear hap HAP
        go_wp2_with (first | (go_at_call 48; refine (op48 ⟨f0, f1, f2⟩ _).mono ?_; rw [HOK.out]; rintro e w5 ⟨rfl, hb⟩; have n_B7 := Aside0.mk (blk_below B7.out hb); have n_B10 := Aside0.mk (blk_below B10.out hb); have n_HO := Aside0.mk (Kd.R_mono (Kd.R_move (Kd.R_bound HO.out) (fun k hk => hb.block k hk.2.2.1)) (fun k hk => hk.1)); have n_HB := Aside0.mk (below_step HB.out hb); clear B7 B10 HO HB; have B7 := n_B7; have B10 := n_B10; have HO := n_HO; have HB := n_HB; clear n_B7 n_B10 n_HO n_HB; clear hb; clear bB7_0 bB7_1 bB7_2 bB7_f bB10_0 bB10_1 bB10_f; have bB7_0 := (blk_cell B7.out 0).trans (show _ = some (.int .u8 f0) from rfl); have bB7_1 := (blk_cell B7.out 1).trans (show _ = some (.string f1) from rfl); have bB7_2 := (blk_cell B7.out 2).trans (show _ = some (.string f2) from rfl); have bB7_f := fun j => blk_frozen B7.out j; have bB10_0 := (blk_cell B10.out 0).trans (show _ = some (.string f1) from rfl); have bB10_1 := (blk_cell B10.out 1).trans (show _ = some (.string f2) from rfl); have bB10_f := fun j => blk_frozen B10.out j))
        go_roundw
        case rel => exact ⟨i + 1, out, Ao, _, co, by omega, rfl, by go_num, ⟨rfl⟩, ⟨by rw [← HEQ2.out, HA.out]⟩, ⟨by have h := applyOne_len out ⟨f0, f1, f2⟩; rw [HA.out] at h; omega⟩, ⟨Kd.R_mono HO.out (fun _ _ => trivial)⟩, HB⟩
        case measure => simp [intOf]; omega
      · have hk : ok = true := by simpa using hkf
        subst hk
        clear hkf
        by_cases h0 : f0 = 0
        · subst h0
          cases fb with
          | true =>
            have hap := HAP.out
            rw [if_neg (by decide), if_pos rfl, if_pos rfl] at hap
            have HA := Aside0.mk hap
            clear hap HAP
            have hfl := HFL.out rfl
            obtain ⟨g, cap, hv9, hgb, _⟩ := Kd.R_form HO.out (by omega)
            simp only [Value.slice.injEq] at hv9
            obtain ⟨rfl, _, rfl⟩ := hv9
            have HFL2 := Aside0.mk hfl
            clear hfl
            go_wp2_with (first | (go_at_call 48; refine (op48 ⟨0, f1, f2⟩ _).mono ?_; rw [HOK.out]; rintro e w5 ⟨rfl, hb⟩; have n_B7 := Aside0.mk (blk_below B7.out hb); have n_B10 := Aside0.mk (blk_below B10.out hb); have n_HO := Aside0.mk (Kd.R_mono (Kd.R_move (Kd.R_bound HO.out) (fun k hk => hb.block k hk.2.2.1)) (fun k hk => hk.1)); have n_HB := Aside0.mk (below_step HB.out hb); clear B7 B10 HO HB; have B7 := n_B7; have B10 := n_B10; have HO := n_HO; have HB := n_HB; clear n_B7 n_B10 n_HO n_HB; clear hb; clear bB7_0 bB7_1 bB7_2 bB7_f bB10_0 bB10_1 bB10_f; have bB7_0 := (blk_cell B7.out 0).trans (show _ = some (.int .u8 0) from rfl); have bB7_1 := (blk_cell B7.out 1).trans (show _ = some (.string f1) from rfl); have bB7_2 := (blk_cell B7.out 2).trans (show _ = some (.string f2) from rfl); have bB7_f := fun j => blk_frozen B7.out j; have bB10_0 := (blk_cell B10.out 0).trans (show _ = some (.string f1) from rfl); have bB10_1 := (blk_cell B10.out 1).trans (show _ = some (.string f2) from rfl); have bB10_f := fun j => blk_frozen B10.out j) | (go_at_call 49; refine (delete49p _ co at_ w.heap.size out _ (Kd.R_mono HO.out (fun _ _ => trivial)) HFL2.out (by omega)).mono ?_; rintro e w6 ⟨rfl, hR, hg⟩; have n_HB := Aside0.mk (pw_below_grown HB.out _ (below_size HB.out) hg (fun k e => by cases e; exact hgb)); clear HB; have HB := n_HB; clear n_HB; have HO2 := Aside0.mk hR; clear hR hg))
            go_roundw
            case rel => exact ⟨i + 1, out.eraseIdx at_, _, _, co, by omega, rfl, by go_num, ⟨rfl⟩, ⟨by rw [← HEQ2.out, HA.out]⟩, ⟨by have h := applyOne_len out ⟨0, f1, f2⟩; rw [HA.out] at h; omega⟩, HO2, HB⟩
            case measure => simp [intOf]; omega
          | false =>
            have hap := HAP.out
            rw [if_neg (by decide), if_pos rfl, if_neg (by decide)] at hap
            have HA := Aside0.mk hap
            clear hap HAP
            go_wp2_with (first | (go_at_call 48; refine (op48 ⟨0, f1, f2⟩ _).mono ?_; rw [HOK.out]; rintro e w5 ⟨rfl, hb⟩; have n_B7 := Aside0.mk (blk_below B7.out hb); have n_B10 := Aside0.mk (blk_below B10.out hb); have n_HO := Aside0.mk (Kd.R_mono (Kd.R_move (Kd.R_bound HO.out) (fun k hk => hb.block k hk.2.2.1)) (fun k hk => hk.1)); have n_HB := Aside0.mk (below_step HB.out hb); clear B7 B10 HO HB; have B7 := n_B7; have B10 := n_B10; have HO := n_HO; have HB := n_HB; clear n_B7 n_B10 n_HO n_HB; clear hb; clear bB7_0 bB7_1 bB7_2 bB7_f bB10_0 bB10_1 bB10_f; have bB7_0 := (blk_cell B7.out 0).trans (show _ = some (.int .u8 0) from rfl); have bB7_1 := (blk_cell B7.out 1).trans (show _ = some (.string f1) from rfl); have bB7_2 := (blk_cell B7.out 2).trans (show _ = some (.string f2) from rfl); have bB7_f := fun j => blk_frozen B7.out j; have bB10_0 := (blk_cell B10.out 0).trans (show _ = some (.string f1) from rfl); have bB10_1 := (blk_cell B10.out 1).trans (show _ = some (.string f2) from rfl); have bB10_f := fun j => blk_frozen B10.out j))
            go_roundw
            case rel => exact ⟨i + 1, out, Ao, _, co, by omega, rfl, by go_num, ⟨rfl⟩, ⟨by rw [← HEQ2.out, HA.out]⟩, ⟨by have h := applyOne_len out ⟨0, f1, f2⟩; rw [HA.out] at h; omega⟩, ⟨Kd.R_mono HO.out (fun _ _ => trivial)⟩, HB⟩
            case measure => simp [intOf]; omega
        · have y0 : (f0 == 0) = false := beq_false_of_ne h0
          cases fb with
          | true =>
            have hap := HAP.out
            rw [if_neg (by decide), if_neg h0, if_pos rfl] at hap
            have HA := Aside0.mk hap
            clear hap HAP
            have hfl := HFL.out rfl
            obtain ⟨g, cap, hv9, hgb, _⟩ := Kd.R_form HO.out (by omega)
            simp only [Value.slice.injEq] at hv9
            obtain ⟨rfl, _, rfl⟩ := hv9
            go_upto_region 13 with (first | (go_at_call 48; refine (op48 ⟨f0, f1, f2⟩ _).mono ?_; rw [HOK.out]; rintro e w5 ⟨rfl, hb⟩; have n_B7 := Aside0.mk (blk_below B7.out hb); have n_B10 := Aside0.mk (blk_below B10.out hb); have n_HO := Aside0.mk (Kd.R_mono (Kd.R_move (Kd.R_bound HO.out) (fun k hk => hb.block k hk.2.2.1)) (fun k hk => hk.1)); have n_HB := Aside0.mk (below_step HB.out hb); clear B7 B10 HO HB; have B7 := n_B7; have B10 := n_B10; have HO := n_HO; have HB := n_HB; clear n_B7 n_B10 n_HO n_HB; clear hb; clear bB7_0 bB7_1 bB7_2 bB7_f bB10_0 bB10_1 bB10_f; have bB7_0 := (blk_cell B7.out 0).trans (show _ = some (.int .u8 f0) from rfl); have bB7_1 := (blk_cell B7.out 1).trans (show _ = some (.string f1) from rfl); have bB7_2 := (blk_cell B7.out 2).trans (show _ = some (.string f2) from rfl); have bB7_f := fun j => blk_frozen B7.out j; have bB10_0 := (blk_cell B10.out 0).trans (show _ = some (.string f1) from rfl); have bB10_1 := (blk_cell B10.out 1).trans (show _ = some (.string f2) from rfl); have bB10_f := fun j => blk_frozen B10.out j))
            have HO1 := Aside0.mk (Kd.R_mono HO.out (ok' := fun _ => True) (fun _ _ => trivial))
            obtain ⟨y0, hy0, hz0⟩ := cell25 HO1.out (i := at_ * 2) (by omega)
            obtain ⟨y1, hy1, hz1⟩ := cell25 HO1.out (i := at_ * 2 + 1) (by omega)
            have hfi : (at_ : Int) < (out.length : Int) := by omega
            go_wp2
            clear hy0 hz0 hy1 hz1
            clear bB7_0 bB7_1 bB7_2 bB7_f bB10_0 bB10_1 bB10_f
            have HO2 := Aside0.mk (set25 (p := ⟨f1, f2⟩) HO1.out hfl)
            have n_HB := Aside0.mk (below_set (j := at_ * 2 + 1) (v := .string f2) (below_set (j := at_ * 2) (v := .string f1) HB.out hgb) hgb)
            clear HB
            have HB := n_HB
            clear n_HB
            go_roundw
            case rel => exact ⟨i + 1, out.set at_ ⟨f1, f2⟩, _, out.length, co, by omega, rfl, by go_num, ⟨List.length_set.symm⟩, ⟨by rw [← HEQ2.out, HA.out]⟩, ⟨by have h := applyOne_len out ⟨f0, f1, f2⟩; rw [HA.out] at h; omega⟩, ⟨by have h := HO2.out; rw [List.length_set] at h; exact h⟩, HB⟩
            case measure => simp [intOf]; omega
          | false =>
            have hap := HAP.out
            rw [if_neg (by decide), if_neg h0, if_neg (by decide)] at hap
            have HA := Aside0.mk hap
            clear hap HAP
            go_wp2_with (first | (go_at_call 48; refine (op48 ⟨f0, f1, f2⟩ _).mono ?_; rw [HOK.out]; rintro e w5 ⟨rfl, hb⟩; have n_B7 := Aside0.mk (blk_below B7.out hb); have n_B10 := Aside0.mk (blk_below B10.out hb); have n_HO := Aside0.mk (Kd.R_mono (Kd.R_move (Kd.R_bound HO.out) (fun k hk => hb.block k hk.2.2.1)) (fun k hk => hk.1)); have n_HB := Aside0.mk (below_step HB.out hb); clear B7 B10 HO HB; have B7 := n_B7; have B10 := n_B10; have HO := n_HO; have HB := n_HB; clear n_B7 n_B10 n_HO n_HB; clear hb; clear bB7_0 bB7_1 bB7_2 bB7_f bB10_0 bB10_1 bB10_f; have bB7_0 := (blk_cell B7.out 0).trans (show _ = some (.int .u8 f0) from rfl); have bB7_1 := (blk_cell B7.out 1).trans (show _ = some (.string f1) from rfl); have bB7_2 := (blk_cell B7.out 2).trans (show _ = some (.string f2) from rfl); have bB7_f := fun j => blk_frozen B7.out j; have bB10_0 := (blk_cell B10.out 0).trans (show _ = some (.string f1) from rfl); have bB10_1 := (blk_cell B10.out 1).trans (show _ = some (.string f2) from rfl); have bB10_f := fun j => blk_frozen B10.out j) | ((with_reducible refine gate_dst (N := 34) rfl ?_); refine lit_event ?hg (cs := #[.string f1, .string f2]) (t := 25) (k := 1) ?hr ?_; (case hg => rfl); (case hr => first | (go_simp; done) | (go_simp; rfl)); intro vb hg w3 hbox hb; have NEV : Aside0 (some vb ≠ (Value.slice Ao out.length co).ownBlock) := ⟨fun e => by have h := (Kd.R_bound HO.out).1 vb e.symm; rw [hg] at h; exact Nat.lt_irrefl _ h.2.2.1⟩; have n_B7 := Aside0.mk (blk_below B7.out hb); have n_B10 := Aside0.mk (blk_below B10.out hb); have n_HO := Aside0.mk (Kd.R_mono (Kd.R_move (Kd.R_bound HO.out) (fun k hk => hb.block k hk.2.2.1)) (fun k hk => hk.1)); have n_HB := Aside0.mk (below_step HB.out hb); clear B7 B10 HO HB; have B7 := n_B7; have B10 := n_B10; have HO := n_HO; have HB := n_HB; clear n_B7 n_B10 n_HO n_HB; have BV := Aside0.mk hbox; clear hg hbox hb) | (go_at_call 50; refine (insert50 w.heap.size out Ao co at_ ⟨f1, f2⟩ vb _ (Kd.R_mono HO.out (fun _ _ => trivial)) BV.out NEV.out hle (below_size HB.out) (by omega)).mono ?_; rintro e w6 ⟨A9, c9, rfl, hR, hg⟩; have n_HB := Aside0.mk (pw_below_grown HB.out _ (below_size HB.out) hg (fun k e => own_base2 HO.out k e)); clear HB; have HB := n_HB; clear n_HB; have HO2 := Aside0.mk hR; clear hR hg))
            go_roundw
            case rel => exact ⟨i + 1, insP out at_ ⟨f1, f2⟩, A9, _, c9, by omega, rfl, by go_num, ⟨rfl⟩, ⟨by rw [← HEQ2.out, HA.out]⟩, ⟨by have h := applyOne_len out ⟨f0, f1, f2⟩; rw [HA.out] at h; omega⟩, HO2, HB⟩
            case measure => simp [intOf]; omega
    · obtain rfl : i = l.length := by omega
      have heq := HEQ.out
      rw [List.drop_length, List.foldl_nil] at heq
      subst heq
      go_wp2
      go_ret
      exact ⟨Ao, co, rfl, HO.out, HB.out⟩

end Go.Proofs.Ytjieagpfnnbiiaa.XLin
