/- linear.key. -/
import Derived.Test.YtjieagpfnnbiiaaBHLin5
namespace Go.Proofs.Ytjieagpfnnbiiaa.XLin
open Go Go.RowKit Go.Proofs.YtjieagpfnnbiiaaW.PrintWords Go.Proofs.YtjieagpfnnbiiaaW.PrintLast Go.Proofs.YtjieagpfnnbiiaaW.PrintMore
open Go.Proofs.Ytjieagpfnnbiiaa
set_option linter.unusedVariables false
set_option linter.unusedSimpArgs false
def r30_6.T : Bool × List (List Nat × List Nat) := (true, [([], []), ([], []), ([1], [1]), ([0, 2], [0, 2]), ([], []), ([4], [4]), ([3, 5, 3], [3, 5]), ([6, 6, 0, 1, 2, 3, 4, 5, 6], [0, 6])])
def r30_6.B : List Nat := [0, 0, 2, 7, 0, 16, 63, 127]
theorem r30_6.tab : rtab .any (opsOf Try.f30 6) = r30_6.T := by kernel_rfl
theorem r30_6.bits : waitsOk r30_6.T.2 r30_6.B = true := by kernel_rfl
set_option maxRecDepth 100000 in
theorem append_str_step {ops : Array Oper} {o : Oper} {a : Act} {W : World} {Kc : Act → World → Prop} {Q : Exit → Act → World → Prop} (hg : o.guard = none) (s x : Operand) (hop : o.op = Op.call { callee := Callee.builtin Builtin.append, args := #[s, x], argTypes := #[66, 9] })
    (base : Nat) (v : Value) (xs : List Int) (y : ByteArray) (hs : a.eval s = v) (hx : a.eval x = .string y) (HO : Kd.R (Kd.int .u8) 5 W base (fun _ => True) v xs) (hbase : base ≤ W.heap.size) (hl : xs.length + y.size ≤ 140737488355328)
    (h : ∀ A1 c1 w1, Kd.R (Kd.int .u8) 5 w1 base (fun _ => True) (.slice A1 (xs ++ bytesOf y).length c1) (xs ++ bytesOf y) → W.grownBy w1 v.ownBlock → Kc (a.put o.dst (.slice A1 (xs ++ bytesOf y).length c1)) w1) :
    if Region.wanted o (yielded ops a.tmps) = true then Oper.wp Try.prog o a W Kc Q else Kc (a.put o.dst undef) W := by
  have hw : Region.wanted o (yielded ops a.tmps) = true := by simp [Region.wanted, hg]
  rw [if_pos hw]
  obtain ⟨i0, hi, hzz⟩ := Option.map_eq_some_iff.1 infoU8
  simp only [Prod.mk.injEq] at hzz
  obtain ⟨v', w', hr, ho, hgr, _⟩ := Lib.run_append_own_string (P := Try.prog) (w := W) base 66 9 o.type 5 i0 Try.underlying66 Try.underlying9 hi hzz.1 hzz.2.1 hzz.2.2 v xs.length _ (own_of_R HO) y (by unfold maxLen; omega) hl hbase
  have hl2 : (xs ++ bytesOf y).length = xs.length + y.size := by rw [List.length_append, bytesOf_length]
  have hc : nums .u8 (xs ++ bytesOf y) = nums .u8 xs ++ Lib.strCells y := by
    rw [nums_append]
    congr 1
    simp [nums, bytesOf, Lib.strCells]
  have hR : Kd.R (Kd.int .u8) 5 w' base (fun _ => True) v' (xs ++ bytesOf y) := R_of_own (by rw [hl2, hc]; exact ho)
  obtain ⟨A1, c1, rfl⟩ := R_form hR
  unfold Oper.wp
  have hk := h A1 c1 w' hR hgr
  simp only [execOp, hop, resolve, invoke, builtin, Sem.run_bind, Sem.run_pure, Result.andThen_ok, List.map_toArray, List.map_cons, List.map_nil, hs, hx, hr]
  exact hk
theorem lit_C {k : IntKind} {W : World} {g t : Nat} {cs : Array Value} {fr : Nat × Nat} (xs : List Int) (h : W.heap[g]? = some (.cells cs t fr)) (hcs : cs = (xs.map (Value.int k)).toArray) (hl : xs.length ≤ 1000) : Kd.C (Kd.int k) W (some ⟨g, 0, none⟩) xs.length xs := by
  subst hcs
  refine ⟨rfl, by omega, fun _ => ⟨_, rfl, fun j p hj => ⟨[.int k p], rfl, rfl, fun i u hu => ?_⟩⟩⟩
  obtain rfl : i = 0 := by have := (List.getElem?_eq_some_iff.1 hu).1; simp at this; exact this
  obtain rfl : Value.int k p = u := by simpa using hu
  have hs : (Kd.int k).sz = 1 := rfl
  rw [hs, Nat.mul_one, Nat.add_zero, Addr.add_lit, Nat.zero_add]
  unfold World.cell?
  simp [h, hj]
/-- A pair in a key. -/
def pairKey (p : S25) : List Int := [(p.f0.size : Int) % 256, (p.f1.size : Int) / 256, (p.f1.size : Int) % 256] ++ bytesOf p.f0 ++ bytesOf p.f1
def keyP (done : List Int) (m : List S25) : ByteArray := strOfNums (done ++ m.flatMap pairKey)
set_option maxHeartbeats 8000000 in
set_option maxRecDepth 100000 in
theorem key30 (D : Option Addr) (cd : Nat) (done : List Int) (A : Option Addr) (c : Nat) (m : List S25) (w : World) (hd : Kd.C (Kd.int .u8) w D done.length done) (hdc : done.length ≤ cd) (hdl : done.length ≤ 1000000) (hm : Kd.C k25 w A m.length m) (hmc : m.length ≤ c) (hml : m.length ≤ 1000000) (hsm : ∀ p ∈ m, p.f0.size ≤ 900 ∧ p.f1.size ≤ 900) :
    Calls Try.prog 30 #[.slice D done.length cd, .slice A m.length c] w fun e w' => e = .returned (.string (keyP done m)) ∧ Below w.heap.size w w' := by
  have HD := Aside0.mk hd
  have HDC := Aside0.mk hdc
  have HM := Aside0.mk hm
  have HMC := Aside0.mk hmc
  clear hd hdc hm hmc
  obtain ⟨r, hr⟩ : ∃ r, keyP done m = r := ⟨_, rfl⟩
  rw [hr]
  have HR := Aside0.mk hr
  clear hr
  go_enter Try.func30, Try.ntmps30
  go_upto_region 2 with (go_at_call 53; refine (clone53_at D cd done _ HD.out HDC.out hdl).mono ?_; rintro e w5 ⟨A1, c1, rfl, hR, hb⟩; have HO := Aside0.mk hR; have HB := Aside0.mk hb; clear hR hb)
  go_upto_region 3 with (fail)
  go_loopw [5, 12] (fun v5 v12 wr => ∃ (i : Nat) (out : List Int) (Ao : Option Addr) (no co : Nat), i ≤ m.length ∧ v5 = .slice Ao no co ∧ v12 = .int .i64 (i : Int) ∧ Aside0 (no = out.length) ∧ Aside0 (strOfNums (out ++ (m.drop i).flatMap pairKey) = r) ∧ Aside0 (out.length ≤ 1000000 + i * 2000) ∧ Aside0 (Kd.R (Kd.int .u8) 5 wr w.heap.size (fun _ => True) (.slice Ao no co) out) ∧ Aside0 (Below w.heap.size w wr)) (fun v5 v12 _ => m.length - (intOf v12).toNat)
  case atStart => exact ⟨0, done, A1, _, c1, Nat.zero_le _, rfl, rfl, ⟨rfl⟩, ⟨by rw [List.drop_zero]; exact HR.out⟩, ⟨by omega⟩, HO, HB⟩
  case round =>
    clear HO HB
    obtain ⟨i, out, Ao, no, co, hi, rfl, rfl, HNO, HEQ, HLEN, HO, HB⟩ := hrel
    rename World => wr
    by_cases hlt : i < m.length
    · obtain ⟨ad, e0, x0, x1⟩ := at_T25 (Kd.C_below HM.out HB.out) (i : Int) (by omega) (by omega)
      rw [rd25_nat] at x0 x1
      simp only [Int.toNat_natCast] at x0 x1
      subst e0
      have heq := HEQ.out
      rw [List.drop_eq_getElem_cons hlt, List.flatMap_cons] at heq
      have hgd : m.getD i z25 = m[i] := by rw [List.getD_eq_getElem?_getD, List.getElem?_eq_getElem hlt]; rfl
      have hsz := hsm m[i] (List.getElem_mem hlt)
      rw [hgd] at x0 x1
      obtain ⟨p, hp⟩ : ∃ p, m[i] = p := ⟨_, rfl⟩
      rw [hp] at x0 x1 heq hsz
      have HEQ2 := Aside0.mk heq
      clear heq hgd hp HEQ
      go_upto_region 5 with (first | ((with_reducible refine gate_dst (N := 7) rfl ?_); refine box_event ?hg (N := 7) ?hd (cs := #[.string ByteArray.empty, .string ByteArray.empty]) (t := 25) ?hr ?_; (case hd => rfl); (case hg => rfl); (case hr => first | (go_simp; done) | (go_simp; rfl)); intro g7 hg w3 hbox hb; have GE_g7 : Aside0 (w.heap.size ≤ g7) := ⟨by rw [hg]; exact below_size HB.out⟩; have n_HO := Aside0.mk (Kd.R_mono (ok' := fun k => k ≠ g7) (Kd.R_move (Kd.R_bound HO.out) (fun k hk => hb.block k hk.2.2.1)) (fun k hk => by rw [hg]; exact Nat.ne_of_lt hk.2.2.1)); clear HO; have HO := n_HO; clear n_HO; have n_HB := Aside0.mk (below_step HB.out hb); clear HB; have HB := n_HB; clear n_HB; have B7 := Aside0.mk hbox; clear hg hbox hb; have bB7_0 := (blk_cell B7.out 0).trans (show _ = some (.string ByteArray.empty) from rfl); have bB7_1 := (blk_cell B7.out 1).trans (show _ = some (.string ByteArray.empty) from rfl); have bB7_f := fun j => blk_frozen B7.out j))
      clear x0 x1
      clear bB7_0 bB7_1 bB7_f
      rename World => wz
      have s0 := blk_put (cs' := #[.string p.f0, .string ByteArray.empty]) B7.out 0 (.string p.f0) rfl
      have h0 := below_set (j := 0) (v := .string p.f0) HB.out GE_g7.out
      have s1 := blk_put (cs' := #[.string p.f0, .string p.f1]) s0 1 (.string p.f1) rfl
      have h1 := below_set (j := 1) (v := .string p.f1) h0 GE_g7.out
      have hs : ∀ k, k ≠ g7 → (World.setCell (World.setCell wz ⟨g7, 0, none⟩ (.string p.f0)) ⟨g7, 1, none⟩ (.string p.f1)).heap[k]? = wz.heap[k]? := fun k hk => ((Below.heap_setCell (World.setCell wz ⟨g7, 0, none⟩ (.string p.f0)) ⟨g7, 1, none⟩ (.string p.f1) k hk).trans (Below.heap_setCell wz ⟨g7, 0, none⟩ (.string p.f0) k hk))
      generalize (World.setCell (World.setCell wz ⟨g7, 0, none⟩ (.string p.f0)) ⟨g7, 1, none⟩ (.string p.f1)) = wa at s1 h1 hs ⊢
      have n_HO := Aside0.mk (Kd.R_move HO.out (fun k hk => hs k hk)); have n_HB := Aside0.mk (h1); clear HO HB; have HO := n_HO; have HB := n_HB; clear n_HO n_HB
      clear B7
      have B7 := Aside0.mk s1
      clear hs s0 s1 h0 h1
      have bB7_0 := (blk_cell B7.out 0).trans (show _ = some (.string p.f0) from rfl)
      have bB7_1 := (blk_cell B7.out 1).trans (show _ = some (.string p.f1) from rfl)
      have bB7_f := fun j => blk_frozen B7.out j
      go_upto_region 6 with (first | ((with_reducible refine gate_dst (N := 30) rfl ?_); refine lit_event ?hg (cs := #[.int .u8 ((p.f0.size : Int) % 256), .int .u8 ((p.f1.size : Int) / 256), .int .u8 ((p.f1.size : Int) % 256)]) (t := 5) (k := 3) ?hr ?_; (case hg => rfl); (case hr => first | (go_simp; done) | (go_simp; rfl)); intro vb hg w3 hbox hb; have n_B7 := Aside0.mk (blk_below B7.out hb); have n_HO := Aside0.mk (Kd.R_mono (Kd.R_move (Kd.R_bound HO.out) (fun k hk => hb.block k hk.2.2.1)) (fun k hk => hk.1)); have n_HB := Aside0.mk (below_step HB.out hb); clear B7 HO HB; have B7 := n_B7; have HO := n_HO; have HB := n_HB; clear n_B7 n_HO n_HB; have BV := Aside0.mk (lit_C (k := .u8) [(p.f0.size : Int) % 256, (p.f1.size : Int) / 256, (p.f1.size : Int) % 256] hbox rfl (by simp)); clear hg hbox hb; clear bB7_0 bB7_1 bB7_f; have bB7_0 := (blk_cell B7.out 0).trans (show _ = some (.string p.f0) from rfl); have bB7_1 := (blk_cell B7.out 1).trans (show _ = some (.string p.f1) from rfl); have bB7_f := fun j => blk_frozen B7.out j) | ((with_reducible refine gate_builtin (b := .append) (xs := #[.tmp 16, .tmp 30]) rfl ?_); at_builtin; (refine Kd.R_append_row (Value.int .u8) 0 (w0 := w) w.heap.size rfl (.tmp 16) (.tmp 30) 66 5 (.int .u8 0) 1 rfl Try.underlying66 infoU8 rfl (by omega) _ out [(p.f0.size : Int) % 256, (p.f1.size : Int) / 256, (p.f1.size : Int) % 256] _ _ _ (fun k => k ≠ g7) rfl rfl (fun k hk => by have := blk_lt B7.out; omega) HO.out BV.out HB.out (below_size HB.out) (by have h := HLEN.out; (try simp only [List.length_cons, List.length_nil]); omega) ?_); intro v1 w1 ho hb hg hat; have n_B7 := Aside0.mk ((hg.block g7 (blk_lt B7.out) (fun e => (HO.out.1 g7 e.symm) rfl)).trans B7.out); clear B7 HB HO; have B7 := n_B7; have HB := Aside0.mk hb; clear n_B7; obtain ⟨o5, ho5⟩ : ∃ o5, out ++ [(p.f0.size : Int) % 256, (p.f1.size : Int) / 256, (p.f1.size : Int) % 256] = o5 := ⟨_, rfl⟩; rw [ho5] at ho; have HO5 := Aside0.mk ho5; obtain ⟨A5, c5, hv5⟩ := R_form ho; subst hv5; have HO := Aside0.mk ho; clear ho hb hg hat ho5; clear bB7_0 bB7_1 bB7_f; have bB7_0 := (blk_cell B7.out 0).trans (show _ = some (.string p.f0) from rfl); have bB7_1 := (blk_cell B7.out 1).trans (show _ = some (.string p.f1) from rfl); have bB7_f := fun j => blk_frozen B7.out j))
      clear BV
      clear bB7_0 bB7_1 bB7_f
      have H5L : Aside0 (o5.length = out.length + 3) := ⟨by rw [← HO5.out, List.length_append]; rfl⟩
      have hln := HLEN.out
      rename World => w6
      have HSZ := Aside0.mk hsz
      clear hsz
      refine start_ (n := 8) (S := fun w' => w'.heap[g7]? = some (.cells #[.string p.f0, .string p.f1] 25 (0, 0))) (ds := []) #[false, false, false, false, false, false, false, false] (by kernel_rfl) rfl rfl (B7.out) (fun hHeld => ?_)
      refine with_tabW r30_6.tab r30_6.bits (fun HT_ HW_ => ?_)
      refine pure_ (i := 0) (N := some 32) (v := ?_) (a' := ?_) #[true, false, false, false, false, false, false, false] rfl rfl (any_of HT_.out (by kernel_rfl)) (fun _ _ _ h => h) (Or.inl ⟨by rfl, ?_⟩) ?_ ?_
      rotate_left
      · intro w'
        go_simp
        with_reducible rfl
      rotate_left
      · simp only [Act.put, List.setIfInBounds_toArray, List.set_cons_zero, List.set_cons_succ, i64_w, i32_w]
        rfl
      refine pure_ (i := 1) (N := some 33) (v := ?_) (a' := ?_) #[true, true, false, false, false, false, false, false] rfl rfl (any_of HT_.out (by kernel_rfl)) (fun _ _ _ h => h) (Or.inl ⟨by rfl, ?_⟩) ?_ ?_
      rotate_left
      · intro w'
        go_simp
        with_reducible rfl
      rotate_left
      · simp only [Act.put, List.setIfInBounds_toArray, List.set_cons_zero, List.set_cons_succ, i64_w, i32_w]
        rfl
      refine take_ (i := 2) (N := some 34) (v := ?_) (a' := ?_) #[true, true, true, false, false, false, false, false] rfl rfl (take_ofW HT_.out HW_.out (by kernel_rfl)) (fun _ _ _ h => h) (Or.inl ⟨by rfl, ?_⟩) hHeld ?_ ?_
      rotate_left
      · rintro w' hbq
        have c_0 := (blk_cell hbq 0).trans (show _ = some (.string p.f0) from rfl)
        have c_1 := (blk_cell hbq 1).trans (show _ = some (.string p.f1) from rfl)
        go_simp
        with_reducible rfl
      rotate_left
      · simp only [Act.put, List.setIfInBounds_toArray, List.set_cons_zero, List.set_cons_succ, i64_w, i32_w]
        rfl
      refine pure_ (i := 4) (N := some 36) (v := ?_) (a' := ?_) #[true, true, true, false, true, false, false, false] rfl rfl (any_of HT_.out (by kernel_rfl)) (fun _ _ _ h => h) (Or.inl ⟨by rfl, ?_⟩) ?_ ?_
      rotate_left
      · intro w'
        go_simp
        with_reducible rfl
      rotate_left
      · simp only [Act.put, List.setIfInBounds_toArray, List.set_cons_zero, List.set_cons_succ, i64_w, i32_w]
        rfl
      refine take_ (i := 5) (N := some 37) (v := ?_) (a' := ?_) #[true, true, true, false, true, true, false, false] rfl rfl (take_ofW HT_.out HW_.out (by kernel_rfl)) (fun _ _ _ h => h) (Or.inl ⟨by rfl, ?_⟩) hHeld ?_ ?_
      rotate_left
      · rintro w' hbq
        have c_0 := (blk_cell hbq 0).trans (show _ = some (.string p.f0) from rfl)
        have c_1 := (blk_cell hbq 1).trans (show _ = some (.string p.f1) from rfl)
        go_simp
        with_reducible rfl
      rotate_left
      · simp only [Act.put, List.setIfInBounds_toArray, List.set_cons_zero, List.set_cons_succ, i64_w, i32_w]
        rfl
      refine one_ (i := 3) (N := some 35) #[true, true, true, true, true, true, false, false] rfl rfl (one_of HT_.out (by kernel_rfl)) (by decide) (fun K hK => ?_)
      refine append_str_step rfl (.tmp 32) (.tmp 34) rfl w.heap.size _ o5 p.f0 (by first | rfl | (go_simp; done) | (go_simp; rfl)) (by first | rfl | (go_simp; done) | (go_simp; rfl)) (Kd.R_mono (Kd.R_drew HO.out) (fun _ _ => trivial)) (below_size (below_drew HB.out)) (by have := H5L.out; have := HSZ.out; (try rw [H6L.out]); omega) ?_
      intro A6 c6 w7 hR hg
      have hS : w7.heap[g7]? = some (.cells #[.string p.f0, .string p.f1] 25 (0, 0)) := (hg.block g7 (blk_lt B7.out) (fun e => (HO.out.1 g7 e.symm) rfl)).trans B7.out
      have HB7 := Aside0.mk (pw_below_grown (below_drew HB.out) _ (below_size (below_drew HB.out)) hg (fun k e => ((Kd.R_bound HO.out).1 k e).2.1))
      have H6L : Aside0 ((o5 ++ bytesOf p.f0).length = o5.length + p.f0.size) := ⟨by rw [List.length_append, bytesOf_length]⟩
      obtain ⟨o6, ho6⟩ : ∃ o6, o5 ++ bytesOf p.f0 = o6 := ⟨_, rfl⟩
      rw [ho6] at hR H6L ⊢
      have HO6 := Aside0.mk ho6
      have HN7 : Aside0 (some g7 ≠ (Value.slice A6 o6.length c6).ownBlock) := ⟨OwnRow.ne_block hR.2 hS (by decide)⟩
      have HR7 := Aside0.mk hR
      have HS7 := Aside0.mk hS
      refine hK.out _ _ hS (fun hHeld => ?_)
      clear hK K hS hR hg ho6
      refine norm_ (a' := ?_) ?_ ?_
      rotate_left
      · show Act.put _ (some 35) _ = _
        simp only [Act.put, List.setIfInBounds_toArray, List.set_cons_zero, List.set_cons_succ, i64_w, i32_w]
        rfl
      refine one_ (i := 6) (N := some 38) #[true, true, true, true, true, true, true, false] rfl rfl (one_of HT_.out (by kernel_rfl)) (by decide) (fun K hK => ?_)
      refine append_str_step rfl (.tmp 35) (.tmp 37) rfl w.heap.size _ o6 p.f1 (by first | rfl | (go_simp; done) | (go_simp; rfl)) (by first | rfl | (go_simp; done) | (go_simp; rfl)) HR7.out (below_size HB7.out) (by have := H5L.out; have := HSZ.out; (try rw [H6L.out]); omega) ?_
      intro A8 c8 w8 hR hg
      have hS : w8.heap[g7]? = some (.cells #[.string p.f0, .string p.f1] 25 (0, 0)) := (hg.block g7 (blk_lt HS7.out) HN7.out).trans HS7.out
      have HB8 := Aside0.mk (pw_below_grown HB7.out _ (below_size HB7.out) hg (fun k e => ((Kd.R_bound HR7.out).1 k e).2.1))
      have H8L : Aside0 ((o6 ++ bytesOf p.f1).length = o6.length + p.f1.size) := ⟨by rw [List.length_append, bytesOf_length]⟩
      obtain ⟨o8, ho8⟩ : ∃ o8, o6 ++ bytesOf p.f1 = o8 := ⟨_, rfl⟩
      rw [ho8] at hR H8L ⊢
      have HO8 := Aside0.mk ho8
      obtain ⟨n8, hn8⟩ : ∃ n8, o8.length = n8 := ⟨_, rfl⟩
      rw [hn8] at hR ⊢
      have HN8 := Aside0.mk hn8.symm
      have HR8 := Aside0.mk hR
      refine hK.out _ _ hS (fun hHeld => ?_)
      clear hK K hS hR hg ho8 hn8
      refine norm_ (a' := ?_) ?_ ?_
      rotate_left
      · show Act.put _ (some 38) _ = _
        simp only [Act.put, List.setIfInBounds_toArray, List.set_cons_zero, List.set_cons_succ, i64_w, i32_w]
        rfl
      refine pure_ (i := 7) (N := some 5) (v := ?_) (a' := ?_) #[true, true, true, true, true, true, true, true] rfl rfl (any_of HT_.out (by kernel_rfl)) (fun _ _ _ h => h) (Or.inl ⟨by rfl, ?_⟩) ?_ ?_
      rotate_left
      · intro w'
        go_simp
        with_reducible rfl
      rotate_left
      · simp only [Act.put, List.setIfInBounds_toArray, List.set_cons_zero, List.set_cons_succ, i64_w, i32_w]
        rfl
      refine done_ (done_of HT_.out (by kernel_rfl)) ?_
      go_wp2
      go_roundw
      case rel => exact ⟨i + 1, o8, A8, n8, c8, by omega, rfl, by go_num, HN8, ⟨by rw [← HEQ2.out, ← HO8.out, ← HO6.out, ← HO5.out]; unfold pairKey; simp only [List.append_assoc]⟩, ⟨by have h1 := H5L.out; have h2 := H6L.out; have h3 := H8L.out; have h4 := HSZ.out; have h5 := HLEN.out; omega⟩, HR8, HB8⟩
      case measure => simp [intOf]; omega
    · obtain rfl : i = m.length := by omega
      have hno := HNO.out
      subst hno
      have heq := HEQ.out
      rw [List.drop_length] at heq
      have HEQ2 : Aside0 (strOfNums out = r) := ⟨by rw [← heq]; simp⟩
      clear heq HEQ HNO
      have hcv : (convert 66 9 (.slice Ao out.length co)).run Try.prog wr = .ok (.string (strOfNums out)) wr := Kd.C_string Try.underlying66 Try.underlying5 Try.underlying9 (Kd.R_reads' HO.out).2.2
      rw [HEQ2.out] at hcv
      go_wp2
      go_ret
      exact ⟨rfl, HB.out⟩

end Go.Proofs.Ytjieagpfnnbiiaa.XLin
