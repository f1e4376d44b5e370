/- LinearAlone's walk. -/
import Derived.Test.YtjieagpfnnbiiaaAHLin21
namespace Go.Proofs.Ytjieagpfnnbiiaa.XLin
open Go Go.RowKit Go.Proofs.YtjieagpfnnbiiaaW.PrintWords Go.Proofs.YtjieagpfnnbiiaaW.PrintLast Go.Proofs.YtjieagpfnnbiiaaW.PrintMore
open Go.Proofs.Ytjieagpfnnbiiaa
set_option linter.unusedVariables false
set_option linter.unusedSimpArgs false
def r3_26.T : Bool × List (List Nat × List Nat) := (true, [([], []), ([], []), ([], []), ([], []), ([3], [3]), ([], []), ([], []), ([6], [6]), ([5, 7], [5, 7]), ([8], [8]), ([], []), ([], []), ([10, 11], [10, 11]), ([12], [12]), ([0, 1, 0, 1, 5, 6, 7, 8, 9, 13], [0, 1]), ([14, 9, 0, 1, 5, 6, 7, 8, 9, 13], [9, 14]), ([2, 4, 0, 1, 2, 3, 4, 5, 6, 7, 8, 9, 10, 11, 12, 13, 14, 15], [2, 4]), ([16, 13, 15, 0, 1, 2, 3, 4, 5, 6, 7, 8, 9, 10, 11, 12, 13, 14, 15], [13, 16])])
def r3_26.B : List Nat := [0, 0, 0, 0, 8, 0, 0, 64, 224, 480, 0, 0, 3072, 7168, 16355, 32739, 65535, 131071]
theorem r3_26.tab : rtab .any (opsOf Try.f3 26) = r3_26.T := by kernel_rfl
theorem r3_26.bits : waitsOk r3_26.T.2 r3_26.B = true := by kernel_rfl
def r3_27.T : Bool × List (List Nat × List Nat) := (true, [([], []), ([], []), ([], []), ([0, 1, 2], [0, 1, 2]), ([3, 3], [3]), ([4], [4]), ([4], [4]), ([4], [4]), ([7, 4], [4, 7]), ([5, 6, 8, 4, 4], [4, 5, 6, 8]), ([4, 9], [4, 9]), ([10, 9], [10]), ([11], [11]), ([11], [11]), ([11], [11]), ([11], [11]), ([14, 15, 11, 11], [11, 14, 15]), ([11], [11]), ([17, 11], [11, 17]), ([18, 11], [11, 18]), ([19, 11], [11, 19]), ([16, 20, 16, 11], [11, 16, 20]), ([12, 13, 21, 21, 11], [11, 12, 13, 21]), ([11, 22], [11, 22])])
def r3_27.B : List Nat := [0, 0, 0, 7, 15, 31, 31, 31, 159, 511, 1023, 2047, 4095, 4095, 4095, 4095, 53247, 4095, 135167, 397311, 921599, 2084863, 4194303, 8388607]
theorem r3_27.tab : rtab .any (opsOf Try.f3 27) = r3_27.T := by kernel_rfl
theorem r3_27.bits : waitsOk r3_27.T.2 r3_27.B = true := by kernel_rfl
def r3_33.T : Bool × List (List Nat × List Nat) := (true, [([], []), ([], []), ([], []), ([], []), ([], []), ([3, 4], [3, 4]), ([5], [5]), ([6], [6]), ([2, 7], [2, 7]), ([], []), ([9], [9]), ([8, 10, 8], [8, 10]), ([0, 1, 0, 1, 2, 3, 4, 5, 6, 7, 8, 9, 10, 11], [0, 1]), ([12, 0, 1, 2, 3, 4, 5, 6, 7, 8, 9, 10, 11], [12]), ([13, 11, 11, 0, 1, 2, 3, 4, 5, 6, 7, 8, 9, 10, 11], [11, 13])])
def r3_33.B : List Nat := [0, 0, 0, 0, 0, 24, 56, 120, 252, 0, 512, 2044, 4095, 8191, 16383]
theorem r3_33.tab : rtab .any (opsOf Try.f3 33) = r3_33.T := by kernel_rfl
theorem r3_33.bits : waitsOk r3_33.T.2 r3_33.B = true := by kernel_rfl
theorem lit_step {P : Program} {ops : Array Oper} {o : Oper} {a : Act} {Q : Exit → Act → World → Prop} {Kc : Act → World → Prop} {W : World} (hw : Region.wanted o (yielded ops a.tmps) = true) {cs : Array Value} {t : TypeId} {k : Nat}
    (hrun : (execOp a.eval o).run P W = .ok (.value (.slice (some ⟨W.heap.size, 0, none⟩) k k)) (W.alloc (.cells cs t (0, 0))))
    (h : ∀ g, g = W.heap.size → ∀ w1, w1.heap[g]? = some (.cells cs t (0, 0)) → Below W.heap.size W w1 → Kc (a.put o.dst (.slice (some ⟨g, 0, none⟩) k k)) w1) : if Region.wanted o (yielded ops a.tmps) = true then Oper.wp P o a W Kc Q else Kc (a.put o.dst undef) W :=
  event_step hw hrun (h _ rfl _ (blk_new W _) (below_alloc (Below.refl _ _) _))
theorem fitsB {A : Option Addr} {c : Nat} {base : List S25} {L : Option Addr} {n cl : Nat} {l : List S36} {O : Option Addr} {k co : Nat} {order : List Int} {b : Bool} {w : World} (hb : fitsP base l order = b) (hn : n = l.length) (hk : k = order.length) (hm : Kd.C k25 w A base.length base) (hmc : base.length ≤ c) (hl : Kd.C k36 w L n l) (hlc : n ≤ cl) (ho : Kd.C (Kd.int .i64) w O k order) (hoc : k ≤ co) (hb0 : base.length ≤ 1000) (hl0 : n ≤ 1000) (hk0 : k ≤ 1000) (hops : ∀ x ∈ l, opsN x ≤ 1000) :
    Calls Try.prog 9 #[.slice A base.length c, .slice L n cl, .slice O k co] w fun e w' => e = .returned (.bool b) ∧ Below w.heap.size w w' := by
  subst hn
  subst hk
  subst hb
  exact fits9 A c base L cl l O co order w hm hmc hl hlc ho hoc (by omega) (by omega) (by omega) hops
theorem legalB {A : Option Addr} {c : Nat} {base : List S25} {L : Option Addr} {n cl : Nat} {l : List S36} {b : Bool} {w : World} (hb : legalP base l = b) (hn : n = l.length) (hm : Kd.C k25 w A base.length base) (hmc : base.length ≤ c) (hl : Kd.C k36 w L n l) (hlc : n ≤ cl) (hb0 : base.length ≤ 1000) (hops : ∀ x ∈ l, opsN x ≤ 1000) (hsm : Small base) :
    Calls Try.prog 10 #[.slice A base.length c, .slice L n cl] w fun e w' => e = .returned (.bool b) ∧ Below w.heap.size w w' := by
  subst hn
  subst hb
  exact legal10 A c base L cl l w hm hmc hl hlc (by omega) hops hsm
theorem mayB {A : Option Addr} {c : Nat} {base : List S25} {L : Option Addr} {n cl : Nat} {l : List S36} {most : Int} {b : Bool} {w : World} (hb : mayAll base l most = b) (hn : n = l.length) (hm : Kd.C k25 w A base.length base) (hmc : base.length ≤ c) (hl : Kd.C k36 w L n l) :
    Calls Try.prog 8 #[.slice A base.length c, .slice L n cl, .int .i64 most] w fun e w' => e = .returned (.bool b) ∧ Below w.heap.size w w' := by
  subst hn
  subst hb
  exact may8 A c base L cl l most w hm hmc hl
theorem alone0 (w : World) : Calls Try.prog 6 #[.slice none 0 0, .slice none 0 0] w fun e w' => ∃ L cl vm, e = .returned (.tuple #[.slice L 0 cl, vm]) ∧ Kd.N k36 36 w' w.heap.size (fun _ => True) (.slice L 0 cl) [] ∧ Below w.heap.size w w' := by
  have h := alone6 none 0 [] none 0 [] 0 w (Kd.C_nil _ _) (Nat.le_refl _) (Kd.C_nil _ _) (by simp) (fun x hx => by cases hx) (by simp)
  exact h
theorem own_cell {W : World} {base g n cap : Nat} {ok : Nat → Prop} {xs : List Int} (h : Kd.R (Kd.int .i64) 3 W base ok (.slice (some ⟨g, 0, none⟩) n cap) xs) (i : Nat) (hi : i < n) : W.cell? ⟨g, i, none⟩ = some (.int .i64 (xs.getD i 0)) ∧ W.frozen? ⟨g, i, none⟩ = false := by
  obtain ⟨c, hcl, hM, hcc, hfr⟩ := Kd.R_elem h 0 (i : Int) (by omega) (by omega)
  rw [Int.toNat_natCast] at hM hcc hfr
  have hM : c = [.int .i64 (xs.getD i 0)] := hM
  subst hM
  have h1 : (Kd.int IntKind.i64).sz = 1 := rfl
  have h2 := hcc 0 _ rfl
  have h3 := hfr 0
  rw [h1, Nat.mul_one, Nat.add_zero] at h2 h3
  exact ⟨h2, h3⟩
def ListRel (w : World) (calls : List S32) (g7 : Nat) (o7 : Obj) (v9 v30 : Value) (wr : World) : Prop :=
  ∃ (i : Nat) (L : Option Addr) (cl : Nat), i ≤ calls.length ∧ v9 = .slice L i cl ∧ v30 = .int .i64 (i : Int) ∧ Aside0 (Kd.N k36 36 wr w.heap.size (fun k => k ≠ g7) (.slice L i cl) ((calls.take i).map dOf)) ∧ Aside0 (wr.heap[g7]? = some o7) ∧ Aside0 (Below w.heap.size w wr)
def OrdRel (w6 : World) (l : List S36) (n : Nat) (v13 v53 : Value) (wr : World) : Prop :=
  ∃ (i : Nat) (O : Option Addr) (no co : Nat), i ≤ n ∧ v13 = .slice O no co ∧ v53 = .int .i64 (i : Int) ∧ Aside0 (no = (ordP l i).length) ∧ Aside0 (no ≤ i) ∧ Aside0 (Kd.R (Kd.int .i64) 3 wr w6.heap.size (fun _ => True) (.slice O no co) (ordP l i)) ∧ Aside0 (Below w6.heap.size w6 wr)
theorem int_cell {W : World} {A : Option Addr} {n : Nat} {xs : List Int} (h : Kd.C (Kd.int .i64) W A n xs) (i : Nat) (hi : i < n) : ∃ ad, A = some ad ∧ W.cell? (ad.add i) = some (.int .i64 (xs.getD i 0)) := by
  obtain ⟨ad, cs, ha, _, hK, hc⟩ := Kd.C_get h 0 (i : Int) (by omega) (by omega)
  rw [Int.toNat_natCast] at hK hc
  have hK : cs = [.int .i64 (xs.getD i 0)] := hK
  subst hK
  have h1 : (Kd.int IntKind.i64).sz = 1 := rfl
  have := hc 0 _ rfl
  rw [h1, Nat.mul_one, Nat.add_zero] at this
  exact ⟨ad, ha, this⟩
theorem scanP_len (m : List S25) (f u : ByteArray) (k : Int) : (scanP m f u k).length ≤ m.length := by
  unfold scanP
  rw [List.length_drop, List.length_take]
  omega
theorem mapAt_len {base : List S25} {calls : List S32} (h : ∀ c ∈ calls, c.f0 = 1 → c.f1.length ≤ 32) : ∀ j, j ≤ calls.length → (mapAt base calls j).length ≤ base.length + j * 32
  | 0, _ => by simp [mapAt]
  | j + 1, hj => by
    have h1 := mapAt_len (base := base) h j (by omega)
    rw [mapAt_succ (by omega)]
    unfold stepM
    split
    · next h0 =>
      have h2 := h (calls.getD j z32) (by rw [List.getD_eq_getElem?_getD, List.getElem?_eq_getElem (by omega)]; exact List.getElem_mem _) h0
      have h3 := applyP_len (calls.getD j z32).f1 (mapAt base calls j)
      omega
    · omega
theorem tells_len (m : List S25) (c : S32) : (tells m c).length ≤ m.length + 1 := by
  unfold tells
  split
  · split
    · simp
    · simp
  · split
    · have := scanP_len m c.f2 c.f3 c.f4
      omega
    · simp
theorem told_small {base : List S25} {calls : List S32} {n : Nat} (hn : n < calls.length) (h : ∀ c ∈ calls, c.f0 = 1 → c.f1.length ≤ 32) (hc : calls.length ≤ 9) : ((aloneP 0 base calls).1.getD n z36).f5.length ≤ base.length + 300 := by
  rw [alone_get calls 0 base n hn]
  have h1 := tells_len (mapAt base calls n) (calls.getD n z32)
  have h2 := mapAt_len (base := base) h n (by omega)
  show (tells (mapAt base calls n) (calls.getD n z32)).length ≤ _
  omega
theorem take_map {calls : List S32} {i : Nat} (h : i < calls.length) : (calls.take (i + 1)).map dOf = (calls.take i).map dOf ++ [dOf (calls.getD i z32)] := by
  rw [List.take_succ_eq_append_getElem h, List.map_append, List.getD_eq_getElem?_getD, List.getElem?_eq_getElem h]
  rfl
set_option maxHeartbeats 8000000 in
set_option maxRecDepth 100000 in
theorem alone_walk (A0 : Option Addr) (c0 : Nat) (base : List S25) (A1 : Option Addr) (c1 : Nat) (calls : List S32) (at_ : Int) (other : S25) (w : World) (h0 : Kd.C k25 w A0 base.length base) (hc0 : base.length ≤ c0) (h1 : Kd.C k32 w A1 calls.length calls) (hc1 : calls.length ≤ c1) (ha0 : 0 ≤ at_) (ha1 : at_ ≤ 255) :
    Calls Try.prog 3 #[.slice A0 base.length c0, .slice A1 calls.length c1, .int .u8 at_, .agg #[.string other.f0, .string other.f1]] w fun e w' => e = .returned (.bool true) ∧ Below w.heap.size w w' := by
  have HA0 := Aside0.mk h0
  have HC0 := Aside0.mk hc0
  have HA1 := Aside0.mk h1
  have HC1 := Aside0.mk hc1
  have HB := Aside0.mk (Below.refl w.heap.size w)
  have hcl : calls.length ≤ 9223372036854775807 := h1.2.1
  clear h0 hc0 h1 hc1
  go_enter Try.func3, Try.ntmps3
  go_upto_region 1 with (first | ((with_reducible refine gate_dst (N := 7) rfl ?_); refine box_event ?hg (N := 7) ?hd (cs := #[.string other.f0, .string other.f1]) (t := 25) ?hr ?_; (case hd => rfl); (case hg => rfl); (case hr => first | (go_simp; done) | (go_simp; rfl)); intro g7 hg w3 hbox hb; have GE7 : Aside0 (w.heap.size ≤ g7) := ⟨by rw [hg]; exact below_size HB.out⟩; have X7 := Aside0.mk hbox; have n_HB := Aside0.mk (below_step HB.out hb); clear HB; have HB := n_HB; clear n_HB; clear hg hbox hb))
  go_upto_region 2 with (first | (go_at_call 6; refine (alone0 _).mono ?_; rintro e w5 ⟨L0, cl0, vm, rfl, hN, hb⟩; have HN0 := Aside0.mk (Kd.N_mono (Kd.N_lower (Kd.N_bound hN) (below_size HB.out)) (ok' := fun k => True) (fun _ _ => trivial)); have HNE7 : Aside0 (∀ k, (Value.slice L0 0 cl0).ownBlock = some k → k ≠ g7) := ⟨fun k hk e => by have h1 := Kd.N_base hN k hk; have h2 := blk_lt X7.out; omega⟩; have n_X7 := Aside0.mk (blk_below X7.out hb); have n_HB := Aside0.mk (below_step HB.out hb); clear X7 HB; have X7 := n_X7; have HB := n_HB; clear n_X7 n_HB; clear hN hb))
  by_cases h9 : calls.length > 9
  · have hgt : (calls.length : Int) > 9 := by omega
    go_wp2_with (first | (go_at_call 7; refine (awake7 _).mono ?_; rintro e w5 ⟨rfl, hb⟩; have n_X7 := Aside0.mk (blk_below X7.out hb); have n_HB := Aside0.mk (below_step HB.out hb); clear X7 HB; have X7 := n_X7; have HB := n_HB; clear n_X7 n_HB; clear hb))
    go_ret
    exact ⟨rfl, HB.out⟩
  have hgt : ¬ (calls.length : Int) > 9 := by omega
  have hgt2 : (calls.length : Int) ≤ 9 := by omega
  go_upto_region 5 with (fail)
  clear hgt hgt2
  obtain ⟨o7, ho7⟩ : ∃ o7, Obj.cells #[.string other.f0, .string other.f1] 25 (0, 0) = o7 := ⟨_, rfl⟩
  rw [ho7] at X7
  have HNN : Aside0 (Kd.N k36 36 _ w.heap.size (fun k => k ≠ g7) (.slice L0 0 cl0) []) := ⟨by
    obtain ⟨h1, h2⟩ := HN0.out
    obtain ⟨rows, hr1, hr2, hr3⟩ := h2
    exact ⟨HNE7.out, rows, hr1, hr2, fun j x c hx => by simp at hx⟩⟩
  go_loopw [9, 30] (fun v9 v30 wr => ListRel w calls g7 o7 v9 v30 wr) (fun v9 v30 _ => calls.length - (intOf v30).toNat)
  case atStart => exact ⟨0, L0, cl0, Nat.zero_le _, rfl, rfl, HNN, X7, HB⟩
  case round =>
    clear X7 HB HN0 HNE7 HNN
    obtain ⟨i, L, cl, hi, rfl, rfl, HO, X7, HB⟩ := hrel
    rename World => wr
    by_cases hlt : i < calls.length
    · obtain ⟨ad, A1', c1', e0, x0, x1, x2, x3, x4, hl1, hcc1⟩ := at_T32 HA1.out (i : Int) (by omega) (by omega)
      have hrd : rd_T32 calls (i : Int) = calls.getD i z32 := by unfold rd_T32; rw [Int.toNat_natCast]
      rw [hrd] at x0 x1 x2 x3 x4 hl1 hcc1
      simp only [Int.toNat_natCast] at x0 x1 x2 x3 x4
      have htm := take_map hlt
      obtain ⟨x, hx⟩ : ∃ x, calls.getD i z32 = x := ⟨_, rfl⟩
      rw [hx] at x0 x1 x2 x3 x4 hl1 hcc1 htm
      have HTM := Aside0.mk htm
      have HL1 := Aside0.mk hl1
      have HCC1 := Aside0.mk hcc1
      have HE0 := Aside0.mk e0
      clear hl1 hcc1 hx hrd htm
      subst e0
      replace x0 := (HB.out.cell (World.block_lt_of_cell? w _ x0)).trans x0
      replace x1 := (HB.out.cell (World.block_lt_of_cell? w _ x1)).trans x1
      replace x2 := (HB.out.cell (World.block_lt_of_cell? w _ x2)).trans x2
      replace x3 := (HB.out.cell (World.block_lt_of_cell? w _ x3)).trans x3
      replace x4 := (HB.out.cell (World.block_lt_of_cell? w _ x4)).trans x4
      have hlt' : (i : Int) < (calls.length : Int) := by omega
      have HOB := Aside0.mk (Kd.N_base HO.out)
      go_upto_region 7 with (first | ((with_reducible refine gate_dst (N := 12) rfl ?_); refine box_event ?hg (N := 12) ?hd (cs := #[.int .u8 0, .slice none 0 0, .string ByteArray.empty, .string ByteArray.empty, .int .i64 0]) (t := 32) ?hr ?_; (case hd => rfl); (case hg => rfl); (case hr => first | (go_simp; done) | (go_simp; rfl)); intro g12 hg w3 hbox hb; have HGV := Aside0.mk (Nat.le_of_eq hg.symm); have BV := Aside0.mk hbox; have HXV := Aside0.mk hb; have z0 := (blk_cell hbox 0).trans (show _ = some (.int .u8 0) from rfl); have z1 := (blk_cell hbox 1).trans (show _ = some (.slice none 0 0) from rfl); have z2 := (blk_cell hbox 2).trans (show _ = some (.string ByteArray.empty) from rfl); have z3 := (blk_cell hbox 3).trans (show _ = some (.string ByteArray.empty) from rfl); have z4 := (blk_cell hbox 4).trans (show _ = some (.int .i64 0) from rfl); have zf := fun j => blk_frozen hbox j; clear hg hbox hb))
      clear x0 x1 x2 x3 x4
      clear z0 z1 z2 z3 z4 zf
      rename World => w3
      have s0 := blk_put (cs' := #[.int .u8 x.f0, .slice none 0 0, .string ByteArray.empty, .string ByteArray.empty, .int .i64 0]) BV.out 0 (.int .u8 x.f0) rfl
      have s1 := blk_put (cs' := #[.int .u8 x.f0, .slice A1' x.f1.length c1', .string ByteArray.empty, .string ByteArray.empty, .int .i64 0]) s0 1 (.slice A1' x.f1.length c1') rfl
      have s2 := blk_put (cs' := #[.int .u8 x.f0, .slice A1' x.f1.length c1', .string x.f2, .string ByteArray.empty, .int .i64 0]) s1 2 (.string x.f2) rfl
      have s3 := blk_put (cs' := #[.int .u8 x.f0, .slice A1' x.f1.length c1', .string x.f2, .string x.f3, .int .i64 0]) s2 3 (.string x.f3) rfl
      have s4 := blk_put (cs' := #[.int .u8 x.f0, .slice A1' x.f1.length c1', .string x.f2, .string x.f3, .int .i64 x.f4]) s3 4 (.int .i64 x.f4) rfl
      have hb := (((((HXV.out.setCell (p := ⟨g12, 0, none⟩) HGV.out (.int .u8 x.f0)).setCell (p := ⟨g12, 1, none⟩) HGV.out (.slice A1' x.f1.length c1')).setCell (p := ⟨g12, 2, none⟩) HGV.out (.string x.f2)).setCell (p := ⟨g12, 3, none⟩) HGV.out (.string x.f3)).setCell (p := ⟨g12, 4, none⟩) HGV.out (.int .i64 x.f4))
      generalize (World.setCell (World.setCell (World.setCell (World.setCell (World.setCell w3 ⟨g12, 0, none⟩ (.int .u8 x.f0)) ⟨g12, 1, none⟩ (.slice A1' x.f1.length c1')) ⟨g12, 2, none⟩ (.string x.f2)) ⟨g12, 3, none⟩ (.string x.f3)) ⟨g12, 4, none⟩ (.int .i64 x.f4)) = wk at s4 hb ⊢
      have n_HO := Aside0.mk (Kd.N_below HO.out hb); have n_X7 := Aside0.mk (blk_below X7.out hb); have n_HB := Aside0.mk (below_step HB.out hb); clear HO X7 HB; have HO := n_HO; have X7 := n_X7; have HB := n_HB; clear n_HO n_X7 n_HB
      clear BV HXV HGV
      have X12 := Aside0.mk s4
      clear s0 s1 s2 s3 s4 hb
      have y0 := (blk_cell X12.out 0).trans (show _ = some (.int .u8 x.f0) from rfl)
      have y1 := (blk_cell X12.out 1).trans (show _ = some (.slice A1' x.f1.length c1') from rfl)
      have y2 := (blk_cell X12.out 2).trans (show _ = some (.string x.f2) from rfl)
      have y3 := (blk_cell X12.out 3).trans (show _ = some (.string x.f3) from rfl)
      have y4 := (blk_cell X12.out 4).trans (show _ = some (.int .i64 x.f4) from rfl)
      go_upto_region 8 with (first | ((with_reducible refine gate_dst (N := 37) rfl ?_); refine lit_event ?hg (cs := #[.int .u8 x.f0, .slice A1' x.f1.length c1', .string x.f2, .string x.f3, .int .i64 x.f4, .int .i64 0, .int .i64 0, .int .i64 0, .int .u64 0, .slice none 0 0]) (t := 36) (k := 1) ?hr ?_; (case hg => rfl); (case hr => first | (go_simp; done) | (go_simp; rfl)); intro vb hg w3 hbox hb; have HVB : Aside0 (some vb ≠ (Value.slice L i cl).ownBlock ∧ vb ≠ g7) := ⟨by rw [hg]; exact ⟨fun e => Nat.lt_irrefl _ (Kd.N_lt HO.out _ e.symm), fun e => Nat.lt_irrefl _ (e ▸ blk_lt X7.out)⟩⟩; have n_HO := Aside0.mk (Kd.N_below HO.out hb); have n_X7 := Aside0.mk (blk_below X7.out hb); have n_HB := Aside0.mk (below_step HB.out hb); clear HO X7 HB; have HO := n_HO; have X7 := n_X7; have HB := n_HB; clear n_HO n_X7 n_HB; have BV := Aside0.mk (one_F36 (x := dOf x) hbox HL1.out (Kd.F_mono (arg_F71 HCC1.out HB.out) (ok' := fun k => k ≠ g7 ∧ some k ≠ (Value.slice L i cl).ownBlock) (fun k hk => ⟨by have := GE7.out; omega, fun e => by have := HOB.out k e.symm; omega⟩)) (Nat.le_refl 0) (Kd.F_nil _ _ _)); clear hg hbox hb) | ((with_reducible refine gate_builtin (b := .append) (xs := #[.tmp 34, .tmp 37]) rfl ?_); at_builtin; (refine Kd.N_append_rows k36 (w0 := w) w.heap.size rfl (.tmp 34) (.tmp 37) 26 36 _ 128 rfl Try.underlying26 info36 rfl (by decide) (by decide) (.slice L i cl) ((calls.take i).map dOf) [dOf x] (some ⟨vb, 0, none⟩) 1 1 (fun k => k ≠ g7) (fun k => (k ≠ g7 ∧ some k ≠ (Value.slice L i cl).ownBlock) ∨ k = vb) rfl rfl HO.out BV.out (fun k hk => hk.elim id (fun h => h ▸ ⟨HVB.out.2, HVB.out.1⟩)) (fun k hk => by have := blk_lt X7.out; omega) HB.out (below_size HB.out) (by rw [List.length_map, List.length_take]; omega) ?_); intro v1 w1 ho hb hg hat; rw [← HTM.out] at ho; obtain ⟨L1, cl1, hv⟩ := Kd.N_slice ho; rw [List.length_map, List.length_take, Nat.min_eq_left (by omega)] at hv; subst hv; have n_X7 := Aside0.mk (blk_grown X7.out hg (fun e => HO.out.1 g7 e.symm rfl)); have HO9 := Aside0.mk ho; have HB9 := Aside0.mk hb; clear X7; have X7 := n_X7; clear n_X7 ho hb hg hat))
      clear y0 y1 y2 y3 y4
      go_wp2
      go_roundw
      case rel => exact ⟨i + 1, L1, cl1, by omega, rfl, by go_num, HO9, X7, HB9⟩
      case measure => simp [intOf]; omega
    · obtain rfl : i = calls.length := by omega
      obtain ⟨b, hb⟩ : ∃ b, mayAll base (calls.map dOf) 9 = b := ⟨_, rfl⟩
      have HMAY := Aside0.mk hb
      have hno := (Kd.N_reads' HO.out).2
      rw [List.take_length] at hno
      have HLC := Aside0.mk hno
      clear hb hno hlt hi
      cases b with
      | false =>
        go_wp2_with (first | (go_at_call 8; refine (mayB HMAY.out (by rw [List.length_map]) (Kd.C_below HA0.out HB.out) HC0.out (by have h := HLC.out.2; rw [List.length_map] at h; exact h)).mono ?_; rintro e w5 ⟨rfl, hb⟩; have n_X7 := Aside0.mk (blk_below X7.out hb); have n_HB := Aside0.mk (below_step HB.out hb); clear X7 HB; have X7 := n_X7; have HB := n_HB; clear n_X7 n_HB; clear hb) | (go_at_call 7; refine (awake7 _).mono ?_; rintro e w5 ⟨rfl, hb⟩; have n_X7 := Aside0.mk (blk_below X7.out hb); have n_HB := Aside0.mk (below_step HB.out hb); clear X7 HB; have X7 := n_X7; have HB := n_HB; clear n_X7 n_HB; clear hb))
        go_ret
        exact ⟨rfl, HB.out⟩
      | true =>
        obtain ⟨hsm, hb20, hc9, hops⟩ := may_facts HMAY.out
        have hops2 : ∀ c ∈ calls, c.f0 = 1 → c.f1.length ≤ 32 := fun c hc h => hops (dOf c) (List.mem_map.2 ⟨c, hc, rfl⟩) h
        have HAS := Aside0.mk (asks (base := base) (calls := calls) (by omega) hsm)
        have HOPS := Aside0.mk (alone_ops (base := base) hops2)
        have HSM := Aside0.mk hsm
        have HK := Aside0.mk hops2
        have hb1000 : base.length ≤ 1000 := by omega
        clear hsm hops hops2 hc9
        obtain ⟨l, hl⟩ : ∃ l, (aloneP 0 base calls).1 = l := ⟨_, rfl⟩
        rw [hl] at HAS HOPS
        have HLE := Aside0.mk hl
        clear hl
        have HLN : Aside0 (l.length = calls.length) := ⟨HAS.out.len⟩
        go_upto_region 12 with (first | (go_at_call 8; refine (mayB HMAY.out (by rw [List.length_map]) (Kd.C_below HA0.out HB.out) HC0.out (by have h := HLC.out.2; rw [List.length_map] at h; exact h)).mono ?_; rintro e w5 ⟨rfl, hb⟩; have n_X7 := Aside0.mk (blk_below X7.out hb); have n_HB := Aside0.mk (below_step HB.out hb); clear X7 HB; have X7 := n_X7; have HB := n_HB; clear n_X7 n_HB; clear hb) | (go_at_call 6; refine (alone6 A0 c0 base _ c1 calls 32 _ (Kd.C_below HA0.out HB.out) HC0.out (Kd.C_below HA1.out HB.out) (by omega) HK.out (by omega)).mono ?_; rintro e w6 ⟨L, clz, vm, rfl, hN, hb⟩; rw [HLE.out] at hN; have hN2 := (Kd.N_reads' hN).2; rw [HLN.out] at hN2; have HL := Aside0.mk hN2.2; have HLCC := Aside0.mk hN2.1; have n_X7 := Aside0.mk (blk_below X7.out hb); have n_HB := Aside0.mk (below_step HB.out hb); clear X7 HB; have X7 := n_X7; have HB := n_HB; clear n_X7 n_HB; clear hN hN2 hb))
        have HX := Aside0.mk (Below.refl w6.heap.size w6)
        have HL36 : Aside0 (Kd.C k36 w6 L l.length l) := ⟨by rw [HLN.out]; exact HL.out⟩
        go_upto_region 14 with (fail)
        go_loopw [13, 53] (fun v13 v53 wr => OrdRel w6 l calls.length v13 v53 wr) (fun v13 v53 _ => calls.length - (intOf v53).toNat)
        case atStart => exact ⟨0, none, 0, 0, Nat.zero_le _, rfl, rfl, ⟨rfl⟩, ⟨Nat.le_refl 0⟩, ⟨Kd.R_nil _ _ _ _ _⟩, HX⟩
        case round =>
          clear HX HO
          obtain ⟨i, O, no, co, hi, rfl, rfl, HNO, HNI, HO, HX⟩ := hrel
          rename World => wr
          by_cases hlt : i < calls.length
          · obtain ⟨ad, A1', c1', A9, c9, e0, hcl, hdi⟩ := at36 HL36.out i (by rw [HLN.out]; exact hlt)
            have HE0 := Aside0.mk e0
            have hos := ordP_succ l i
            obtain ⟨x, hx⟩ : ∃ x, l.getD i z36 = x := ⟨_, rfl⟩
            rw [hx] at hcl hdi hos
            have HOS := Aside0.mk hos
            have HCL := Aside0.mk hcl
            clear hcl hdi hos hx
            subst e0
            have hlt' : (i : Int) < (calls.length : Int) := by omega
            obtain ⟨x0, x1, x2, x3, x4, x5, x6, x7, x8, x9⟩ := HCL.out.below HX.out
            go_upto_region 16 with (first | ((with_reducible refine gate_dst (N := 15) rfl ?_); refine box_event ?hg (N := 15) ?hd (cs := #[.int .u8 0, .slice none 0 0, .string ByteArray.empty, .string ByteArray.empty, .int .i64 0, .int .i64 0, .int .i64 0, .int .i64 0, .int .u64 0, .slice none 0 0]) (t := 36) ?hr ?_; (case hd => rfl); (case hg => rfl); (case hr => first | (go_simp; done) | (go_simp; rfl)); intro g15 hg w3 hbox hb; have HGV := Aside0.mk (Nat.le_of_eq hg.symm); have BV := Aside0.mk hbox; have HXV := Aside0.mk hb; have z0 := (blk_cell hbox 0).trans (show _ = some (.int .u8 0) from rfl); have z1 := (blk_cell hbox 1).trans (show _ = some (.slice none 0 0) from rfl); have z2 := (blk_cell hbox 2).trans (show _ = some (.string ByteArray.empty) from rfl); have z3 := (blk_cell hbox 3).trans (show _ = some (.string ByteArray.empty) from rfl); have z4 := (blk_cell hbox 4).trans (show _ = some (.int .i64 0) from rfl); have z5 := (blk_cell hbox 5).trans (show _ = some (.int .i64 0) from rfl); have z6 := (blk_cell hbox 6).trans (show _ = some (.int .i64 0) from rfl); have z7 := (blk_cell hbox 7).trans (show _ = some (.int .i64 0) from rfl); have z8 := (blk_cell hbox 8).trans (show _ = some (.int .u64 0) from rfl); have z9 := (blk_cell hbox 9).trans (show _ = some (.slice none 0 0) from rfl); have zf := fun j => blk_frozen hbox j; clear hg hbox hb))
            clear x0 x1 x2 x3 x4 x5 x6 x7 x8 x9
            clear z0 z1 z2 z3 z4 z5 z6 z7 z8 z9 zf
            rename World => w3
            have s0 := blk_put (cs' := #[.int .u8 x.f0.f0, .slice none 0 0, .string ByteArray.empty, .string ByteArray.empty, .int .i64 0, .int .i64 0, .int .i64 0, .int .i64 0, .int .u64 0, .slice none 0 0]) BV.out 0 (.int .u8 x.f0.f0) rfl
            have s1 := blk_put (cs' := #[.int .u8 x.f0.f0, .slice A1' x.f0.f1.length c1', .string ByteArray.empty, .string ByteArray.empty, .int .i64 0, .int .i64 0, .int .i64 0, .int .i64 0, .int .u64 0, .slice none 0 0]) s0 1 (.slice A1' x.f0.f1.length c1') rfl
            have s2 := blk_put (cs' := #[.int .u8 x.f0.f0, .slice A1' x.f0.f1.length c1', .string x.f0.f2, .string ByteArray.empty, .int .i64 0, .int .i64 0, .int .i64 0, .int .i64 0, .int .u64 0, .slice none 0 0]) s1 2 (.string x.f0.f2) rfl
            have s3 := blk_put (cs' := #[.int .u8 x.f0.f0, .slice A1' x.f0.f1.length c1', .string x.f0.f2, .string x.f0.f3, .int .i64 0, .int .i64 0, .int .i64 0, .int .i64 0, .int .u64 0, .slice none 0 0]) s2 3 (.string x.f0.f3) rfl
            have s4 := blk_put (cs' := #[.int .u8 x.f0.f0, .slice A1' x.f0.f1.length c1', .string x.f0.f2, .string x.f0.f3, .int .i64 x.f0.f4, .int .i64 0, .int .i64 0, .int .i64 0, .int .u64 0, .slice none 0 0]) s3 4 (.int .i64 x.f0.f4) rfl
            have s5 := blk_put (cs' := #[.int .u8 x.f0.f0, .slice A1' x.f0.f1.length c1', .string x.f0.f2, .string x.f0.f3, .int .i64 x.f0.f4, .int .i64 x.f1, .int .i64 0, .int .i64 0, .int .u64 0, .slice none 0 0]) s4 5 (.int .i64 x.f1) rfl
            have s6 := blk_put (cs' := #[.int .u8 x.f0.f0, .slice A1' x.f0.f1.length c1', .string x.f0.f2, .string x.f0.f3, .int .i64 x.f0.f4, .int .i64 x.f1, .int .i64 x.f2, .int .i64 0, .int .u64 0, .slice none 0 0]) s5 6 (.int .i64 x.f2) rfl
            have s7 := blk_put (cs' := #[.int .u8 x.f0.f0, .slice A1' x.f0.f1.length c1', .string x.f0.f2, .string x.f0.f3, .int .i64 x.f0.f4, .int .i64 x.f1, .int .i64 x.f2, .int .i64 x.f3, .int .u64 0, .slice none 0 0]) s6 7 (.int .i64 x.f3) rfl
            have s8 := blk_put (cs' := #[.int .u8 x.f0.f0, .slice A1' x.f0.f1.length c1', .string x.f0.f2, .string x.f0.f3, .int .i64 x.f0.f4, .int .i64 x.f1, .int .i64 x.f2, .int .i64 x.f3, .int .u64 x.f4, .slice none 0 0]) s7 8 (.int .u64 x.f4) rfl
            have s9 := blk_put (cs' := #[.int .u8 x.f0.f0, .slice A1' x.f0.f1.length c1', .string x.f0.f2, .string x.f0.f3, .int .i64 x.f0.f4, .int .i64 x.f1, .int .i64 x.f2, .int .i64 x.f3, .int .u64 x.f4, .slice A9 x.f5.length c9]) s8 9 (.slice A9 x.f5.length c9) rfl
            have hb := ((((((((((HXV.out.setCell (p := ⟨g15, 0, none⟩) HGV.out (.int .u8 x.f0.f0)).setCell (p := ⟨g15, 1, none⟩) HGV.out (.slice A1' x.f0.f1.length c1')).setCell (p := ⟨g15, 2, none⟩) HGV.out (.string x.f0.f2)).setCell (p := ⟨g15, 3, none⟩) HGV.out (.string x.f0.f3)).setCell (p := ⟨g15, 4, none⟩) HGV.out (.int .i64 x.f0.f4)).setCell (p := ⟨g15, 5, none⟩) HGV.out (.int .i64 x.f1)).setCell (p := ⟨g15, 6, none⟩) HGV.out (.int .i64 x.f2)).setCell (p := ⟨g15, 7, none⟩) HGV.out (.int .i64 x.f3)).setCell (p := ⟨g15, 8, none⟩) HGV.out (.int .u64 x.f4)).setCell (p := ⟨g15, 9, none⟩) HGV.out (.slice A9 x.f5.length c9))
            generalize (World.setCell (World.setCell (World.setCell (World.setCell (World.setCell (World.setCell (World.setCell (World.setCell (World.setCell (World.setCell w3 ⟨g15, 0, none⟩ (.int .u8 x.f0.f0)) ⟨g15, 1, none⟩ (.slice A1' x.f0.f1.length c1')) ⟨g15, 2, none⟩ (.string x.f0.f2)) ⟨g15, 3, none⟩ (.string x.f0.f3)) ⟨g15, 4, none⟩ (.int .i64 x.f0.f4)) ⟨g15, 5, none⟩ (.int .i64 x.f1)) ⟨g15, 6, none⟩ (.int .i64 x.f2)) ⟨g15, 7, none⟩ (.int .i64 x.f3)) ⟨g15, 8, none⟩ (.int .u64 x.f4)) ⟨g15, 9, none⟩ (.slice A9 x.f5.length c9)) = wk at s9 hb ⊢
            have n_HO := Aside0.mk (Kd.R_below HO.out hb); have n_HX := Aside0.mk (below_step HX.out hb); clear HO HX; have HO := n_HO; have HX := n_HX; clear n_HO n_HX
            clear BV HXV HGV
            have X15 := Aside0.mk s9
            clear s0 s1 s2 s3 s4 s5 s6 s7 s8 s9 hb
            have z0 := (blk_cell X15.out 0).trans (show _ = some (.int .u8 x.f0.f0) from rfl)
            by_cases k1 : x.f0.f0 ≥ 1
            rotate_left
            · have HKF : Aside0 ((if kindP x = true then ordP l i ++ [(i : Int)] else ordP l i) = ordP l i) := ⟨by rw [if_neg]; unfold kindP; rw [if_neg k1]; decide⟩
              go_wp2
              clear z0
              go_roundw
              case rel => exact ⟨i + 1, O, no, co, by omega, rfl, by go_num, ⟨by rw [HOS.out, HKF.out]; exact HNO.out⟩, ⟨by have := HNI.out; omega⟩, ⟨by rw [HOS.out, HKF.out]; exact HO.out⟩, HX⟩
              case measure => simp [intOf]; omega
            by_cases k3 : x.f0.f0 ≤ 3
            rotate_left
            · have HKF : Aside0 ((if kindP x = true then ordP l i ++ [(i : Int)] else ordP l i) = ordP l i) := ⟨by rw [if_neg]; unfold kindP; rw [if_pos k1, decide_eq_false k3]; decide⟩
              go_wp2
              clear z0
              go_roundw
              case rel => exact ⟨i + 1, O, no, co, by omega, rfl, by go_num, ⟨by rw [HOS.out, HKF.out]; exact HNO.out⟩, ⟨by have := HNI.out; omega⟩, ⟨by rw [HOS.out, HKF.out]; exact HO.out⟩, HX⟩
              case measure => simp [intOf]; omega
            have HKF : Aside0 (ordP l (i + 1) = ordP l i ++ [(i : Int)]) := ⟨by rw [HOS.out, if_pos]; unfold kindP; rw [if_pos k1]; exact decide_eq_true k3⟩
            go_upto_region 18 with (first | ((with_reducible refine gate_dst (N := 70) rfl ?_); refine lit_event ?hg (cs := #[.int .i64 (i : Int)]) (t := 3) (k := 1) ?hr ?_; (case hg => rfl); (case hr => first | (go_simp; done) | (go_simp; rfl)); intro vb hg w3 hbox hb; have n_HO := Aside0.mk (Kd.R_below HO.out hb); have n_HX := Aside0.mk (below_step HX.out hb); clear HO HX; have HO := n_HO; have HX := n_HX; clear n_HO n_HX; have BV := Aside0.mk (lit_C (k := .i64) [(i : Int)] hbox rfl (by simp)); clear hg hbox hb) | ((with_reducible refine gate_builtin (b := .append) (xs := #[.tmp 68, .tmp 70]) rfl ?_); at_builtin; (refine Kd.R_append_row (Value.int .i64) 0 (w0 := w6) w6.heap.size rfl (.tmp 68) (.tmp 70) 38 3 (.int .i64 0) 8 rfl Try.underlying38 infoI64 rfl (by omega) _ (ordP l i) [(i : Int)] _ _ _ (fun _ => True) rfl rfl (fun _ _ => trivial) HO.out BV.out HX.out (below_size HX.out) (by (try simp only [List.length_cons, List.length_nil]); have := HNO.out; have := HNI.out; omega) ?_); intro v1 w1 ho hb hg hat; rw [← HKF.out] at ho; obtain ⟨O1, co1, hv⟩ := R_form ho; obtain ⟨n1, hn1⟩ : ∃ n1, (ordP l (i + 1)).length = n1 := ⟨_, rfl⟩; rw [hn1] at hv; subst hv; have HN1 := Aside0.mk hn1.symm; have HO9 := Aside0.mk ho; have HX9 := Aside0.mk hb; clear ho hb hg hat hn1))
            clear z0
            go_wp2
            go_roundw
            case rel => exact ⟨i + 1, O1, n1, co1, by omega, rfl, by go_num, HN1, ⟨by have h1 := HN1.out; rw [HKF.out, List.length_append, ← HNO.out] at h1; have := HNI.out; simp at h1; omega⟩, HO9, HX9⟩
            case measure => simp [intOf]; omega
          · obtain rfl : i = calls.length := by omega
            have hod := (Kd.R_reads' HO.out).2
            rw [← HNO.out] at hod
            have n_HB := Aside0.mk (below_step HB.out HX.out)
            have n_X7 := Aside0.mk (blk_below X7.out HX.out)
            have n_HL36 := Aside0.mk (Kd.C_below HL36.out HX.out)
            have HLL := Aside0.mk (Kd.C_below HL.out HX.out)
            clear HB X7 HL36 HL HX HO
            have HB := n_HB
            have X7 := n_X7
            have HL36 := n_HL36
            clear n_HB n_X7 n_HL36
            obtain ⟨o, ho⟩ : ∃ o, ordP l calls.length = o := ⟨_, rfl⟩
            rw [HLN.out] at HAS
            rw [ho] at hod HAS HNO
            have HOD := Aside0.mk hod.2
            have HOC := Aside0.mk hod.1
            clear ho hod
            rename World => w7
            have HX := Aside0.mk (Below.refl w7.heap.size w7)
            have hno9 : no ≤ 9 := by have := HNI.out; omega
            have HFIT := Aside0.mk HAS.out.fits
            have HLEG := Aside0.mk HAS.out.legal
            go_upto_region 21 with (first | (go_at_call 9; refine (fitsB HFIT.out HLN.out.symm HNO.out (Kd.C_below HA0.out (below_step HB.out HX.out)) HC0.out (Kd.C_below HLL.out HX.out) HLCC.out (Kd.C_below HOD.out HX.out) HOC.out hb1000 (by omega) (by omega) HOPS.out).mono ?_; rintro e w5 ⟨rfl, hb⟩; have n_HX := Aside0.mk (below_step HX.out hb); clear HX; have HX := n_HX; clear n_HX; clear hb) | (go_at_call 10; refine (legalB HLEG.out HLN.out.symm (Kd.C_below HA0.out (below_step HB.out HX.out)) HC0.out (Kd.C_below HLL.out HX.out) HLCC.out hb1000 HOPS.out HSM.out).mono ?_; rintro e w5 ⟨rfl, hb⟩; have n_HX := Aside0.mk (below_step HX.out hb); clear HX; have HX := n_HX; clear n_HX; clear hb))
            by_cases hz : no = 0
            · have e0 : ((no : Int) == 0) = true := by rw [hz]; rfl
              clear hz
              go_wp2_with (first | (go_at_call 7; refine (awake7 _).mono ?_; rintro e w5 ⟨rfl, hb⟩; have n_HX := Aside0.mk (below_step HX.out hb); clear HX; have HX := n_HX; clear n_HX; clear hb))
              go_ret
              exact ⟨rfl, below_step HB.out HX.out⟩
            have e0 : ((no : Int) == 0) = false := beq_eq_false_iff_ne.2 (by omega)
            go_upto_region 23 with (fail)
            clear e0
            obtain ⟨q, hq⟩ : ∃ q, decide ((no : Int) > 1) = q := ⟨_, rfl⟩
            have hq2 : decide (1 < (no : Int)) = q := hq
            go_upto_if 90 with (fail)
            go_cut [] (fun wx => Aside0 (Below w7.heap.size w7 wx))
            case first =>
              cases q with
              | false =>
                go_wp2
                go_meet
                case rel => exact HX
              | true =>
                have hno1 : 1 < no := by have := of_decide_eq_true hq; omega
                clear hq hq2
                have hnz : ((no : Int) - 1 == 0) = false := beq_eq_false_iff_ne.2 (by omega)
                go_upto_region 25 with (fail)
                clear hnz
                obtain ⟨k, hk⟩ : ∃ k : Nat, at_ % ((no : Int) - 1) = (k : Int) := ⟨(at_ % ((no : Int) - 1)).toNat, by have := Int.emod_nonneg at_ (show (no : Int) - 1 ≠ 0 by omega); omega⟩
                have hkn : k + 1 < no := by have := Int.emod_lt_of_pos at_ (show 0 < (no : Int) - 1 by omega); omega
                rw [hk]
                clear hk
                go_upto_region 26 with (first | ((with_reducible refine gate_dst (N := 97) rfl ?_); (refine Kd.R_lit (Kd.int .i64) (w0 := w7) w7.heap.size 3 rfl rfl (xs := ([] : List Int)) (inner := []) (ok := fun _ => True) (okp := fun _ => False) ?hrun ?hrep (fun _ hk => hk.elim) trivial HX.out (below_size HX.out) (by simp) ?_); (case hrun => first | (go_simp; done) | (go_simp; rfl)); (case hrep => exact Reps.none _ _); intro v5 w5 ho hb hg hat; have HE := Aside0.mk ho; clear HX; have HX := Aside0.mk hb; clear ho hb hg hat) | ((with_reducible refine gate_builtin (b := .append) (xs := #[.tmp 97, .tmp 98]) rfl ?_); at_builtin; (refine Kd.R_append_row (Value.int .i64) 0 (w0 := w7) w7.heap.size rfl (.tmp 97) (.tmp 98) 38 3 (.int .i64 0) 8 rfl Try.underlying38 infoI64 rfl (by omega) _ [] o _ _ _ (fun _ => True) rfl rfl (fun _ _ => trivial) HE.out (Kd.C_below HOD.out HX.out) HX.out (below_size HX.out) (by (try simp only [List.length_nil]); omega) ?_); intro v1 w1 ho hb hg hat; rw [List.nil_append] at ho; obtain ⟨gs, cs, hv, hgs, _⟩ := Kd.R_form ho (by rw [← HNO.out]; omega); rw [← HNO.out] at hv; subst hv; have HS := Aside0.mk ho; have HGS := Aside0.mk hgs; clear HX; have HX := Aside0.mk hb; clear ho hb hg hat hgs HE))
                rename World => w8
                obtain ⟨a, ha⟩ : ∃ a, o.getD k 0 = a := ⟨_, rfl⟩
                obtain ⟨b, hb⟩ : ∃ b, o.getD (k + 1) 0 = b := ⟨_, rfl⟩
                obtain ⟨ca, caf⟩ := own_cell HS.out k (by omega)
                obtain ⟨cb, cbf⟩ := own_cell HS.out (k + 1) (by omega)
                rw [ha] at ca
                rw [hb] at cb
                have CA_ := Aside0.mk ca
                have CAF := Aside0.mk caf
                have CB_ := Aside0.mk cb
                have CBF := Aside0.mk cbf
                have HA := Aside0.mk ha
                have HBB := Aside0.mk hb
                clear ca caf cb cbf ha hb
                have hk1 : (k : Int) + 1 < (no : Int) := by omega
                have hk0 : (k : Int) < (no : Int) := by omega
                have hk2 : (0 : Int) ≤ (k : Int) + 1 := by omega
                have hkt : ((k : Int) + 1).toNat = k + 1 := by omega
                have hkw : wrap64 ((k : Int) + 1) = (k : Int) + 1 := w64' (by omega) (by omega)
                refine start_ (n := 18) (S := fun w' => Below w8.heap.size w8 w') (ds := [15, 17]) #[false, false, false, false, false, false, false, false, false, false, false, false, false, false, false, false, false, false] (by kernel_rfl) rfl rfl (below_drew (Below.refl _ _)) (fun hHeld => ?_)
                refine with_tabW r3_26.tab r3_26.bits (fun HT_ HW_ => ?_)
                generalize w8.drew = wd at hHeld ⊢
                refine pure_ (i := 0) (N := some 100) (v := ?_) (a' := ?_) #[true, false, false, false, false, false, false, false, false, false, false, false, false, false, false, false, false, false] rfl rfl (any_of HT_.out (by kernel_rfl)) (fun _ _ _ h => h) (Or.inl ⟨by rfl, ?_⟩) ?_ ?_
                rotate_left
                · intro w'
                  go_simp
                  with_reducible rfl
                rotate_left
                · simp only [Act.put, List.setIfInBounds_toArray, List.set_cons_zero, List.set_cons_succ, i64_w, i32_w]
                  rfl
                refine pure_ (i := 1) (N := some 101) (v := ?_) (a' := ?_) #[true, true, false, false, false, false, false, false, false, false, false, false, false, false, false, false, false, false] rfl rfl (any_of HT_.out (by kernel_rfl)) (fun _ _ _ h => h) (Or.inl ⟨by rfl, ?_⟩) ?_ ?_
                rotate_left
                · intro w'
                  go_simp
                  with_reducible rfl
                rotate_left
                · simp only [Act.put, List.setIfInBounds_toArray, List.set_cons_zero, List.set_cons_succ, i64_w, i32_w]
                  rfl
                refine pure_ (i := 2) (N := some 102) (v := ?_) (a' := ?_) #[true, true, true, false, false, false, false, false, false, false, false, false, false, false, false, false, false, false] rfl rfl (any_of HT_.out (by kernel_rfl)) (fun _ _ _ h => h) (Or.inl ⟨by rfl, ?_⟩) ?_ ?_
                rotate_left
                · intro w'
                  go_simp
                  with_reducible rfl
                rotate_left
                · simp only [Act.put, List.setIfInBounds_toArray, List.set_cons_zero, List.set_cons_succ, i64_w, i32_w]
                  rfl
                refine pure_ (i := 3) (N := some 103) (v := ?_) (a' := ?_) #[true, true, true, true, false, false, false, false, false, false, false, false, false, false, false, false, false, false] rfl rfl (any_of HT_.out (by kernel_rfl)) (fun _ _ _ h => h) (Or.inl ⟨by rfl, ?_⟩) ?_ ?_
                rotate_left
                · intro w'
                  go_simp
                  with_reducible rfl
                rotate_left
                · simp only [Act.put, List.setIfInBounds_toArray, List.set_cons_zero, List.set_cons_succ, i64_w, i32_w]
                  rfl
                refine pure_ (i := 4) (N := some 104) (v := ?_) (a' := ?_) #[true, true, true, true, true, false, false, false, false, false, false, false, false, false, false, false, false, false] rfl rfl (any_of HT_.out (by kernel_rfl)) (fun _ _ _ h => h) (Or.inl ⟨by rfl, ?_⟩) ?_ ?_
                rotate_left
                · intro w'
                  go_simp
                  with_reducible rfl
                rotate_left
                · simp only [Act.put, List.setIfInBounds_toArray, List.set_cons_zero, List.set_cons_succ, i64_w, i32_w]
                  rfl
                refine pure_ (i := 5) (N := some 105) (v := ?_) (a' := ?_) #[true, true, true, true, true, true, false, false, false, false, false, false, false, false, false, false, false, false] rfl rfl (any_of HT_.out (by kernel_rfl)) (fun _ _ _ h => h) (Or.inl ⟨by rfl, ?_⟩) ?_ ?_
                rotate_left
                · intro w'
                  go_simp
                  with_reducible rfl
                rotate_left
                · simp only [Act.put, List.setIfInBounds_toArray, List.set_cons_zero, List.set_cons_succ, i64_w, i32_w]
                  rfl
                refine pure_ (i := 6) (N := some 106) (v := ?_) (a' := ?_) #[true, true, true, true, true, true, true, false, false, false, false, false, false, false, false, false, false, false] rfl rfl (any_of HT_.out (by kernel_rfl)) (fun _ _ _ h => h) (Or.inl ⟨by rfl, ?_⟩) ?_ ?_
                rotate_left
                · intro w'
                  go_simp
                  with_reducible rfl
                rotate_left
                · simp only [Act.put, List.setIfInBounds_toArray, List.set_cons_zero, List.set_cons_succ, i64_w, i32_w]
                  rfl
                refine pure_ (i := 7) (N := some 107) (v := ?_) (a' := ?_) #[true, true, true, true, true, true, true, true, false, false, false, false, false, false, false, false, false, false] rfl rfl (any_of HT_.out (by kernel_rfl)) (fun _ _ _ h => h) (Or.inl ⟨by rfl, ?_⟩) ?_ ?_
                rotate_left
                · intro w'
                  go_simp
                  with_reducible rfl
                rotate_left
                · simp only [Act.put, List.setIfInBounds_toArray, List.set_cons_zero, List.set_cons_succ, i64_w, i32_w]
                  rfl
                refine pure_ (i := 8) (N := some 108) (v := ?_) (a' := ?_) #[true, true, true, true, true, true, true, true, true, false, false, false, false, false, false, false, false, false] rfl rfl (any_of HT_.out (by kernel_rfl)) (fun _ _ _ h => h) (Or.inl ⟨by rfl, ?_⟩) ?_ ?_
                rotate_left
                · intro w'
                  go_simp
                  with_reducible rfl
                rotate_left
                · simp only [Act.put, List.setIfInBounds_toArray, List.set_cons_zero, List.set_cons_succ, i64_w, i32_w]
                  rfl
                refine take_ (i := 9) (N := some 109) (v := ?_) (a' := ?_) #[true, true, true, true, true, true, true, true, true, true, false, false, false, false, false, false, false, false] rfl rfl (take_ofW HT_.out HW_.out (by kernel_rfl)) (fun _ _ _ h => h) (Or.inl ⟨by rfl, ?_⟩) hHeld ?_ ?_
                rotate_left
                · rintro w' hbq
                  have c_0 := (hbq.cell (World.block_lt_of_cell? w8 _ CB_.out)).trans CB_.out
                  go_simp
                  with_reducible rfl
                rotate_left
                · simp only [Act.put, List.setIfInBounds_toArray, List.set_cons_zero, List.set_cons_succ, i64_w, i32_w]
                  rfl
                refine pure_ (i := 10) (N := some 110) (v := ?_) (a' := ?_) #[true, true, true, true, true, true, true, true, true, true, true, false, false, false, false, false, false, false] rfl rfl (any_of HT_.out (by kernel_rfl)) (fun _ _ _ h => h) (Or.inl ⟨by rfl, ?_⟩) ?_ ?_
                rotate_left
                · intro w'
                  go_simp
                  with_reducible rfl
                rotate_left
                · simp only [Act.put, List.setIfInBounds_toArray, List.set_cons_zero, List.set_cons_succ, i64_w, i32_w]
                  rfl
                refine pure_ (i := 11) (N := some 111) (v := ?_) (a' := ?_) #[true, true, true, true, true, true, true, true, true, true, true, true, false, false, false, false, false, false] rfl rfl (any_of HT_.out (by kernel_rfl)) (fun _ _ _ h => h) (Or.inl ⟨by rfl, ?_⟩) ?_ ?_
                rotate_left
                · intro w'
                  go_simp
                  with_reducible rfl
                rotate_left
                · simp only [Act.put, List.setIfInBounds_toArray, List.set_cons_zero, List.set_cons_succ, i64_w, i32_w]
                  rfl
                refine pure_ (i := 12) (N := some 112) (v := ?_) (a' := ?_) #[true, true, true, true, true, true, true, true, true, true, true, true, true, false, false, false, false, false] rfl rfl (any_of HT_.out (by kernel_rfl)) (fun _ _ _ h => h) (Or.inl ⟨by rfl, ?_⟩) ?_ ?_
                rotate_left
                · intro w'
                  go_simp
                  with_reducible rfl
                rotate_left
                · simp only [Act.put, List.setIfInBounds_toArray, List.set_cons_zero, List.set_cons_succ, i64_w, i32_w]
                  rfl
                refine take_ (i := 13) (N := some 113) (v := ?_) (a' := ?_) #[true, true, true, true, true, true, true, true, true, true, true, true, true, true, false, false, false, false] rfl rfl (take_ofW HT_.out HW_.out (by kernel_rfl)) (fun _ _ _ h => h) (Or.inl ⟨by rfl, ?_⟩) hHeld ?_ ?_
                rotate_left
                · rintro w' hbq
                  have c_0 := (hbq.cell (World.block_lt_of_cell? w8 _ CA_.out)).trans CA_.out
                  go_simp
                  with_reducible rfl
                rotate_left
                · simp only [Act.put, List.setIfInBounds_toArray, List.set_cons_zero, List.set_cons_succ, i64_w, i32_w]
                  rfl
                refine pure_ (i := 14) (N := some 114) (v := ?_) (a' := ?_) #[true, true, true, true, true, true, true, true, true, true, true, true, true, true, true, false, false, false] rfl rfl (any_of HT_.out (by kernel_rfl)) (fun _ _ _ h => h) (Or.inl ⟨by rfl, ?_⟩) ?_ ?_
                rotate_left
                · intro w'
                  go_simp
                  with_reducible rfl
                rotate_left
                · simp only [Act.put, List.setIfInBounds_toArray, List.set_cons_zero, List.set_cons_succ, i64_w, i32_w]
                  rfl
                have HSD := Aside0.mk (Kd.R_below HS.out hHeld)
                have HXD := Aside0.mk (below_step HX.out hHeld)
                have ca := (hHeld.cell (World.block_lt_of_cell? w8 _ CA_.out)).trans CA_.out
                have caf := (hHeld.frozen (World.block_lt_of_cell? w8 _ CA_.out)).trans CAF.out
                clear hHeld CA_ CB_ CAF CBF HS HX
                refine last_ (i := 15) (N := none) #[true, true, true, true, true, true, true, true, true, true, true, true, true, true, true, true, false, false] rfl rfl (one_of HT_.out (by kernel_rfl)) (by decide) (fun K hK => ?_)
                refine skip_ (w1 := ?_) (by rfl) rfl ?_ ?_
                rotate_left
                · go_simp
                  rfl
                refine hK.out _ _ ?_
                clear hK K ca caf
                have hs1 := Kd.R_putn HSD.out (k : Int) b
                rw [Int.toNat_natCast] at hs1
                have hx1 := HXD.out.setCell (p := ⟨gs, k, none⟩) HGS.out (.int .i64 b)
                generalize (World.setCell _ ⟨gs, k, none⟩ (.int .i64 b)) = w9 at hs1 hx1 ⊢
                have HS := Aside0.mk hs1
                have HX := Aside0.mk hx1
                clear hs1 hx1 HSD HXD
                obtain ⟨cb, cbf⟩ := own_cell HS.out (k + 1) (by omega)
                refine pure_ (i := 16) (N := some 115) (v := ?_) (a' := ?_) #[true, true, true, true, true, true, true, true, true, true, true, true, true, true, true, true, true, false] rfl rfl (any_of HT_.out (by kernel_rfl)) (fun _ _ _ h => h) (Or.inl ⟨by rfl, ?_⟩) ?_ ?_
                rotate_left
                · intro w'
                  go_simp
                  with_reducible rfl
                rotate_left
                · simp only [Act.put, List.setIfInBounds_toArray, List.set_cons_zero, List.set_cons_succ, i64_w, i32_w]
                  rfl
                refine last_ (i := 17) (N := none) #[true, true, true, true, true, true, true, true, true, true, true, true, true, true, true, true, true, true] rfl rfl (one_of HT_.out (by kernel_rfl)) (by decide) (fun K hK => ?_)
                refine skip_ (w1 := ?_) (by rfl) rfl ?_ ?_
                rotate_left
                · go_simp
                  rfl
                refine hK.out _ _ ?_
                clear hK K cb cbf
                have hs1 := Kd.R_putn HS.out ((k + 1 : Nat) : Int) a
                rw [Int.toNat_natCast, ← HA.out, ← HBB.out] at hs1
                have hs2 : Kd.R (Kd.int .i64) 3 _ w7.heap.size (fun _ => True) (.slice (some ⟨gs, 0, none⟩) no cs) (swapP o k) := hs1
                have hx1 := HX.out.setCell (p := ⟨gs, k + 1, none⟩) HGS.out (.int .i64 a)
                rw [HA.out] at hs2
                generalize (World.setCell w9 ⟨gs, k + 1, none⟩ (.int .i64 a)) = w10 at hs2 hx1 ⊢
                clear HS HX hs1
                have HS := Aside0.mk hs2
                have HX := Aside0.mk hx1
                clear hs2 hx1
                refine done_ (done_of HT_.out (by kernel_rfl)) ?_
                rename World => w10
                have HSW := Aside0.mk (HAS.out.other _ (swap_ne HAS.out.nodup (by rw [← HNO.out]; omega)))
                have hr := Kd.R_reads' HS.out
                have hsl : (swapP o k).length = no := by rw [swapP_len]; exact HNO.out.symm
                rw [hsl] at hr
                have HSC := Aside0.mk hr.2.2
                have HSL := Aside0.mk hr.2.1
                have HSN := Aside0.mk hsl.symm
                clear hr hsl HS
                obtain ⟨ad, e0, co0⟩ := int_cell HOD.out 0 (by omega)
                subst e0
                have co1 : w7.cell? ad = some (.int .i64 (o.getD 0 0)) := by have h := co0; unfold Addr.add at h; rw [if_pos rfl] at h; exact h
                clear co0
                obtain ⟨q0, hq0⟩ : ∃ q0, o.getD 0 0 = q0 := ⟨_, rfl⟩
                rw [hq0] at co1
                have HQ0 := Aside0.mk co1
                clear co1 hq0
                have hol : 1 ≤ o.length := by rw [← HNO.out]; omega
                have htl := Kd.C_drop (m := 1) (c := co) (by have h := HOD.out; rw [HNO.out] at h; exact h) hol (by rw [← HNO.out]; exact HOC.out)
                have hco1 : co ≠ 1 := by have := HOC.out; omega
                rw [if_neg hco1] at htl
                have hdl : no - 1 = (o.drop 1).length := by rw [List.length_drop, ← HNO.out]
                rw [← hdl] at htl
                have HTL : Aside0 (Kd.C (Kd.int .i64) w7 (some ⟨ad.block, ad.off + 1, none⟩) (no - 1) (o.drop 1)) := ⟨htl⟩
                have HDL := Aside0.mk hdl
                clear hdl
                have h1n : 1 ≤ (no : Int) := by omega
                have h0n : (0 : Int) < (no : Int) := by omega
                have h0m : 0 < no := by omega
                have HTN := Aside0.mk (HAS.out.other (o.drop 1) (fun e => by have h := congrArg List.length e; rw [List.length_drop] at h; omega))
                have HAP := Aside0.mk (HAS.out.other (o ++ [q0]) (fun e => by have h := congrArg List.length e; rw [List.length_append] at h; simp at h))
                clear htl hol
                go_upto_region 27 with (fail)
                refine start_ (n := 24) (S := fun w' => Below w10.heap.size w10 w') (ds := []) #[false, false, false, false, false, false, false, false, false, false, false, false, false, false, false, false, false, false, false, false, false, false, false, false] (by kernel_rfl) rfl rfl (below_drew (Below.refl _ _)) (fun hHeld => ?_)
                refine with_tabW r3_27.tab r3_27.bits (fun HT_ HW_ => ?_)
                generalize w10.drew = wd at hHeld ⊢
                refine pure_ (i := 0) (N := some 116) (v := ?_) (a' := ?_) #[true, false, false, false, false, false, false, false, false, false, false, false, false, false, false, false, false, false, false, false, false, false, false, false] rfl rfl (any_of HT_.out (by kernel_rfl)) (fun _ _ _ h => h) (Or.inl ⟨by rfl, ?_⟩) ?_ ?_
                rotate_left
                · intro w'
                  go_simp
                  with_reducible rfl
                rotate_left
                · simp only [Act.put, List.setIfInBounds_toArray, List.set_cons_zero, List.set_cons_succ, i64_w, i32_w]
                  rfl
                refine pure_ (i := 1) (N := some 117) (v := ?_) (a' := ?_) #[true, true, false, false, false, false, false, false, false, false, false, false, false, false, false, false, false, false, false, false, false, false, false, false] rfl rfl (any_of HT_.out (by kernel_rfl)) (fun _ _ _ h => h) (Or.inl ⟨by rfl, ?_⟩) ?_ ?_
                rotate_left
                · intro w'
                  go_simp
                  with_reducible rfl
                rotate_left
                · simp only [Act.put, List.setIfInBounds_toArray, List.set_cons_zero, List.set_cons_succ, i64_w, i32_w]
                  rfl
                refine pure_ (i := 2) (N := some 118) (v := ?_) (a' := ?_) #[true, true, true, false, false, false, false, false, false, false, false, false, false, false, false, false, false, false, false, false, false, false, false, false] rfl rfl (any_of HT_.out (by kernel_rfl)) (fun _ _ _ h => h) (Or.inl ⟨by rfl, ?_⟩) ?_ ?_
                rotate_left
                · intro w'
                  go_simp
                  with_reducible rfl
                rotate_left
                · simp only [Act.put, List.setIfInBounds_toArray, List.set_cons_zero, List.set_cons_succ, i64_w, i32_w]
                  rfl
                refine one_ (i := 3) (N := some 119) #[true, true, true, true, false, false, false, false, false, false, false, false, false, false, false, false, false, false, false, false, false, false, false, false] rfl rfl (one_of HT_.out (by kernel_rfl)) (by decide) (fun K hK => ?_)
                refine goes_ Try.func9 (by kernel_rfl) rfl #[.slice A0 base.length c0, .slice L calls.length clz, .slice (some ⟨gs, 0, none⟩) no cs] (by rfl) rfl rfl (by first | done | rfl | (simp only [List.map_toArray, List.map_cons, List.map_nil]; rfl)) ?_
                refine (fitsB HSW.out HLN.out.symm HSN.out (Kd.C_below HA0.out (below_step HB.out (below_step HX.out hHeld))) HC0.out (Kd.C_below HLL.out (below_step HX.out hHeld)) HLCC.out (Kd.C_below HSC.out hHeld) HSL.out hb1000 (by omega) (by omega) HOPS.out).mono ?_
                rintro e0 wq ⟨rfl, hb⟩
                refine ⟨_, rfl, ?_⟩
                have hx := below_step hHeld hb
                refine hK.out _ _ hx (fun hNew => ?_)
                clear hK K hx hb hHeld
                have hHeld := hNew
                clear hNew
                refine norm_ (a' := ?_) ?_ ?_
                rotate_left
                · show Act.put _ (some 119) _ = _
                  simp only [Act.put, List.setIfInBounds_toArray, List.set_cons_zero, List.set_cons_succ, i64_w, i32_w]
                  rfl
                refine pure_ (i := 4) (N := some 120) (v := ?_) (a' := ?_) #[true, true, true, true, true, false, false, false, false, false, false, false, false, false, false, false, false, false, false, false, false, false, false, false] rfl rfl (any_of HT_.out (by kernel_rfl)) (fun _ _ _ h => h) (Or.inl ⟨by rfl, ?_⟩) ?_ ?_
                rotate_left
                · intro w'
                  go_simp
                  with_reducible rfl
                rotate_left
                · simp only [Act.put, List.setIfInBounds_toArray, List.set_cons_zero, List.set_cons_succ, i64_w, i32_w]
                  rfl
                refine pure_ (i := 5) (N := some 121) (v := ?_) (a' := ?_) #[true, true, true, true, true, true, false, false, false, false, false, false, false, false, false, false, false, false, false, false, false, false, false, false] rfl rfl (any_of HT_.out (by kernel_rfl)) (fun _ _ _ h => h) (Or.inl ⟨by rfl, ?_⟩) ?_ ?_
                rotate_left
                · intro w'
                  go_simp
                  with_reducible rfl
                rotate_left
                · simp only [Act.put, List.setIfInBounds_toArray, List.set_cons_zero, List.set_cons_succ, i64_w, i32_w]
                  rfl
                refine pure_ (i := 6) (N := some 122) (v := ?_) (a' := ?_) #[true, true, true, true, true, true, true, false, false, false, false, false, false, false, false, false, false, false, false, false, false, false, false, false] rfl rfl (any_of HT_.out (by kernel_rfl)) (fun _ _ _ h => h) (Or.inl ⟨by rfl, ?_⟩) ?_ ?_
                rotate_left
                · intro w'
                  go_simp
                  with_reducible rfl
                rotate_left
                · simp only [Act.put, List.setIfInBounds_toArray, List.set_cons_zero, List.set_cons_succ, i64_w, i32_w]
                  rfl
                refine pure_ (i := 7) (N := some 123) (v := ?_) (a' := ?_) #[true, true, true, true, true, true, true, true, false, false, false, false, false, false, false, false, false, false, false, false, false, false, false, false] rfl rfl (any_of HT_.out (by kernel_rfl)) (fun _ _ _ h => h) (Or.inl ⟨by rfl, ?_⟩) ?_ ?_
                rotate_left
                · intro w'
                  go_simp
                  with_reducible rfl
                rotate_left
                · simp only [Act.put, List.setIfInBounds_toArray, List.set_cons_zero, List.set_cons_succ, i64_w, i32_w]
                  rfl
                refine pure_ (i := 8) (N := some 124) (v := ?_) (a' := ?_) #[true, true, true, true, true, true, true, true, true, false, false, false, false, false, false, false, false, false, false, false, false, false, false, false] rfl rfl (any_of HT_.out (by kernel_rfl)) (fun _ _ _ h => h) (Or.inl ⟨by rfl, ?_⟩) ?_ ?_
                rotate_left
                · intro w'
                  go_simp
                  with_reducible rfl
                rotate_left
                · simp only [Act.put, List.setIfInBounds_toArray, List.set_cons_zero, List.set_cons_succ, i64_w, i32_w]
                  rfl
                refine one_ (i := 9) (N := some 125) #[true, true, true, true, true, true, true, true, true, true, false, false, false, false, false, false, false, false, false, false, false, false, false, false] rfl rfl (one_of HT_.out (by kernel_rfl)) (by decide) (fun K hK => ?_)
                refine goes_ Try.func9 (by kernel_rfl) rfl #[.slice A0 base.length c0, .slice L calls.length clz, .slice (some ⟨ad.block, ad.off + 1, none⟩) (no - 1) (co - 1)] (by rfl) rfl rfl (by first | done | rfl | (simp only [List.map_toArray, List.map_cons, List.map_nil]; rfl)) ?_
                refine (fitsB HTN.out HLN.out.symm HDL.out (Kd.C_below HA0.out (below_step HB.out (below_step HX.out hHeld))) HC0.out (Kd.C_below HLL.out (below_step HX.out hHeld)) HLCC.out (Kd.C_below HTL.out (below_step HX.out hHeld)) (by have := HOC.out; omega) hb1000 (by omega) (by omega) HOPS.out).mono ?_
                rintro e0 wq ⟨rfl, hb⟩
                refine ⟨_, rfl, ?_⟩
                have hx := below_step hHeld hb
                refine hK.out _ _ hx (fun hNew => ?_)
                clear hK K hx hb hHeld
                have hHeld := hNew
                clear hNew
                refine norm_ (a' := ?_) ?_ ?_
                rotate_left
                · show Act.put _ (some 125) _ = _
                  simp only [Act.put, List.setIfInBounds_toArray, List.set_cons_zero, List.set_cons_succ, i64_w, i32_w]
                  rfl
                refine pure_ (i := 10) (N := some 126) (v := ?_) (a' := ?_) #[true, true, true, true, true, true, true, true, true, true, true, false, false, false, false, false, false, false, false, false, false, false, false, false] rfl rfl (any_of HT_.out (by kernel_rfl)) (fun _ _ _ h => h) (Or.inl ⟨by rfl, ?_⟩) ?_ ?_
                rotate_left
                · intro w'
                  go_simp
                  with_reducible rfl
                rotate_left
                · simp only [Act.put, List.setIfInBounds_toArray, List.set_cons_zero, List.set_cons_succ, i64_w, i32_w]
                  rfl
                refine pure_ (i := 11) (N := some 127) (v := ?_) (a' := ?_) #[true, true, true, true, true, true, true, true, true, true, true, true, false, false, false, false, false, false, false, false, false, false, false, false] rfl rfl (any_of HT_.out (by kernel_rfl)) (fun _ _ _ h => h) (Or.inl ⟨by rfl, ?_⟩) ?_ ?_
                rotate_left
                · intro w'
                  go_simp
                  with_reducible rfl
                rotate_left
                · simp only [Act.put, List.setIfInBounds_toArray, List.set_cons_zero, List.set_cons_succ, i64_w, i32_w]
                  rfl
                refine pure_ (i := 12) (N := some 128) (v := ?_) (a' := ?_) #[true, true, true, true, true, true, true, true, true, true, true, true, true, false, false, false, false, false, false, false, false, false, false, false] rfl rfl (any_of HT_.out (by kernel_rfl)) (fun _ _ _ h => h) (Or.inl ⟨by rfl, ?_⟩) ?_ ?_
                rotate_left
                · intro w'
                  go_simp
                  with_reducible rfl
                rotate_left
                · simp only [Act.put, List.setIfInBounds_toArray, List.set_cons_zero, List.set_cons_succ, i64_w, i32_w]
                  rfl
                refine pure_ (i := 13) (N := some 129) (v := ?_) (a' := ?_) #[true, true, true, true, true, true, true, true, true, true, true, true, true, true, false, false, false, false, false, false, false, false, false, false] rfl rfl (any_of HT_.out (by kernel_rfl)) (fun _ _ _ h => h) (Or.inl ⟨by rfl, ?_⟩) ?_ ?_
                rotate_left
                · intro w'
                  go_simp
                  with_reducible rfl
                rotate_left
                · simp only [Act.put, List.setIfInBounds_toArray, List.set_cons_zero, List.set_cons_succ, i64_w, i32_w]
                  rfl
                refine pure_ (i := 15) (N := some 131) (v := ?_) (a' := ?_) #[true, true, true, true, true, true, true, true, true, true, true, true, true, true, false, true, false, false, false, false, false, false, false, false] rfl rfl (any_of HT_.out (by kernel_rfl)) (fun _ _ _ h => h) (Or.inl ⟨by rfl, ?_⟩) ?_ ?_
                rotate_left
                · intro w'
                  go_simp
                  with_reducible rfl
                rotate_left
                · simp only [Act.put, List.setIfInBounds_toArray, List.set_cons_zero, List.set_cons_succ, i64_w, i32_w]
                  rfl
                refine pure_ (i := 17) (N := some 133) (v := ?_) (a' := ?_) #[true, true, true, true, true, true, true, true, true, true, true, true, true, true, false, true, false, true, false, false, false, false, false, false] rfl rfl (any_of HT_.out (by kernel_rfl)) (fun _ _ _ h => h) (Or.inl ⟨by rfl, ?_⟩) ?_ ?_
                rotate_left
                · intro w'
                  go_simp
                  with_reducible rfl
                rotate_left
                · simp only [Act.put, List.setIfInBounds_toArray, List.set_cons_zero, List.set_cons_succ, i64_w, i32_w]
                  rfl
                refine pure_ (i := 18) (N := some 134) (v := ?_) (a' := ?_) #[true, true, true, true, true, true, true, true, true, true, true, true, true, true, false, true, false, true, true, false, false, false, false, false] rfl rfl (any_of HT_.out (by kernel_rfl)) (fun _ _ _ h => h) (Or.inl ⟨by rfl, ?_⟩) ?_ ?_
                rotate_left
                · intro w'
                  go_simp
                  with_reducible rfl
                rotate_left
                · simp only [Act.put, List.setIfInBounds_toArray, List.set_cons_zero, List.set_cons_succ, i64_w, i32_w]
                  rfl
                refine take_ (i := 19) (N := some 135) (v := ?_) (a' := ?_) #[true, true, true, true, true, true, true, true, true, true, true, true, true, true, false, true, false, true, true, true, false, false, false, false] rfl rfl (take_ofW HT_.out HW_.out (by kernel_rfl)) (fun _ _ _ h => h) (Or.inl ⟨by rfl, ?_⟩) hHeld ?_ ?_
                rotate_left
                · rintro w' hbq
                  have c_0 := ((below_step HX.out hbq).cell (World.block_lt_of_cell? w7 _ HQ0.out)).trans HQ0.out
                  go_simp
                  with_reducible rfl
                rotate_left
                · simp only [Act.put, List.setIfInBounds_toArray, List.set_cons_zero, List.set_cons_succ, i64_w, i32_w]
                  rfl
                refine joinX (ι := Value × Value × Nat) 3 #[true, true, true, true, true, true, true, true, true, true, true, true, true, true, true, true, true, true, true, true, true, false, false, false] (fun i => [(130, i.1), (132, i.2.1), (136, .slice (some ⟨i.2.2, 0, none⟩) 1 1)]) (fun i wx => Aside0 (Below w10.heap.size w10 wx) ∧ Aside0 (Kd.R (Kd.int .i64) 3 wx w10.heap.size (fun _ => True) i.2.1 o) ∧ Aside0 (wx.heap[i.2.2]? = some (.cells #[.int .i64 q0] 3 (0, 0))) ∧ Aside0 (some i.2.2 ≠ i.2.1.ownBlock)) ?_ (fun JJ => ?_)
                rotate_left
                · refine two_ (i := 14) (j := 20) (Ni := some 130) (Nj := some 136) #[true, true, true, true, true, true, true, true, true, true, true, true, true, true, true, true, false, true, true, true, false, false, false, false] #[true, true, true, true, true, true, true, true, true, true, true, true, true, true, false, true, false, true, true, true, true, false, false, false] rfl rfl rfl rfl (two_of HT_.out (by kernel_rfl)) (by decide) (by decide) (fun K hK => ?_) (fun K hK => ?_)
                  · refine Kd.R_lit_step (Kd.int .i64) (w0 := w10) w10.heap.size 3 (by rfl) rfl (xs := ([] : List Int)) (inner := []) (ok := fun _ => True) (okp := fun _ => False) (by first | (go_simp; done) | (go_simp; rfl)) (Reps.none _ _) (fun _ hk => hk.elim) trivial hHeld (below_size hHeld) (by simp) ?_
                    intro v130 w11 ho hx hg hat
                    have R130 := Aside0.mk ho
                    clear ho hg hat hHeld
                    refine hK.out _ _ hx (fun hHeld => ?_)
                    clear hK K hx
                    refine norm_ (a' := ?_) ?_ ?_
                    rotate_left
                    · show Act.put _ (some 130) _ = _
                      simp only [Act.put, List.setIfInBounds_toArray, List.set_cons_zero, List.set_cons_succ, i64_w, i32_w]
                      rfl
                    refine two_ (i := 16) (j := 20) (Ni := some 132) (Nj := some 136) #[true, true, true, true, true, true, true, true, true, true, true, true, true, true, true, true, true, true, true, true, false, false, false, false] #[true, true, true, true, true, true, true, true, true, true, true, true, true, true, true, true, false, true, true, true, true, false, false, false] rfl rfl rfl rfl (two_of HT_.out (by kernel_rfl)) (by decide) (by decide) (fun K hK => ?_) (fun K hK => ?_)
                    · refine Kd.R_append_rows_step (Kd.int .i64) (w0 := w10) w10.heap.size rfl (.tmp 130) (.tmp 131) 38 3 (.int .i64 0) 8 rfl Try.underlying38 infoI64 rfl (by decide) (by omega) v130 ([] : List Int) o (some ad) no co (fun _ => True) (fun _ => False) (by simp [Act.eval]) (by simp [Act.eval]) R130.out (Kd.C_below HOD.out (below_step HX.out hHeld)) (fun x cs hx => hx) (fun _ hk => hk.elim) (fun _ _ => trivial) hHeld (below_size hHeld) (by simp only [List.length_nil]; omega) ?_
                      intro v132 w11 ho hx hg hat
                      rw [List.nil_append] at ho
                      have R132 := Aside0.mk ho
                      clear R130 ho hg hat hHeld
                      refine hK.out _ _ hx (fun hHeld => ?_)
                      clear hK K hx
                      refine norm_ (a' := ?_) ?_ ?_
                      rotate_left
                      · show Act.put _ (some 132) _ = _
                        simp only [Act.put, List.setIfInBounds_toArray, List.set_cons_zero, List.set_cons_succ, i64_w, i32_w]
                        rfl
                      refine one_ (i := 20) (N := some 136) #[true, true, true, true, true, true, true, true, true, true, true, true, true, true, true, true, true, true, true, true, true, false, false, false] rfl rfl (one_of HT_.out (by kernel_rfl)) (by decide) (fun K hK => ?_)
                      refine lit_step (cs := #[.int .i64 q0]) (t := 3) (k := 1) (by rfl) (by first | (go_simp; done) | (go_simp; rfl)) ?_
                      intro vb hg w11 hbox hb
                      have hx := below_step hHeld hb
                      have NEV : Aside0 (some vb ≠ v132.ownBlock) := ⟨fun e => by have h8 := Kd.R_lt R132.out vb e.symm; omega⟩
                      have n_R132 := Aside0.mk (Kd.R_below R132.out hb)
                      clear R132
                      have R132 := n_R132
                      clear n_R132
                      have BVB := Aside0.mk hbox
                      clear hg hbox hb hHeld
                      refine hK.out _ _ hx (fun hHeld => ?_)
                      clear hK K hx
                      refine norm_ ?_ (JJ.out (v130, v132, vb) _ ⟨⟨hHeld⟩, R132, BVB, NEV⟩)
                      show Act.put _ (some 136) _ = _
                      simp only [putAll, Act.put, List.setIfInBounds_toArray, List.set_cons_zero, List.set_cons_succ]
                    · refine lit_step (cs := #[.int .i64 q0]) (t := 3) (k := 1) (by rfl) (by first | (go_simp; done) | (go_simp; rfl)) ?_
                      intro vb hg w11 hbox hb
                      have hx := below_step hHeld hb
                      have NEV : Aside0 (some vb ≠ v130.ownBlock) := ⟨fun e => by have h8 := Kd.R_lt R130.out vb e.symm; omega⟩
                      have n_R130 := Aside0.mk (Kd.R_below R130.out hb)
                      clear R130
                      have R130 := n_R130
                      clear n_R130
                      have BVB := Aside0.mk hbox
                      clear hg hbox hb hHeld
                      refine hK.out _ _ hx (fun hHeld => ?_)
                      clear hK K hx
                      refine norm_ (a' := ?_) ?_ ?_
                      rotate_left
                      · show Act.put _ (some 136) _ = _
                        simp only [Act.put, List.setIfInBounds_toArray, List.set_cons_zero, List.set_cons_succ, i64_w, i32_w]
                        rfl
                      refine one_ (i := 16) (N := some 132) #[true, true, true, true, true, true, true, true, true, true, true, true, true, true, true, true, true, true, true, true, true, false, false, false] rfl rfl (one_of HT_.out (by kernel_rfl)) (by decide) (fun K hK => ?_)
                      refine Kd.R_append_rows_step (Kd.int .i64) (w0 := w10) w10.heap.size rfl (.tmp 130) (.tmp 131) 38 3 (.int .i64 0) 8 rfl Try.underlying38 infoI64 rfl (by decide) (by omega) v130 ([] : List Int) o (some ad) no co (fun _ => True) (fun _ => False) (by simp [Act.eval]) (by simp [Act.eval]) R130.out (Kd.C_below HOD.out (below_step HX.out hHeld)) (fun x cs hx => hx) (fun _ hk => hk.elim) (fun _ _ => trivial) hHeld (below_size hHeld) (by simp only [List.length_nil]; omega) ?_
                      intro v132 w11 ho hx hg hat
                      rw [List.nil_append] at ho
                      have R132 := Aside0.mk ho
                      have n_BVB := Aside0.mk (blk_grown BVB.out hg NEV.out)
                      have n_NEV : Aside0 (some vb ≠ v132.ownBlock) := ⟨fun e => by
                        rcases hat with h9 | ⟨b9, e9, hle⟩
                        · rw [h9] at e; exact NEV.out e
                        · rw [e9] at e; have h8 := blk_lt BVB.out; cases e; omega⟩
                      clear BVB NEV
                      have BVB := n_BVB
                      have NEV := n_NEV
                      clear n_BVB n_NEV
                      clear R130 ho hg hat hHeld
                      refine hK.out _ _ hx (fun hHeld => ?_)
                      clear hK K hx
                      refine norm_ ?_ (JJ.out (v130, v132, vb) _ ⟨⟨hHeld⟩, R132, BVB, NEV⟩)
                      show Act.put _ (some 132) _ = _
                      simp only [putAll, Act.put, List.setIfInBounds_toArray, List.set_cons_zero, List.set_cons_succ]
                  · refine lit_step (cs := #[.int .i64 q0]) (t := 3) (k := 1) (by rfl) (by first | (go_simp; done) | (go_simp; rfl)) ?_
                    intro vb hg w11 hbox hb
                    have hx := below_step hHeld hb
                    have BVB := Aside0.mk hbox
                    clear hg hbox hb hHeld
                    refine hK.out _ _ hx (fun hHeld => ?_)
                    clear hK K hx
                    refine norm_ (a' := ?_) ?_ ?_
                    rotate_left
                    · show Act.put _ (some 136) _ = _
                      simp only [Act.put, List.setIfInBounds_toArray, List.set_cons_zero, List.set_cons_succ, i64_w, i32_w]
                      rfl
                    refine one_ (i := 14) (N := some 130) #[true, true, true, true, true, true, true, true, true, true, true, true, true, true, true, true, false, true, true, true, true, false, false, false] rfl rfl (one_of HT_.out (by kernel_rfl)) (by decide) (fun K hK => ?_)
                    refine Kd.R_lit_step (Kd.int .i64) (w0 := w10) w10.heap.size 3 (by rfl) rfl (xs := ([] : List Int)) (inner := []) (ok := fun _ => True) (okp := fun _ => False) (by first | (go_simp; done) | (go_simp; rfl)) (Reps.none _ _) (fun _ hk => hk.elim) trivial hHeld (below_size hHeld) (by simp) ?_
                    intro v130 w11 ho hx hg hat
                    have R130 := Aside0.mk ho
                    have NEV : Aside0 (some vb ≠ v130.ownBlock) := ⟨fun e => by obtain ⟨b9, e9, hle⟩ := hat; rw [e9] at e; have h8 := blk_lt BVB.out; cases e; omega⟩
                    have n_BVB := Aside0.mk (blk_grown BVB.out hg (by simp))
                    clear BVB
                    have BVB := n_BVB
                    clear n_BVB
                    clear ho hg hat hHeld
                    refine hK.out _ _ hx (fun hHeld => ?_)
                    clear hK K hx
                    refine norm_ (a' := ?_) ?_ ?_
                    rotate_left
                    · show Act.put _ (some 130) _ = _
                      simp only [Act.put, List.setIfInBounds_toArray, List.set_cons_zero, List.set_cons_succ, i64_w, i32_w]
                      rfl
                    refine one_ (i := 16) (N := some 132) #[true, true, true, true, true, true, true, true, true, true, true, true, true, true, true, true, true, true, true, true, true, false, false, false] rfl rfl (one_of HT_.out (by kernel_rfl)) (by decide) (fun K hK => ?_)
                    refine Kd.R_append_rows_step (Kd.int .i64) (w0 := w10) w10.heap.size rfl (.tmp 130) (.tmp 131) 38 3 (.int .i64 0) 8 rfl Try.underlying38 infoI64 rfl (by decide) (by omega) v130 ([] : List Int) o (some ad) no co (fun _ => True) (fun _ => False) (by simp [Act.eval]) (by simp [Act.eval]) R130.out (Kd.C_below HOD.out (below_step HX.out hHeld)) (fun x cs hx => hx) (fun _ hk => hk.elim) (fun _ _ => trivial) hHeld (below_size hHeld) (by simp only [List.length_nil]; omega) ?_
                    intro v132 w11 ho hx hg hat
                    rw [List.nil_append] at ho
                    have R132 := Aside0.mk ho
                    have n_BVB := Aside0.mk (blk_grown BVB.out hg NEV.out)
                    have n_NEV : Aside0 (some vb ≠ v132.ownBlock) := ⟨fun e => by
                      rcases hat with h9 | ⟨b9, e9, hle⟩
                      · rw [h9] at e; exact NEV.out e
                      · rw [e9] at e; have h8 := blk_lt BVB.out; cases e; omega⟩
                    clear BVB NEV
                    have BVB := n_BVB
                    have NEV := n_NEV
                    clear n_BVB n_NEV
                    clear R130 ho hg hat hHeld
                    refine hK.out _ _ hx (fun hHeld => ?_)
                    clear hK K hx
                    refine norm_ ?_ (JJ.out (v130, v132, vb) _ ⟨⟨hHeld⟩, R132, BVB, NEV⟩)
                    show Act.put _ (some 132) _ = _
                    simp only [putAll, Act.put, List.setIfInBounds_toArray, List.set_cons_zero, List.set_cons_succ]
                rintro ⟨v130, v132, vb⟩ wx ⟨HH, R132, BVB, NEV⟩
                dsimp only at R132 BVB NEV ⊢
                simp only [putAll, Act.put, List.setIfInBounds_toArray, List.set_cons_zero, List.set_cons_succ]
                clear hHeld
                have hHeld := HH.out
                refine one_ (i := 21) (N := some 137) #[true, true, true, true, true, true, true, true, true, true, true, true, true, true, true, true, true, true, true, true, true, true, false, false] rfl rfl (one_of HT_.out (by kernel_rfl)) (by decide) (fun K hK => ?_)
                refine Kd.R_append_rows_step (Kd.int .i64) (w0 := w10) w10.heap.size rfl (.tmp 132) (.tmp 136) 38 3 (.int .i64 0) 8 rfl Try.underlying38 infoI64 rfl (by decide) (by omega) v132 o [q0] (some ⟨vb, 0, none⟩) 1 1 (fun _ => True) (fun _ => False) (by simp [Act.eval]) (by simp [Act.eval]) R132.out (lit_C (k := .i64) [q0] BVB.out rfl (by simp)) (fun x cs hx => hx) (fun _ hk => hk.elim) (fun _ _ => trivial) hHeld (below_size hHeld) (by rw [← HNO.out]; omega) ?_
                intro v137 w11 ho hx hg hat
                obtain ⟨A37, c37, hv⟩ := R_form ho
                have hl37 : (o ++ [q0]).length = no + 1 := by rw [List.length_append, ← HNO.out]; rfl
                rw [hl37] at hv
                subst hv
                have R137 := Aside0.mk ho
                have HL37 := Aside0.mk hl37.symm
                clear hHeld
                refine hK.out _ _ hx (fun hHeld => ?_)
                clear hK K hx ho hg hat R132 BVB NEV HH hl37
                refine norm_ (a' := ?_) ?_ ?_
                rotate_left
                · show Act.put _ (some 137) _ = _
                  simp only [Act.put, List.setIfInBounds_toArray, List.set_cons_zero, List.set_cons_succ, i64_w, i32_w]
                  rfl
                have hr := Kd.R_reads' R137.out
                rw [← HL37.out] at hr
                have HC37 := Aside0.mk hr.2.2
                have HB37 := Aside0.mk hr.2.1
                clear hr
                rename World => w11
                have HH0 := Aside0.mk hHeld
                refine one_ (i := 22) (N := some 138) #[true, true, true, true, true, true, true, true, true, true, true, true, true, true, true, true, true, true, true, true, true, true, true, false] rfl rfl (one_of HT_.out (by kernel_rfl)) (by decide) (fun K hK => ?_)
                refine goes_ Try.func9 (by kernel_rfl) rfl #[.slice A0 base.length c0, .slice L calls.length clz, .slice A37 (no + 1) c37] (by rfl) rfl rfl (by first | done | rfl | (simp only [List.map_toArray, List.map_cons, List.map_nil]; rfl)) ?_
                refine (fitsB HAP.out HLN.out.symm HL37.out (Kd.C_below HA0.out (below_step HB.out (below_step HX.out hHeld))) HC0.out (Kd.C_below HLL.out (below_step HX.out hHeld)) HLCC.out HC37.out HB37.out hb1000 (by omega) (by omega) HOPS.out).mono ?_
                rintro e0 wq ⟨rfl, hb⟩
                refine ⟨_, rfl, ?_⟩
                have hx := below_step hHeld hb
                refine hK.out _ _ hx (fun hNew => ?_)
                clear hK K hx hb hHeld
                have hHeld := hNew
                clear hNew
                refine norm_ (a' := ?_) ?_ ?_
                rotate_left
                · show Act.put _ (some 138) _ = _
                  simp only [Act.put, List.setIfInBounds_toArray, List.set_cons_zero, List.set_cons_succ, i64_w, i32_w]
                  rfl
                refine pure_ (i := 23) (N := some 139) (v := ?_) (a' := ?_) #[true, true, true, true, true, true, true, true, true, true, true, true, true, true, true, true, true, true, true, true, true, true, true, true] rfl rfl (any_of HT_.out (by kernel_rfl)) (fun _ _ _ h => h) (Or.inl ⟨by rfl, ?_⟩) ?_ ?_
                rotate_left
                · intro w'
                  go_simp
                  with_reducible rfl
                rotate_left
                · simp only [Act.put, List.setIfInBounds_toArray, List.set_cons_zero, List.set_cons_succ, i64_w, i32_w]
                  rfl
                refine done_ (done_of HT_.out (by kernel_rfl)) ?_
                have HXE := Aside0.mk (below_step HX.out hHeld)
                clear hHeld
                go_wp2
                go_meet
                case rel => exact HXE
            case rest =>
              clear HX hq hq2
              clear q
              rename World => w8
              have HX := hcut
              clear hcut
              have hnz : ((no : Int) == 0) = false := beq_eq_false_iff_ne.2 (by omega)
              obtain ⟨j, hj⟩ : ∃ j : Nat, at_ % (no : Int) = (j : Int) := ⟨(at_ % (no : Int)).toNat, by have := Int.emod_nonneg at_ (show (no : Int) ≠ 0 by omega); omega⟩
              have hjn : j < no := by have := Int.emod_lt_of_pos at_ (show 0 < (no : Int) by omega); omega
              have hmem : o.getD j 0 ∈ o := by rw [List.getD_eq_getElem?_getD, List.getElem?_eq_getElem (by rw [← HNO.out]; exact hjn)]; exact List.getElem_mem _
              obtain ⟨n, hn, hnl, hnk⟩ := HAS.out.mem _ hmem
              obtain ⟨ao, e0, co0⟩ := int_cell HOD.out j hjn
              have HE9 := Aside0.mk e0
              subst e0
              rw [hn] at co0
              have co1 := (HX.out.cell (World.block_lt_of_cell? w7 _ co0)).trans co0
              clear hmem hn co0
              have hjn2 : (j : Int) < (no : Int) := by omega
              have HNL := Aside0.mk hnl
              have HNK := Aside0.mk hnk
              have hnc : n < calls.length := by have := HLN.out; omega
              have hnc2 : (n : Int) < (calls.length : Int) := by omega
              clear hnl hnk
              go_upto_region 30 with (fail)
              clear co1 hj hjn hjn2 hnz
              obtain ⟨adl, A1', c1', A9, c9, e0, hcl, hdi⟩ := at36 HL36.out n HNL.out
              have HE8 := Aside0.mk e0
              subst e0
              have hasw := HAS.out.wrong n HNL.out HNK.out
              obtain ⟨x, hx⟩ : ∃ x, l.getD n z36 = x := ⟨_, rfl⟩
              rw [hx] at hcl hdi hasw
              have HXE := Aside0.mk hx
              have HASW := Aside0.mk hasw
              have HCL := Aside0.mk hcl
              have HDI := Aside0.mk hdi
              clear hcl hdi hasw hx
              have x0 := (HX.out.cell (World.block_lt_of_cell? w7 _ HCL.out.x0)).trans HCL.out.x0
              by_cases h1 : x.f0.f0 = 1
              · have y1 : (x.f0.f0 == 1) = true := by rw [h1]; rfl
                clear h1
                go_wp2_with (first | (go_at_call 7; refine (awake7 _).mono ?_; rintro e w5 ⟨rfl, hb⟩; have n_HX := Aside0.mk (below_step HX.out hb); clear HX; have HX := n_HX; clear n_HX; clear hb))
                go_ret
                exact ⟨rfl, below_step HB.out HX.out⟩
              have y1 : (x.f0.f0 == 1) = false := beq_eq_false_iff_ne.2 h1
              have HN1 := Aside0.mk h1
              go_upto_region 32 with (fail)
              clear y1 x0 h1
              go_upto_region 33 with (first | ((with_reducible refine gate_dst (N := 156) rfl ?_); (refine Kd.N_lit k36 (w0 := w7) w7.heap.size 36 rfl rfl (xs := ([] : List S36)) (inner := []) (ok := fun _ => True) (okp := fun _ => False) ?hrun ?hrep (fun _ hk => hk.elim) trivial HX.out (below_size HX.out) (by simp) ?_); (case hrun => first | (go_simp; done) | (go_simp; rfl)); (case hrep => exact Reps.none _ _); intro v5 w5 ho hb hg hat; have HE := Aside0.mk ho; clear HX; have HX := Aside0.mk hb; clear ho hb hg hat) | ((with_reducible refine gate_builtin (b := .append) (xs := #[.tmp 156, .tmp 157]) rfl ?_); at_builtin; (refine Kd.N_append_rows k36 (w0 := w7) w7.heap.size rfl (.tmp 156) (.tmp 157) 26 36 _ 128 rfl Try.underlying26 info36 rfl (by decide) (by decide) _ [] l (some adl) calls.length clz (fun _ => True) (fun k => k < w7.heap.size) rfl rfl HE.out (arg_F36 HLL.out HX.out) (fun k hk => ⟨trivial, fun e => by have := Kd.N_base HE.out k e.symm; omega⟩) (fun _ _ => trivial) HX.out (below_size HX.out) (by (try simp only [List.length_nil]); omega) ?_); intro v1 w1 ho hb hg hat; rw [List.nil_append] at ho; obtain ⟨gw, cw, hv, hgw, _⟩ := Kd.N_form ho (by have := HNL.out; omega); rw [HLN.out] at hv; subst hv; have HW := Aside0.mk ho; have HGW := Aside0.mk hgw; clear HX; have HX := Aside0.mk hb; clear ho hb hg hat hgw HE))
              rename World => w9
              have hx7 := blk_below X7.out HX.out
              rw [← ho7] at hx7
              have X9 := Aside0.mk hx7
              clear hx7
              have hnn0 : (0 : Int) ≤ (n : Int) := by omega
              refine start_ (n := 15) (S := fun w' => Below w9.heap.size w9 w') (ds := [14]) #[false, false, false, false, false, false, false, false, false, false, false, false, false, false, false] (by kernel_rfl) rfl rfl (below_drew (Below.refl _ _)) (fun hHeld => ?_)
              refine with_tabW r3_33.tab r3_33.bits (fun HT_ HW_ => ?_)
              generalize w9.drew = wd at hHeld ⊢
              refine pure_ (i := 0) (N := some 159) (v := ?_) (a' := ?_) #[true, false, false, false, false, false, false, false, false, false, false, false, false, false, false] rfl rfl (any_of HT_.out (by kernel_rfl)) (fun _ _ _ h => h) (Or.inl ⟨by rfl, ?_⟩) ?_ ?_
              rotate_left
              · intro w'
                go_simp
                with_reducible rfl
              rotate_left
              · simp only [Act.put, List.setIfInBounds_toArray, List.set_cons_zero, List.set_cons_succ, i64_w, i32_w]
                rfl
              refine pure_ (i := 1) (N := some 160) (v := ?_) (a' := ?_) #[true, true, false, false, false, false, false, false, false, false, false, false, false, false, false] rfl rfl (any_of HT_.out (by kernel_rfl)) (fun _ _ _ h => h) (Or.inl ⟨by rfl, ?_⟩) ?_ ?_
              rotate_left
              · intro w'
                go_simp
                with_reducible rfl
              rotate_left
              · simp only [Act.put, List.setIfInBounds_toArray, List.set_cons_zero, List.set_cons_succ, i64_w, i32_w]
                rfl
              refine pure_ (i := 3) (N := some 162) (v := ?_) (a' := ?_) #[true, true, false, true, false, false, false, false, false, false, false, false, false, false, false] rfl rfl (any_of HT_.out (by kernel_rfl)) (fun _ _ _ h => h) (Or.inl ⟨by rfl, ?_⟩) ?_ ?_
              rotate_left
              · intro w'
                go_simp
                with_reducible rfl
              rotate_left
              · simp only [Act.put, List.setIfInBounds_toArray, List.set_cons_zero, List.set_cons_succ, i64_w, i32_w]
                rfl
              refine pure_ (i := 4) (N := some 163) (v := ?_) (a' := ?_) #[true, true, false, true, true, false, false, false, false, false, false, false, false, false, false] rfl rfl (any_of HT_.out (by kernel_rfl)) (fun _ _ _ h => h) (Or.inl ⟨by rfl, ?_⟩) ?_ ?_
              rotate_left
              · intro w'
                go_simp
                with_reducible rfl
              rotate_left
              · simp only [Act.put, List.setIfInBounds_toArray, List.set_cons_zero, List.set_cons_succ, i64_w, i32_w]
                rfl
              refine pure_ (i := 5) (N := some 164) (v := ?_) (a' := ?_) #[true, true, false, true, true, true, false, false, false, false, false, false, false, false, false] rfl rfl (any_of HT_.out (by kernel_rfl)) (fun _ _ _ h => h) (Or.inl ⟨by rfl, ?_⟩) ?_ ?_
              rotate_left
              · intro w'
                go_simp
                with_reducible rfl
              rotate_left
              · simp only [Act.put, List.setIfInBounds_toArray, List.set_cons_zero, List.set_cons_succ, i64_w, i32_w]
                rfl
              refine pure_ (i := 6) (N := some 165) (v := ?_) (a' := ?_) #[true, true, false, true, true, true, true, false, false, false, false, false, false, false, false] rfl rfl (any_of HT_.out (by kernel_rfl)) (fun _ _ _ h => h) (Or.inl ⟨by rfl, ?_⟩) ?_ ?_
              rotate_left
              · intro w'
                go_simp
                with_reducible rfl
              rotate_left
              · simp only [Act.put, List.setIfInBounds_toArray, List.set_cons_zero, List.set_cons_succ, i64_w, i32_w]
                rfl
              refine take_ (i := 7) (N := some 166) (v := ?_) (a' := ?_) #[true, true, false, true, true, true, true, true, false, false, false, false, false, false, false] rfl rfl (take_ofW HT_.out HW_.out (by kernel_rfl)) (fun _ _ _ h => h) (Or.inl ⟨by rfl, ?_⟩) hHeld ?_ ?_
              rotate_left
              · rintro w' hbq
                have c_0 := ((below_step HX.out hbq).cell (World.block_lt_of_cell? w7 _ HCL.out.x9)).trans HCL.out.x9
                go_simp
                with_reducible rfl
              rotate_left
              · simp only [Act.put, List.setIfInBounds_toArray, List.set_cons_zero, List.set_cons_succ, i64_w, i32_w]
                rfl
              refine take_ (i := 9) (N := some 168) (v := ?_) (a' := ?_) #[true, true, false, true, true, true, true, true, false, true, false, false, false, false, false] rfl rfl (take_ofW HT_.out HW_.out (by kernel_rfl)) (fun _ _ _ h => h) (Or.inl ⟨by rfl, ?_⟩) hHeld ?_ ?_
              rotate_left
              · rintro w' hbq
                have c_0 := (blk_cell (blk_below X9.out hbq) 0).trans (show _ = some (.string other.f0) from rfl)
                have c_1 := (blk_cell (blk_below X9.out hbq) 1).trans (show _ = some (.string other.f1) from rfl)
                go_simp
                with_reducible rfl
              rotate_left
              · simp only [Act.put, List.setIfInBounds_toArray, List.set_cons_zero, List.set_cons_succ, i64_w, i32_w]
                rfl
              have HF5 : Aside0 (x.f5.length ≤ 1000000) := ⟨by have h := told_small (base := base) (calls := calls) hnc HK.out (by omega); rw [HLE.out, HXE.out] at h; omega⟩
              refine joinX (ι := Value × Value × Nat) 4 #[true, true, true, true, true, true, true, true, true, true, true, false, false, false, false] (fun i => [(161, i.1), (167, i.2.1), (169, .slice (some ⟨i.2.2, 0, none⟩) 1 1)]) (fun i wx => Aside0 (Below w9.heap.size w9 wx) ∧ Aside0 (Kd.R k25 25 wx w9.heap.size (fun _ => True) i.2.1 x.f5) ∧ Aside0 (wx.heap[i.2.2]? = some (.cells #[.string other.f0, .string other.f1] 25 (0, 0))) ∧ Aside0 (some i.2.2 ≠ i.2.1.ownBlock)) ?_ (fun JJ => ?_)
              rotate_left
              · refine two_ (i := 2) (j := 10) (Ni := some 161) (Nj := some 169) #[true, true, true, true, true, true, true, true, false, true, false, false, false, false, false] #[true, true, false, true, true, true, true, true, false, true, true, false, false, false, false] rfl rfl rfl rfl (two_of HT_.out (by kernel_rfl)) (by decide) (by decide) (fun K hK => ?_) (fun K hK => ?_)
                · refine Kd.R_lit_step k25 (w0 := w9) w9.heap.size 25 (by rfl) rfl (xs := ([] : List S25)) (inner := []) (ok := fun _ => True) (okp := fun _ => False) (by first | (go_simp; done) | (go_simp; rfl)) (Reps.none _ _) (fun _ hk => hk.elim) trivial hHeld (below_size hHeld) (by simp) ?_
                  intro vA w11 ho hx hg hat
                  have RA := Aside0.mk ho
                  clear ho hg hat hHeld
                  refine hK.out _ _ hx (fun hHeld => ?_)
                  clear hK K hx
                  refine norm_ (a' := ?_) ?_ ?_
                  rotate_left
                  · show Act.put _ (some 161) _ = _
                    simp only [Act.put, List.setIfInBounds_toArray, List.set_cons_zero, List.set_cons_succ, i64_w, i32_w]
                    rfl
                  refine two_ (i := 8) (j := 10) (Ni := some 167) (Nj := some 169) #[true, true, true, true, true, true, true, true, true, true, false, false, false, false, false] #[true, true, true, true, true, true, true, true, false, true, true, false, false, false, false] rfl rfl rfl rfl (two_of HT_.out (by kernel_rfl)) (by decide) (by decide) (fun K hK => ?_) (fun K hK => ?_)
                  · refine Kd.R_append_rows_step k25 (w0 := w9) w9.heap.size rfl (.tmp 161) (.tmp 166) 22 25 (.agg #[(.string ⟨#[]⟩), (.string ⟨#[]⟩)]) 32 rfl Try.underlying22 info25 rfl (by decide) (by decide) vA ([] : List S25) x.f5 A9 x.f5.length c9 (fun _ => True) (fun _ => False) (by simp [Act.eval]) (by simp [Act.eval]) RA.out (Kd.C_below HDI.out.p (below_step HX.out hHeld)) (fun x cs h => k25_KM x cs h) (fun _ hk => hk.elim) (fun _ _ => trivial) hHeld (below_size hHeld) (by (try simp only [List.length_nil]); have := HF5.out; omega) ?_
                    intro vC w11 ho hx hg hat
                    rw [List.nil_append] at ho
                    have RC := Aside0.mk ho
                    clear RA ho hg hat hHeld
                    refine hK.out _ _ hx (fun hHeld => ?_)
                    clear hK K hx
                    refine norm_ (a' := ?_) ?_ ?_
                    rotate_left
                    · show Act.put _ (some 167) _ = _
                      simp only [Act.put, List.setIfInBounds_toArray, List.set_cons_zero, List.set_cons_succ, i64_w, i32_w]
                      rfl
                    refine one_ (i := 10) (N := some 169) #[true, true, true, true, true, true, true, true, true, true, true, false, false, false, false] rfl rfl (one_of HT_.out (by kernel_rfl)) (by decide) (fun K hK => ?_)
                    refine lit_step (cs := #[.string other.f0, .string other.f1]) (t := 25) (k := 1) (by rfl) (by first | (go_simp; done) | (go_simp; rfl)) ?_
                    intro vb hg w11 hbox hb
                    have hx := below_step hHeld hb
                    have NEV : Aside0 (some vb ≠ vC.ownBlock) := ⟨fun e => by have h8 := Kd.R_lt RC.out vb e.symm; omega⟩
                    have n_RC := Aside0.mk (Kd.R_below RC.out hb)
                    clear RC
                    have RC := n_RC
                    clear n_RC
                    have BVB := Aside0.mk hbox
                    clear hg hbox hb hHeld
                    refine hK.out _ _ hx (fun hHeld => ?_)
                    clear hK K hx
                    refine norm_ ?_ (JJ.out (vA, vC, vb) _ ⟨⟨hHeld⟩, RC, BVB, NEV⟩)
                    show Act.put _ (some 169) _ = _
                    simp only [putAll, Act.put, List.setIfInBounds_toArray, List.set_cons_zero, List.set_cons_succ]
                  · refine lit_step (cs := #[.string other.f0, .string other.f1]) (t := 25) (k := 1) (by rfl) (by first | (go_simp; done) | (go_simp; rfl)) ?_
                    intro vb hg w11 hbox hb
                    have hx := below_step hHeld hb
                    have NEV : Aside0 (some vb ≠ vA.ownBlock) := ⟨fun e => by have h8 := Kd.R_lt RA.out vb e.symm; omega⟩
                    have n_RA := Aside0.mk (Kd.R_below RA.out hb)
                    clear RA
                    have RA := n_RA
                    clear n_RA
                    have BVB := Aside0.mk hbox
                    clear hg hbox hb hHeld
                    refine hK.out _ _ hx (fun hHeld => ?_)
                    clear hK K hx
                    refine norm_ (a' := ?_) ?_ ?_
                    rotate_left
                    · show Act.put _ (some 169) _ = _
                      simp only [Act.put, List.setIfInBounds_toArray, List.set_cons_zero, List.set_cons_succ, i64_w, i32_w]
                      rfl
                    refine one_ (i := 8) (N := some 167) #[true, true, true, true, true, true, true, true, true, true, true, false, false, false, false] rfl rfl (one_of HT_.out (by kernel_rfl)) (by decide) (fun K hK => ?_)
                    refine Kd.R_append_rows_step k25 (w0 := w9) w9.heap.size rfl (.tmp 161) (.tmp 166) 22 25 (.agg #[(.string ⟨#[]⟩), (.string ⟨#[]⟩)]) 32 rfl Try.underlying22 info25 rfl (by decide) (by decide) vA ([] : List S25) x.f5 A9 x.f5.length c9 (fun _ => True) (fun _ => False) (by simp [Act.eval]) (by simp [Act.eval]) RA.out (Kd.C_below HDI.out.p (below_step HX.out hHeld)) (fun x cs h => k25_KM x cs h) (fun _ hk => hk.elim) (fun _ _ => trivial) hHeld (below_size hHeld) (by (try simp only [List.length_nil]); have := HF5.out; omega) ?_
                    intro vC w11 ho hx hg hat
                    rw [List.nil_append] at ho
                    have RC := Aside0.mk ho
                    have n_BVB := Aside0.mk (blk_grown BVB.out hg NEV.out)
                    have n_NEV : Aside0 (some vb ≠ vC.ownBlock) := ⟨fun e => by
                      rcases hat with h9 | ⟨b9, e9, hle⟩
                      · rw [h9] at e; exact NEV.out e
                      · rw [e9] at e; have h8 := blk_lt BVB.out; cases e; omega⟩
                    clear BVB NEV
                    have BVB := n_BVB
                    have NEV := n_NEV
                    clear n_BVB n_NEV
                    clear RA ho hg hat hHeld
                    refine hK.out _ _ hx (fun hHeld => ?_)
                    clear hK K hx
                    refine norm_ ?_ (JJ.out (vA, vC, vb) _ ⟨⟨hHeld⟩, RC, BVB, NEV⟩)
                    show Act.put _ (some 167) _ = _
                    simp only [putAll, Act.put, List.setIfInBounds_toArray, List.set_cons_zero, List.set_cons_succ]
                · refine lit_step (cs := #[.string other.f0, .string other.f1]) (t := 25) (k := 1) (by rfl) (by first | (go_simp; done) | (go_simp; rfl)) ?_
                  intro vb hg w11 hbox hb
                  have hx := below_step hHeld hb
                  have BVB := Aside0.mk hbox
                  clear hg hbox hb hHeld
                  refine hK.out _ _ hx (fun hHeld => ?_)
                  clear hK K hx
                  refine norm_ (a' := ?_) ?_ ?_
                  rotate_left
                  · show Act.put _ (some 169) _ = _
                    simp only [Act.put, List.setIfInBounds_toArray, List.set_cons_zero, List.set_cons_succ, i64_w, i32_w]
                    rfl
                  refine one_ (i := 2) (N := some 161) #[true, true, true, true, true, true, true, true, false, true, true, false, false, false, false] rfl rfl (one_of HT_.out (by kernel_rfl)) (by decide) (fun K hK => ?_)
                  refine Kd.R_lit_step k25 (w0 := w9) w9.heap.size 25 (by rfl) rfl (xs := ([] : List S25)) (inner := []) (ok := fun _ => True) (okp := fun _ => False) (by first | (go_simp; done) | (go_simp; rfl)) (Reps.none _ _) (fun _ hk => hk.elim) trivial hHeld (below_size hHeld) (by simp) ?_
                  intro vA w11 ho hx hg hat
                  have RA := Aside0.mk ho
                  have NEV : Aside0 (some vb ≠ vA.ownBlock) := ⟨fun e => by obtain ⟨b9, e9, hle⟩ := hat; rw [e9] at e; have h8 := blk_lt BVB.out; cases e; omega⟩
                  have n_BVB := Aside0.mk (blk_grown BVB.out hg (by simp))
                  clear BVB
                  have BVB := n_BVB
                  clear n_BVB
                  clear ho hg hat hHeld
                  refine hK.out _ _ hx (fun hHeld => ?_)
                  clear hK K hx
                  refine norm_ (a' := ?_) ?_ ?_
                  rotate_left
                  · show Act.put _ (some 161) _ = _
                    simp only [Act.put, List.setIfInBounds_toArray, List.set_cons_zero, List.set_cons_succ, i64_w, i32_w]
                    rfl
                  refine one_ (i := 8) (N := some 167) #[true, true, true, true, true, true, true, true, true, true, true, false, false, false, false] rfl rfl (one_of HT_.out (by kernel_rfl)) (by decide) (fun K hK => ?_)
                  refine Kd.R_append_rows_step k25 (w0 := w9) w9.heap.size rfl (.tmp 161) (.tmp 166) 22 25 (.agg #[(.string ⟨#[]⟩), (.string ⟨#[]⟩)]) 32 rfl Try.underlying22 info25 rfl (by decide) (by decide) vA ([] : List S25) x.f5 A9 x.f5.length c9 (fun _ => True) (fun _ => False) (by simp [Act.eval]) (by simp [Act.eval]) RA.out (Kd.C_below HDI.out.p (below_step HX.out hHeld)) (fun x cs h => k25_KM x cs h) (fun _ hk => hk.elim) (fun _ _ => trivial) hHeld (below_size hHeld) (by (try simp only [List.length_nil]); have := HF5.out; omega) ?_
                  intro vC w11 ho hx hg hat
                  rw [List.nil_append] at ho
                  have RC := Aside0.mk ho
                  have n_BVB := Aside0.mk (blk_grown BVB.out hg NEV.out)
                  have n_NEV : Aside0 (some vb ≠ vC.ownBlock) := ⟨fun e => by
                    rcases hat with h9 | ⟨b9, e9, hle⟩
                    · rw [h9] at e; exact NEV.out e
                    · rw [e9] at e; have h8 := blk_lt BVB.out; cases e; omega⟩
                  clear BVB NEV
                  have BVB := n_BVB
                  have NEV := n_NEV
                  clear n_BVB n_NEV
                  clear RA ho hg hat hHeld
                  refine hK.out _ _ hx (fun hHeld => ?_)
                  clear hK K hx
                  refine norm_ ?_ (JJ.out (vA, vC, vb) _ ⟨⟨hHeld⟩, RC, BVB, NEV⟩)
                  show Act.put _ (some 167) _ = _
                  simp only [putAll, Act.put, List.setIfInBounds_toArray, List.set_cons_zero, List.set_cons_succ]
              rintro ⟨vA, vC, vb⟩ wx ⟨HH, RC, BVB, NEV⟩
              dsimp only at RC BVB NEV ⊢
              simp only [putAll, Act.put, List.setIfInBounds_toArray, List.set_cons_zero, List.set_cons_succ]
              clear hHeld
              have hHeld := HH.out
              refine one_ (i := 11) (N := some 170) #[true, true, true, true, true, true, true, true, true, true, true, true, false, false, false] rfl rfl (one_of HT_.out (by kernel_rfl)) (by decide) (fun K hK => ?_)
              refine Kd.R_append_rows_step k25 (w0 := w9) w9.heap.size rfl (.tmp 167) (.tmp 169) 22 25 (.agg #[(.string ⟨#[]⟩), (.string ⟨#[]⟩)]) 32 rfl Try.underlying22 info25 rfl (by decide) (by decide) vC x.f5 [other] (some ⟨vb, 0, none⟩) 1 1 (fun _ => True) (fun _ => False) (by simp [Act.eval]) (by simp [Act.eval]) RC.out (one_C BVB.out) (fun x cs h => k25_KM x cs h) (fun _ hk => hk.elim) (fun _ _ => trivial) hHeld (below_size hHeld) (by have := HF5.out; omega) ?_
              intro v170 w11 ho hx hg hat
              obtain ⟨p2, hp2⟩ : ∃ p2, x.f5 ++ [other] = p2 := ⟨_, rfl⟩
              rw [hp2] at ho
              obtain ⟨Ap, cp, hv⟩ := R_form ho
              obtain ⟨np, hnp⟩ : ∃ np, p2.length = np := ⟨_, rfl⟩
              rw [hnp] at hv
              subst hv
              have RP := Aside0.mk ho
              have HNP := Aside0.mk hnp.symm
              have HP2 := Aside0.mk hp2
              clear hHeld
              refine hK.out _ _ hx (fun hHeld => ?_)
              clear hK K hx ho hg hat RC BVB NEV HH hp2 hnp
              refine norm_ (a' := ?_) ?_ ?_
              rotate_left
              · show Act.put _ (some 170) _ = _
                simp only [Act.put, List.setIfInBounds_toArray, List.set_cons_zero, List.set_cons_succ, i64_w, i32_w]
                rfl
              refine pure_ (i := 12) (N := some 171) (v := ?_) (a' := ?_) #[true, true, true, true, true, true, true, true, true, true, true, true, true, false, false] rfl rfl (any_of HT_.out (by kernel_rfl)) (fun _ _ _ h => h) (Or.inl ⟨by rfl, ?_⟩) ?_ ?_
              rotate_left
              · intro w'
                go_simp
                with_reducible rfl
              rotate_left
              · simp only [Act.put, List.setIfInBounds_toArray, List.set_cons_zero, List.set_cons_succ, i64_w, i32_w]
                rfl
              refine pure_ (i := 13) (N := some 172) (v := ?_) (a' := ?_) #[true, true, true, true, true, true, true, true, true, true, true, true, true, true, false] rfl rfl (any_of HT_.out (by kernel_rfl)) (fun _ _ _ h => h) (Or.inl ⟨by rfl, ?_⟩) ?_ ?_
              rotate_left
              · intro w'
                go_simp
                with_reducible rfl
              rotate_left
              · simp only [Act.put, List.setIfInBounds_toArray, List.set_cons_zero, List.set_cons_succ, i64_w, i32_w]
                rfl
              rename World => w11
              have n_HW := Aside0.mk (Kd.N_below HW.out hHeld)
              have HX11 := Aside0.mk (below_step HX.out hHeld)
              have HGL := Aside0.mk (Kd.N_lt HW.out gw (by simp [Value.ownBlock]))
              obtain ⟨vw, hvw, hfw⟩ := N_pcell n_HW.out hnc
              have hHW9 := below_size hHeld
              refine last_ (i := 14) (N := none) #[true, true, true, true, true, true, true, true, true, true, true, true, true, true, true] rfl rfl (one_of HT_.out (by kernel_rfl)) (by decide) (fun K hK => ?_)
              refine skip_ (w1 := ?_) (by rfl) rfl ?_ ?_
              rotate_left
              · go_simp
                rfl
              have hx12 := HX11.out.setCell (p := ⟨gw, n * 10 + 9, none⟩) HGW.out (.slice Ap np cp)
              have hp := N_pairs (p := p2) (c9 := cp) n_HW.out hnc (by rw [← HNP.out]; exact Kd.F_mono (Kd.R_F (Kd.R_bound RP.out)) (fun k hk => ⟨trivial, by have := HGL.out; have := hk.2.1; omega⟩)) (by rw [← HNP.out]; exact (Kd.R_reads' RP.out).2.1)
              rw [← HNP.out] at hp
              have HKK := hK
              refine hK.out _ _ ?_
              clear hK HKK K hvw hfw vw
              generalize (World.setCell w11 ⟨gw, n * 10 + 9, none⟩ (.slice Ap np cp)) = w12 at hp hx12 ⊢
              clear hHeld HX HX11 n_HW HW X9 hHW9
              have HX := Aside0.mk hx12
              have HW := Aside0.mk hp
              clear hx12 hp RP
              refine done_ (done_of HT_.out (by kernel_rfl)) ?_
              have hw1 : legalP base (l.set n { l.getD n z36 with f5 := p2 }) = false := by rw [HXE.out]; exact HASW.out HN1.out p2 (fun e => by have h := congrArg List.length e; rw [← HP2.out, List.length_append] at h; simp at h)
              have HW1 := Aside0.mk hw1
              have hr := Kd.N_reads' HW.out
              rw [List.length_set, HLN.out] at hr
              have HWC := Aside0.mk hr.2.2
              have HWL := Aside0.mk hr.2.1
              clear hr hw1
              go_upto_region 36 with (first | (go_at_call 10; refine (legalB HW1.out (by rw [List.length_set]; exact HLN.out.symm) (Kd.C_below HA0.out (below_step HB.out HX.out)) HC0.out HWC.out HWL.out hb1000 (set_ops HNL.out HOPS.out) HSM.out).mono ?_; rintro e w5 ⟨rfl, hb⟩; have n_HW := Aside0.mk (Kd.N_below HW.out hb); clear HW HWC; have HW := n_HW; clear n_HW; have n_HX := Aside0.mk (below_step HX.out hb); clear HX; have HX := n_HX; clear n_HX; clear hb))
              have x9 := (HX.out.cell (World.block_lt_of_cell? w7 _ HCL.out.x9)).trans HCL.out.x9
              by_cases h5 : 0 < x.f5.length
              rotate_left
              · have d5 : ¬ (0 : Int) < (x.f5.length : Int) := by omega
                have d6 : ¬ (x.f5.length : Int) > 0 := by omega
                clear h5
                go_wp2_with (first | (go_at_call 7; refine (awake7 _).mono ?_; rintro e w5 ⟨rfl, hb⟩; have n_HX := Aside0.mk (below_step HX.out hb); clear HX; have HX := n_HX; clear n_HX; clear hb))
                go_ret
                exact ⟨rfl, below_step HB.out HX.out⟩
              have d5 : (0 : Int) < (x.f5.length : Int) := by omega
              have d7 : 1 ≤ (x.f5.length : Int) := by omega
              obtain ⟨vw, hvw, hfw⟩ := N_pcell HW.out hnc
              obtain ⟨a9, e9, _⟩ := HDI.out.p.2.2 h5
              have HE7 := Aside0.mk e9
              subst e9
              have d8 : 1 ≤ x.f5.length := h5
              have hcut1 := Kd.C_drop (m := 1) (c := c9) HDI.out.p (by omega) HDI.out.pc
              have HCUT := Aside0.mk hcut1
              clear hcut1
              rename World => w13
              go_upto_region 38 with (fail)
              clear x9 hvw hfw d5 d7
              obtain ⟨V1, hV1⟩ : ∃ V1, (if c9 = 1 then some a9 else some ⟨a9.block, a9.off + 2, none⟩) = V1 := ⟨_, rfl⟩
              rw [hV1]
              have hcut2 : Kd.C k25 w7 V1 (x.f5.length - 1) (x.f5.drop 1) := by
                have h := HCUT.out
                rw [List.length_drop] at h
                rw [← hV1]
                exact h
              clear hV1
              have hp := N_pairs (A9 := V1) (p := x.f5.drop 1) (c9 := c9 - 1) HW.out hnc (by rw [List.length_drop]; exact Kd.F_mono (arg_F25 hcut2 HX.out) (fun k hk => ⟨trivial, by have := HGW.out; omega⟩)) (by rw [List.length_drop]; have := HDI.out.pc; omega)
              rw [List.length_drop, List.set_set, getD_set36 HNL.out, if_pos rfl] at hp
              have hx12 := HX.out.setCell (p := ⟨gw, n * 10 + 9, none⟩) HGW.out (.slice V1 (x.f5.length - 1) (c9 - 1))
              generalize (World.setCell w13 ⟨gw, n * 10 + 9, none⟩ (.slice V1 (x.f5.length - 1) (c9 - 1))) = w14 at hp hx12 ⊢
              clear HX HW HCUT hcut2 d8
              have HX := Aside0.mk hx12
              have HW := Aside0.mk (show Kd.N k36 36 w14 w7.heap.size (fun _ => True) (.slice (some ⟨gw, 0, none⟩) calls.length cw) (l.set n { l.getD n z36 with f5 := x.f5.drop 1 }) from hp)
              clear hx12 hp
              have hw2 : legalP base (l.set n { l.getD n z36 with f5 := x.f5.drop 1 }) = false := by rw [HXE.out]; exact HASW.out HN1.out (x.f5.drop 1) (fun e => by have h := congrArg List.length e; rw [List.length_drop] at h; omega)
              have HW2 := Aside0.mk hw2
              have hr := Kd.N_reads' HW.out
              rw [List.length_set, HLN.out] at hr
              have HWC := Aside0.mk hr.2.2
              have HWL := Aside0.mk hr.2.1
              clear hr hw2
              go_wp2_with (first | (go_at_call 10; refine (legalB HW2.out (by rw [List.length_set]; exact HLN.out.symm) (Kd.C_below HA0.out (below_step HB.out HX.out)) HC0.out HWC.out HWL.out hb1000 (set_ops HNL.out HOPS.out) HSM.out).mono ?_; rintro e w5 ⟨rfl, hb⟩; clear HWC; have n_HX := Aside0.mk (below_step HX.out hb); clear HX; have HX := n_HX; clear n_HX; clear hb) | (go_at_call 7; refine (awake7 _).mono ?_; rintro e w5 ⟨rfl, hb⟩; have n_HX := Aside0.mk (below_step HX.out hb); clear HX; have HX := n_HX; clear n_HX; clear hb))
              go_ret
              exact ⟨rfl, below_step HB.out HX.out⟩

end Go.Proofs.Ytjieagpfnnbiiaa.XLin
