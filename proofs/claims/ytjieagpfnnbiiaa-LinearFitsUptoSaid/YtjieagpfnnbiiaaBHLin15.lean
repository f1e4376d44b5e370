/- the law's alone. -/
import Derived.Test.YtjieagpfnnbiiaaBHLin14
namespace Go.Proofs.Ytjieagpfnnbiiaa.XLin
open Go Go.RowKit Go.Proofs.YtjieagpfnnbiiaaW.PrintWords Go.Proofs.YtjieagpfnnbiiaaW.PrintLast Go.Proofs.YtjieagpfnnbiiaaW.PrintMore
open Go.Proofs.Ytjieagpfnnbiiaa
set_option linter.unusedVariables false
set_option linter.unusedSimpArgs false
theorem info36 : (Try.prog.info? 36).map (fun i => (i.zero, i.size, i.bytes)) = some (some (.agg #[.int .u8 0, .slice none 0 0, .string ⟨#[]⟩, .string ⟨#[]⟩, .int .i64 0, .int .i64 0, .int .i64 0, .int .i64 0, .int .u64 0, .slice none 0 0]), 10, 128) := by kernel_rfl
/-- One call's cells, as a row of one. -/
theorem one_F36 {W : World} {P : Nat → Prop} {vb : Nat} {A1 : Option Addr} {c1 : Nat} {A9 : Option Addr} {c9 : Nat} {x : S36} (hv : W.heap[vb]? = some (.cells #[.int .u8 x.f0.f0, .slice A1 x.f0.f1.length c1, .string x.f0.f2, .string x.f0.f3, .int .i64 x.f0.f4, .int .i64 x.f1, .int .i64 x.f2, .int .i64 x.f3, .int .u64 x.f4, .slice A9 x.f5.length c9] 36 (0, 0)))
    (l1 : x.f0.f1.length ≤ c1) (g1 : Kd.F k71 W P A1 x.f0.f1.length x.f0.f1) (l9 : x.f5.length ≤ c9) (g9 : Kd.F k25 W P A9 x.f5.length x.f5) : Kd.F k36 W (fun k => P k ∨ k = vb) (some ⟨vb, 0, none⟩) 1 [x] := fun W' hW => by
  have hv' : W'.heap[vb]? = some _ := (hW vb (.inr rfl) (blk_lt hv)).trans hv
  have g1' := g1 W' (fun k hk hlt => hW k (.inl hk) hlt)
  have g9' := g9 W' (fun k hk hlt => hW k (.inl hk) hlt)
  refine ⟨rfl, by decide, fun _ => ⟨_, rfl, fun j q hj => ?_⟩⟩
  obtain rfl : j = 0 := by have := (List.getElem?_eq_some_iff.1 hj).1; simp at this; exact this
  obtain rfl : x = q := by simpa using hj
  refine ⟨_, rfl, k36_mk W' x l1 g1' l9 g9', fun t u hu => ?_⟩
  rw [Nat.zero_mul, Nat.zero_add, Addr.add_lit, Nat.zero_add, blk_cell hv' t]
  rw [← Array.getElem?_toList]
  exact hu
theorem aloneP_len : ∀ (calls : List S32) (i : Nat) (m : List S25), (aloneP i m calls).1.length = calls.length
  | [], _, _ => rfl
  | c :: cs, i, m => by
    unfold aloneP
    simp [aloneP_len cs]
theorem apply20n {A : Option Addr} {n c : Nat} {m m2 : List S25} {B : Option Addr} {b : Nat} {l : List S71} {w : World} (hn : n = m.length) (hm2 : applyP m l = m2) (hr : Kd.C k25 w A n m) (hc : n ≤ c) (hl : Kd.C k71 w B l.length l) (hlc : l.length ≤ b) (hs : n + l.length ≤ 4398046511000) :
    Calls Try.prog 20 #[.slice A n c, .slice B l.length b] w fun e w' => ∃ A' c', e = .returned (.slice A' m2.length c') ∧ Kd.R k25 25 w' w.heap.size (fun _ => True) (.slice A' m2.length c') m2 ∧ Below w.heap.size w w' := by
  subst hn
  subst hm2
  exact apply20 A c m B b l w hr hc hl hlc hs
theorem get21n {A : Option Addr} {n c : Nat} {m : List S25} {key : ByteArray} {g : Option ByteArray} {w : World} (hn : n = m.length) (hg : getP m key = g) (hr : Kd.C k25 w A n m) (hl : n ≤ 4398046511104) :
    Calls Try.prog 21 #[.slice A n c, .string key] w fun e w' => e = .returned (.tuple #[.string (g.getD ⟨#[]⟩), .bool g.isSome]) ∧ Below w.heap.size w w' := by
  subst hn
  subst hg
  exact get21 A c m key w hr hl
theorem scan22n {A : Option Addr} {n c : Nat} {m : List S25} {from_ till : ByteArray} {limit : Int} {s : List S25} {w : World} (hn : n = m.length) (hs : scanP m from_ till limit = s) (hr : Kd.C k25 w A n m) (hc : n ≤ c) (hl : n ≤ 4398046511104) :
    Calls Try.prog 22 #[.slice A n c, .string from_, .string till, .int .i64 limit] w fun e w' => ∃ A' c', e = .returned (.slice A' s.length c') ∧ Kd.R k25 25 w' w.heap.size (fun _ => True) (.slice A' s.length c') s ∧ Below w.heap.size w w' := by
  subst hn
  subst hs
  exact scan22 A c m from_ till limit w hr hc hl
theorem heap71 : Kd.Heap k71 := Kd.heap_iso _ (Kd.heap_pair (Kd.heap_int _) (Kd.heap_pair Kd.heap_string Kd.heap_string))
theorem arg_F71 {w W : World} {A : Option Addr} {n : Nat} {xs : List S71} (hC : Kd.C k71 w A n xs) (hb : Below w.heap.size w W) : Kd.F k71 W (fun k => k < w.heap.size) A n xs := fun W' hW =>
  heap71.C (fun q hq => (hW q hq (Nat.lt_of_lt_of_le hq hb.size)).trans (hb.block q hq)) hC
theorem one_F25 {W : World} {vb : Nat} {p : S25} (hv : W.heap[vb]? = some (.cells #[.string p.f0, .string p.f1] 25 (0, 0))) (Q : Nat → Prop) (hq : Q vb) {V : Option Nat} (hne : some vb ≠ V) : Kd.F k25 W (fun k => (True ∧ some k ≠ V) ∧ k = vb) (some ⟨vb, 0, none⟩) 1 [p] := fun W' hW =>
  one_C ((hW vb ⟨⟨trivial, hne⟩, rfl⟩ (blk_lt hv)).trans hv)
def AMid (w : World) (g10 i : Nat) (x : S32) (A1 : Option Addr) (c1 : Nat) (m2 tl : List S25) (out : List S36) (V : Value) (v7 : Value) (wx : World) : Prop :=
  ∃ (A2 : Option Addr) (n2 c2 : Nat) (A9 : Option Addr) (c9 : Nat), v7 = .slice A2 n2 c2 ∧ Aside0 (n2 = m2.length) ∧ Aside0 (n2 ≤ c2) ∧ Aside0 (Kd.F k25 wx (fun k => True ∧ some k ≠ V.ownBlock) A2 n2 m2) ∧ Aside0 (wx.heap[g10]? = some (.cells #[.int .u8 x.f0, .slice A1 x.f1.length c1, .string x.f2, .string x.f3, .int .i64 x.f4, .int .i64 (2 * (i : Int)), .int .i64 (2 * (i : Int) + 1), .int .i64 0, .int .u64 (i : Int), .slice A9 tl.length c9] 36 (0, 0))) ∧
    Aside0 (tl.length ≤ c9) ∧ Aside0 (Kd.F k25 wx (fun k => True ∧ some k ≠ V.ownBlock) A9 tl.length tl) ∧ Aside0 (Kd.N k36 36 wx w.heap.size (fun _ => True) V out) ∧ Aside0 (Below w.heap.size w wx)
def AloneRel (w : World) (calls : List S32) (r : List S36) (n0 K : Nat) (v6 v7 v16 : Value) (wr : World) : Prop :=
  ∃ (i : Nat) (out : List S36) (L : Option Addr) (nn cl : Nat) (m : List S25) (A : Option Addr) (n c : Nat), i ≤ calls.length ∧ v6 = .slice L nn cl ∧ v7 = .slice A n c ∧ v16 = .int .i64 (i : Int) ∧ Aside0 (nn = out.length) ∧ Aside0 (out.length = i) ∧ Aside0 (n = m.length) ∧ Aside0 (out ++ (aloneP i m (calls.drop i)).1 = r) ∧ Aside0 (n ≤ c) ∧ Aside0 (n ≤ n0 + i * K) ∧
    Aside0 (Kd.N k36 36 wr w.heap.size (fun _ => True) (.slice L nn cl) out) ∧ Aside0 (Kd.F k25 wr (fun k => True ∧ some k ≠ (Value.slice L nn cl).ownBlock) A n m) ∧ Aside0 (Below w.heap.size w wr)
set_option maxHeartbeats 8000000 in
set_option maxRecDepth 100000 in
theorem alone6 (A : Option Addr) (c : Nat) (m : List S25) (C : Option Addr) (cc : Nat) (calls : List S32) (K : Nat) (w : World) (hm : Kd.C k25 w A m.length m) (hmc : m.length ≤ c) (hc : Kd.C k32 w C calls.length calls) (hl : calls.length ≤ 1000) (hK : ∀ x ∈ calls, x.f0 = 1 → x.f1.length ≤ K) (hs : m.length + calls.length * K ≤ 4398046511000) :
    Calls Try.prog 6 #[.slice A m.length c, .slice C calls.length cc] w fun e w' => ∃ L cl vm, e = .returned (.tuple #[.slice L calls.length cl, vm]) ∧ Kd.N k36 36 w' w.heap.size (fun _ => True) (.slice L calls.length cl) (aloneP 0 m calls).1 ∧ Below w.heap.size w w' := by
  have HM0 := Aside0.mk hm
  have HMC := Aside0.mk hmc
  have HC := Aside0.mk hc
  have HK := Aside0.mk hK
  clear hm hmc hc hK
  obtain ⟨r, hr⟩ : ∃ r, (aloneP 0 m calls).1 = r := ⟨_, rfl⟩
  have hrl := aloneP_len calls 0 m
  rw [hr] at hrl ⊢
  have HR := Aside0.mk hr
  have HRL := Aside0.mk hrl
  clear hr hrl
  go_enter Try.func6, Try.ntmps6
  go_upto_region 4 with (fail)
  go_loopw [6, 7, 16] (fun v6 v7 v16 wr => AloneRel w calls r m.length K v6 v7 v16 wr) (fun v6 v7 v16 _ => calls.length - (intOf v16).toNat)
  case atStart => exact ⟨0, [], none, 0, 0, m, A, m.length, c, Nat.zero_le _, rfl, rfl, rfl, ⟨rfl⟩, ⟨rfl⟩, ⟨rfl⟩, ⟨by rw [List.drop_zero]; exact HR.out⟩, HMC, ⟨by omega⟩, ⟨Kd.N_nil _ _ _ _ _⟩, ⟨Kd.F_mono (arg_F25 HM0.out (Below.refl _ _)) (fun k _ => ⟨trivial, by simp [Value.ownBlock]⟩)⟩, ⟨Below.refl _ _⟩⟩
  case round =>
    obtain ⟨i, out, L, nn, cl, m', A', n', c', hi, rfl, rfl, rfl, HNN, HOL, HN, HEQ, HMC', HNL, HO, HM, HB⟩ := hrel
    rename World => wr
    by_cases hlt : i < calls.length
    · obtain ⟨ad, A1, c1, e0, x0, x1, x2, x3, x4, hl1, hc1⟩ := at_T32 HC.out (i : Int) (by omega) (by omega)
      have hrd : rd_T32 calls (i : Int) = calls[i] := by unfold rd_T32; rw [Int.toNat_natCast, List.getD_eq_getElem?_getD, List.getElem?_eq_getElem hlt]; rfl
      rw [hrd] at x0 x1 x2 x3 x4 hl1 hc1
      simp only [Int.toNat_natCast] at x0 x1 x2 x3 x4
      subst e0
      have heq := HEQ.out
      rw [List.drop_eq_getElem_cons hlt] at heq
      unfold aloneP at heq
      have hk := HK.out _ (List.getElem_mem hlt)
      obtain ⟨x, hx⟩ : ∃ x, calls[i] = x := ⟨_, rfl⟩
      rw [hx] at x0 x1 x2 x3 x4 hl1 hc1 heq hk
      have HEQ2 := Aside0.mk heq
      have HKX := Aside0.mk hk
      have HC1 := Aside0.mk hc1
      have HL1 := Aside0.mk hl1
      clear heq hk hc1 hl1 hx hrd HEQ
      replace x0 := (HB.out.cell (World.block_lt_of_cell? w _ x0)).trans x0
      replace x1 := (HB.out.cell (World.block_lt_of_cell? w _ x1)).trans x1
      replace x2 := (HB.out.cell (World.block_lt_of_cell? w _ x2)).trans x2
      replace x3 := (HB.out.cell (World.block_lt_of_cell? w _ x3)).trans x3
      replace x4 := (HB.out.cell (World.block_lt_of_cell? w _ x4)).trans x4
      go_upto_region 6 with (first | ((with_reducible refine gate_dst (N := 9) rfl ?_); refine box_event ?hg (N := 9) ?hd (cs := #[.int .u8 0, .slice none 0 0, .string ByteArray.empty, .string ByteArray.empty, .int .i64 0]) (t := 32) ?hr ?_; (case hd => rfl); (case hg => rfl); (case hr => first | (go_simp; done) | (go_simp; rfl)); intro g9 hg w3 hbox hb; have HGV := Aside0.mk (Nat.le_of_eq hg.symm); have BV := Aside0.mk hbox; have HXV := Aside0.mk hb; have z0 := (blk_cell hbox 0).trans (show _ = some (.int .u8 0) from rfl); have z1 := (blk_cell hbox 1).trans (show _ = some (.slice none 0 0) from rfl); have z2 := (blk_cell hbox 2).trans (show _ = some (.string ByteArray.empty) from rfl); have z3 := (blk_cell hbox 3).trans (show _ = some (.string ByteArray.empty) from rfl); have z4 := (blk_cell hbox 4).trans (show _ = some (.int .i64 0) from rfl); have zf := fun j => blk_frozen hbox j; clear hg hbox hb))
      clear x0 x1 x2 x3 x4
      clear z0 z1 z2 z3 z4 zf
      rename World => w3
      have s0 := blk_put (cs' := #[.int .u8 x.f0, .slice none 0 0, .string ByteArray.empty, .string ByteArray.empty, .int .i64 0]) BV.out 0 (.int .u8 x.f0) rfl
      have s1 := blk_put (cs' := #[.int .u8 x.f0, .slice A1 x.f1.length c1, .string ByteArray.empty, .string ByteArray.empty, .int .i64 0]) s0 1 (.slice A1 x.f1.length c1) rfl
      have s2 := blk_put (cs' := #[.int .u8 x.f0, .slice A1 x.f1.length c1, .string x.f2, .string ByteArray.empty, .int .i64 0]) s1 2 (.string x.f2) rfl
      have s3 := blk_put (cs' := #[.int .u8 x.f0, .slice A1 x.f1.length c1, .string x.f2, .string x.f3, .int .i64 0]) s2 3 (.string x.f3) rfl
      have s4 := blk_put (cs' := #[.int .u8 x.f0, .slice A1 x.f1.length c1, .string x.f2, .string x.f3, .int .i64 x.f4]) s3 4 (.int .i64 x.f4) rfl
      have hb := (((((HXV.out.setCell (p := ⟨g9, 0, none⟩) HGV.out (.int .u8 x.f0)).setCell (p := ⟨g9, 1, none⟩) HGV.out (.slice A1 x.f1.length c1)).setCell (p := ⟨g9, 2, none⟩) HGV.out (.string x.f2)).setCell (p := ⟨g9, 3, none⟩) HGV.out (.string x.f3)).setCell (p := ⟨g9, 4, none⟩) HGV.out (.int .i64 x.f4))
      generalize (World.setCell (World.setCell (World.setCell (World.setCell (World.setCell w3 ⟨g9, 0, none⟩ (.int .u8 x.f0)) ⟨g9, 1, none⟩ (.slice A1 x.f1.length c1)) ⟨g9, 2, none⟩ (.string x.f2)) ⟨g9, 3, none⟩ (.string x.f3)) ⟨g9, 4, none⟩ (.int .i64 x.f4)) = wk at s4 hb ⊢
      have n_HO := Aside0.mk (Kd.N_below HO.out hb); have n_HM := Aside0.mk (Kd.F_below HM.out hb); have n_HB := Aside0.mk (below_step HB.out hb); clear HO HM HB; have HO := n_HO; have HM := n_HM; have HB := n_HB; clear n_HO n_HM n_HB
      clear BV HXV HGV
      have X9 := Aside0.mk s4
      clear s0 s1 s2 s3 s4 hb
      have y0 := (blk_cell X9.out 0).trans (show _ = some (.int .u8 x.f0) from rfl)
      have y1 := (blk_cell X9.out 1).trans (show _ = some (.slice A1 x.f1.length c1) from rfl)
      have y2 := (blk_cell X9.out 2).trans (show _ = some (.string x.f2) from rfl)
      have y3 := (blk_cell X9.out 3).trans (show _ = some (.string x.f3) from rfl)
      have y4 := (blk_cell X9.out 4).trans (show _ = some (.int .i64 x.f4) from rfl)
      have hi3 : (i : Int) ≤ 1000 := by omega
      have HOB := Aside0.mk (Kd.N_base HO.out)
      go_upto_region 7 with (first | ((with_reducible refine gate_dst (N := 10) rfl ?_); refine box_event ?hg (N := 10) ?hd (cs := #[.int .u8 0, .slice none 0 0, .string ByteArray.empty, .string ByteArray.empty, .int .i64 0, .int .i64 0, .int .i64 0, .int .i64 0, .int .u64 0, .slice none 0 0]) (t := 36) ?hr ?_; (case hd => rfl); (case hg => rfl); (case hr => first | (go_simp; done) | (go_simp; rfl)); intro g10 hg w3 hbox hb; have HGV := Aside0.mk (Nat.le_of_eq hg.symm); have BV := Aside0.mk hbox; have HXV := Aside0.mk hb; have z0 := (blk_cell hbox 0).trans (show _ = some (.int .u8 0) from rfl); have z1 := (blk_cell hbox 1).trans (show _ = some (.slice none 0 0) from rfl); have z2 := (blk_cell hbox 2).trans (show _ = some (.string ByteArray.empty) from rfl); have z3 := (blk_cell hbox 3).trans (show _ = some (.string ByteArray.empty) from rfl); have z4 := (blk_cell hbox 4).trans (show _ = some (.int .i64 0) from rfl); have z5 := (blk_cell hbox 5).trans (show _ = some (.int .i64 0) from rfl); have z6 := (blk_cell hbox 6).trans (show _ = some (.int .i64 0) from rfl); have z7 := (blk_cell hbox 7).trans (show _ = some (.int .i64 0) from rfl); have z8 := (blk_cell hbox 8).trans (show _ = some (.int .u64 0) from rfl); have z9 := (blk_cell hbox 9).trans (show _ = some (.slice none 0 0) from rfl); have zf := fun j => blk_frozen hbox j; clear hg hbox hb))
      clear y0 y1 y2 y3 y4
      have HGX := HGV
      have HG10 : Aside0 (w.heap.size ≤ g10) := ⟨Nat.le_trans (below_size HB.out) HGX.out⟩
      clear z0 z1 z2 z3 z4 z5 z6 z7 z8 z9 zf
      rename World => w3
      have s0 := blk_put (cs' := #[.int .u8 x.f0, .slice none 0 0, .string ByteArray.empty, .string ByteArray.empty, .int .i64 0, .int .i64 0, .int .i64 0, .int .i64 0, .int .u64 0, .slice none 0 0]) BV.out 0 (.int .u8 x.f0) rfl
      have s1 := blk_put (cs' := #[.int .u8 x.f0, .slice A1 x.f1.length c1, .string ByteArray.empty, .string ByteArray.empty, .int .i64 0, .int .i64 0, .int .i64 0, .int .i64 0, .int .u64 0, .slice none 0 0]) s0 1 (.slice A1 x.f1.length c1) rfl
      have s2 := blk_put (cs' := #[.int .u8 x.f0, .slice A1 x.f1.length c1, .string x.f2, .string ByteArray.empty, .int .i64 0, .int .i64 0, .int .i64 0, .int .i64 0, .int .u64 0, .slice none 0 0]) s1 2 (.string x.f2) rfl
      have s3 := blk_put (cs' := #[.int .u8 x.f0, .slice A1 x.f1.length c1, .string x.f2, .string x.f3, .int .i64 0, .int .i64 0, .int .i64 0, .int .i64 0, .int .u64 0, .slice none 0 0]) s2 3 (.string x.f3) rfl
      have s4 := blk_put (cs' := #[.int .u8 x.f0, .slice A1 x.f1.length c1, .string x.f2, .string x.f3, .int .i64 x.f4, .int .i64 0, .int .i64 0, .int .i64 0, .int .u64 0, .slice none 0 0]) s3 4 (.int .i64 x.f4) rfl
      have s5 := blk_put (cs' := #[.int .u8 x.f0, .slice A1 x.f1.length c1, .string x.f2, .string x.f3, .int .i64 x.f4, .int .i64 (2 * (i : Int)), .int .i64 0, .int .i64 0, .int .u64 0, .slice none 0 0]) s4 5 (.int .i64 (2 * (i : Int))) rfl
      have s6 := blk_put (cs' := #[.int .u8 x.f0, .slice A1 x.f1.length c1, .string x.f2, .string x.f3, .int .i64 x.f4, .int .i64 (2 * (i : Int)), .int .i64 (2 * (i : Int) + 1), .int .i64 0, .int .u64 0, .slice none 0 0]) s5 6 (.int .i64 (2 * (i : Int) + 1)) rfl
      have s7 := blk_put (cs' := #[.int .u8 x.f0, .slice A1 x.f1.length c1, .string x.f2, .string x.f3, .int .i64 x.f4, .int .i64 (2 * (i : Int)), .int .i64 (2 * (i : Int) + 1), .int .i64 0, .int .u64 0, .slice none 0 0]) s6 7 (.int .i64 0) rfl
      have s8 := blk_put (cs' := #[.int .u8 x.f0, .slice A1 x.f1.length c1, .string x.f2, .string x.f3, .int .i64 x.f4, .int .i64 (2 * (i : Int)), .int .i64 (2 * (i : Int) + 1), .int .i64 0, .int .u64 (i : Int), .slice none 0 0]) s7 8 (.int .u64 (i : Int)) rfl
      have s9 := blk_put (cs' := #[.int .u8 x.f0, .slice A1 x.f1.length c1, .string x.f2, .string x.f3, .int .i64 x.f4, .int .i64 (2 * (i : Int)), .int .i64 (2 * (i : Int) + 1), .int .i64 0, .int .u64 (i : Int), .slice none 0 0]) s8 9 (.slice none 0 0) rfl
      have hb := ((((((((((HXV.out.setCell (p := ⟨g10, 0, none⟩) HGV.out (.int .u8 x.f0)).setCell (p := ⟨g10, 1, none⟩) HGV.out (.slice A1 x.f1.length c1)).setCell (p := ⟨g10, 2, none⟩) HGV.out (.string x.f2)).setCell (p := ⟨g10, 3, none⟩) HGV.out (.string x.f3)).setCell (p := ⟨g10, 4, none⟩) HGV.out (.int .i64 x.f4)).setCell (p := ⟨g10, 5, none⟩) HGV.out (.int .i64 (2 * (i : Int)))).setCell (p := ⟨g10, 6, none⟩) HGV.out (.int .i64 (2 * (i : Int) + 1))).setCell (p := ⟨g10, 7, none⟩) HGV.out (.int .i64 0)).setCell (p := ⟨g10, 8, none⟩) HGV.out (.int .u64 (i : Int))).setCell (p := ⟨g10, 9, none⟩) HGV.out (.slice none 0 0))
      generalize (World.setCell (World.setCell (World.setCell (World.setCell (World.setCell (World.setCell (World.setCell (World.setCell (World.setCell (World.setCell w3 ⟨g10, 0, none⟩ (.int .u8 x.f0)) ⟨g10, 1, none⟩ (.slice A1 x.f1.length c1)) ⟨g10, 2, none⟩ (.string x.f2)) ⟨g10, 3, none⟩ (.string x.f3)) ⟨g10, 4, none⟩ (.int .i64 x.f4)) ⟨g10, 5, none⟩ (.int .i64 (2 * (i : Int)))) ⟨g10, 6, none⟩ (.int .i64 (2 * (i : Int) + 1))) ⟨g10, 7, none⟩ (.int .i64 0)) ⟨g10, 8, none⟩ (.int .u64 (i : Int))) ⟨g10, 9, none⟩ (.slice none 0 0)) = wl at s9 hb ⊢
      have n_HO := Aside0.mk (Kd.N_below (Kd.N_elderB HO.out g10 HGX.out) hb); have n_HM := Aside0.mk (Kd.F_below (Kd.F_elderB HM.out g10 HGX.out) hb); have n_X9 := Aside0.mk (blk_below X9.out hb); have n_HB := Aside0.mk (below_step HB.out hb); clear HO HM X9 HB; have HO := n_HO; have HM := n_HM; have X9 := n_X9; have HB := n_HB; clear n_HO n_HM n_X9 n_HB
      clear BV HXV HGV
      have X10 := Aside0.mk s9
      clear s0 s1 s2 s3 s4 s5 s6 s7 s8 s9 hb
      have y0 := (blk_cell X9.out 0).trans (show _ = some (.int .u8 x.f0) from rfl)
      have y1 := (blk_cell X9.out 1).trans (show _ = some (.slice A1 x.f1.length c1) from rfl)
      have y2 := (blk_cell X9.out 2).trans (show _ = some (.string x.f2) from rfl)
      have y3 := (blk_cell X9.out 3).trans (show _ = some (.string x.f3) from rfl)
      have y4 := (blk_cell X9.out 4).trans (show _ = some (.int .i64 x.f4) from rfl)
      have z0 := (blk_cell X10.out 0).trans (show _ = some (.int .u8 x.f0) from rfl)
      have z1 := (blk_cell X10.out 1).trans (show _ = some (.slice A1 x.f1.length c1) from rfl)
      have z2 := (blk_cell X10.out 2).trans (show _ = some (.string x.f2) from rfl)
      have z3 := (blk_cell X10.out 3).trans (show _ = some (.string x.f3) from rfl)
      have z4 := (blk_cell X10.out 4).trans (show _ = some (.int .i64 x.f4) from rfl)
      have z5 := (blk_cell X10.out 5).trans (show _ = some (.int .i64 (2 * (i : Int))) from rfl)
      have z6 := (blk_cell X10.out 6).trans (show _ = some (.int .i64 (2 * (i : Int) + 1)) from rfl)
      have z7 := (blk_cell X10.out 7).trans (show _ = some (.int .i64 0) from rfl)
      have z8 := (blk_cell X10.out 8).trans (show _ = some (.int .u64 (i : Int)) from rfl)
      have z9 := (blk_cell X10.out 9).trans (show _ = some (.slice none 0 0) from rfl)
      have zf := fun j => blk_frozen X10.out j
      obtain ⟨m2, hm2⟩ : ∃ m2, (if x.f0 = 1 then applyP m' x.f1 else m') = m2 := ⟨_, rfl⟩
      obtain ⟨tl, htl⟩ : ∃ tl, tells m' x = tl := ⟨_, rfl⟩
      have heq := HEQ2.out
      rw [hm2, htl] at heq
      have HEQ3 := Aside0.mk heq
      clear heq HEQ2
      unfold tells at htl
      obtain ⟨q1, hq1⟩ : ∃ q1, (x.f0 == 1) = q1 := ⟨_, rfl⟩
      obtain ⟨q2, hq2⟩ : ∃ q2, (x.f0 == 2) = q2 := ⟨_, rfl⟩
      obtain ⟨q3, hq3⟩ : ∃ q3, (x.f0 == 3) = q3 := ⟨_, rfl⟩
      have HM2E := Aside0.mk hm2
      have HTL := Aside0.mk htl
      clear hm2 htl
      go_upto_block 2 with (fail)
      go_cut [7] (fun v7 wx => AMid w g10 i x A1 c1 m2 tl out (.slice L nn cl) v7 wx)
      case first =>
        cases q1 with
        | true =>
          have HX1 : Aside0 (x.f0 = 1) := ⟨by simpa using hq1⟩
          have HM2F : Aside0 (applyP m' x.f1 = m2) := ⟨by have h := HM2E.out; rw [if_pos HX1.out] at h; exact h⟩
          have HT0 : Aside0 (tl = []) := ⟨by have h := HTL.out; rw [if_neg (by have := HX1.out; omega), if_neg (by have := HX1.out; omega)] at h; exact h.symm⟩
          obtain rfl := HT0.out
          have hik : (i + 1) * K = i * K + K := Nat.succ_mul i K
          have hik2 : (i + 1) * K ≤ calls.length * K := Nat.mul_le_mul_right K (by omega)
          have HIK : Aside0 (m.length + i * K + K ≤ 4398046511000) := ⟨by omega⟩
          clear hik hik2
          go_wp2_with (first | (go_at_call 20; refine (apply20n HN.out HM2F.out (Kd.F_now HM.out) HMC'.out (Kd.C_below HC1.out HB.out) HL1.out (by have := HKX.out HX1.out; have := HNL.out; have := HIK.out; omega)).mono ?_; rintro e w5 ⟨A7, c7, rfl, hR, hb⟩; have HR7 := Aside0.mk hR; have HSZ := Aside0.mk (below_size hb); have HOL7 := Aside0.mk (Kd.N_lt HO.out); have n_HO := Aside0.mk (Kd.N_below HO.out hb); have n_HM := Aside0.mk (Kd.F_below HM.out hb); have n_X9 := Aside0.mk (blk_below X9.out hb); have n_X10 := Aside0.mk (blk_below X10.out hb); have n_HB := Aside0.mk (below_step HB.out hb); clear HO HM X9 X10 HB; have HO := n_HO; have HM := n_HM; have X9 := n_X9; have X10 := n_X10; have HB := n_HB; clear n_HO n_HM n_X9 n_X10 n_HB; clear hb hR; clear y0 y1 y2 y3 y4 z0 z1 z2 z3 z4 z5 z6 z7 z8 z9 zf; have y0 := (blk_cell X9.out 0).trans (show _ = some (.int .u8 x.f0) from rfl); have y1 := (blk_cell X9.out 1).trans (show _ = some (.slice A1 x.f1.length c1) from rfl); have y2 := (blk_cell X9.out 2).trans (show _ = some (.string x.f2) from rfl); have y3 := (blk_cell X9.out 3).trans (show _ = some (.string x.f3) from rfl); have y4 := (blk_cell X9.out 4).trans (show _ = some (.int .i64 x.f4) from rfl); have z0 := (blk_cell X10.out 0).trans (show _ = some (.int .u8 x.f0) from rfl); have z1 := (blk_cell X10.out 1).trans (show _ = some (.slice A1 x.f1.length c1) from rfl); have z2 := (blk_cell X10.out 2).trans (show _ = some (.string x.f2) from rfl); have z3 := (blk_cell X10.out 3).trans (show _ = some (.string x.f3) from rfl); have z4 := (blk_cell X10.out 4).trans (show _ = some (.int .i64 x.f4) from rfl); have z5 := (blk_cell X10.out 5).trans (show _ = some (.int .i64 (2 * (i : Int))) from rfl); have z6 := (blk_cell X10.out 6).trans (show _ = some (.int .i64 (2 * (i : Int) + 1)) from rfl); have z7 := (blk_cell X10.out 7).trans (show _ = some (.int .i64 0) from rfl); have z8 := (blk_cell X10.out 8).trans (show _ = some (.int .u64 (i : Int)) from rfl); have z9 := (blk_cell X10.out 9).trans (show _ = some (.slice none 0 0) from rfl); have zf := fun j => blk_frozen X10.out j))
          go_meet
          case rel => exact ⟨A7, m2.length, c7, none, 0, rfl, ⟨rfl⟩, ⟨(Kd.R_reads' HR7.out).2.1⟩, ⟨Kd.F_mono (Kd.R_F (Kd.R_bound HR7.out)) (fun k hk => ⟨trivial, fun e => by have := HOL7.out k e.symm; have := hk.2.1; omega⟩)⟩, X10, ⟨Nat.le_refl 0⟩, ⟨Kd.F_nil _ _ _⟩, ⟨Kd.N_mono HO.out (fun _ _ => trivial)⟩, HB⟩
        | false =>
          have HX1 : Aside0 (x.f0 ≠ 1) := ⟨by simpa using hq1⟩
          have HM2F : Aside0 (m' = m2) := ⟨by have h := HM2E.out; rw [if_neg HX1.out] at h; exact h⟩
          obtain rfl := HM2F.out
          have hik2 : i * K ≤ calls.length * K := Nat.mul_le_mul_right K (by omega)
          have HIK : Aside0 (m.length + i * K ≤ 4398046511000) := ⟨by omega⟩
          clear hik2
          cases q2 with
          | true =>
            have HX2 : Aside0 (x.f0 = 2) := ⟨by simpa using hq2⟩
            obtain ⟨gv, hgv⟩ : ∃ gv, getP m' x.f2 = gv := ⟨_, rfl⟩
            have htl := HTL.out
            rw [if_pos HX2.out, hgv] at htl
            have HGV := Aside0.mk hgv
            clear hgv HTL
            cases gv with
            | none =>
              have htl2 : [] = tl := htl
              subst htl2
              clear htl
              go_wp2_with (first | (go_at_call 21; refine (get21n HN.out HGV.out (Kd.F_now HM.out) (by have := HNL.out; have := HIK.out; omega)).mono ?_; rintro e w5 ⟨rfl, hb⟩; have n_HO := Aside0.mk (Kd.N_below HO.out hb); have n_HM := Aside0.mk (Kd.F_below HM.out hb); have n_X9 := Aside0.mk (blk_below X9.out hb); have n_X10 := Aside0.mk (blk_below X10.out hb); have n_HB := Aside0.mk (below_step HB.out hb); clear HO HM X9 X10 HB; have HO := n_HO; have HM := n_HM; have X9 := n_X9; have X10 := n_X10; have HB := n_HB; clear n_HO n_HM n_X9 n_X10 n_HB; clear hb; clear y0 y1 y2 y3 y4 z0 z1 z2 z3 z4 z5 z6 z7 z8 z9 zf; have y0 := (blk_cell X9.out 0).trans (show _ = some (.int .u8 x.f0) from rfl); have y1 := (blk_cell X9.out 1).trans (show _ = some (.slice A1 x.f1.length c1) from rfl); have y2 := (blk_cell X9.out 2).trans (show _ = some (.string x.f2) from rfl); have y3 := (blk_cell X9.out 3).trans (show _ = some (.string x.f3) from rfl); have y4 := (blk_cell X9.out 4).trans (show _ = some (.int .i64 x.f4) from rfl); have z0 := (blk_cell X10.out 0).trans (show _ = some (.int .u8 x.f0) from rfl); have z1 := (blk_cell X10.out 1).trans (show _ = some (.slice A1 x.f1.length c1) from rfl); have z2 := (blk_cell X10.out 2).trans (show _ = some (.string x.f2) from rfl); have z3 := (blk_cell X10.out 3).trans (show _ = some (.string x.f3) from rfl); have z4 := (blk_cell X10.out 4).trans (show _ = some (.int .i64 x.f4) from rfl); have z5 := (blk_cell X10.out 5).trans (show _ = some (.int .i64 (2 * (i : Int))) from rfl); have z6 := (blk_cell X10.out 6).trans (show _ = some (.int .i64 (2 * (i : Int) + 1)) from rfl); have z7 := (blk_cell X10.out 7).trans (show _ = some (.int .i64 0) from rfl); have z8 := (blk_cell X10.out 8).trans (show _ = some (.int .u64 (i : Int)) from rfl); have z9 := (blk_cell X10.out 9).trans (show _ = some (.slice none 0 0) from rfl); have zf := fun j => blk_frozen X10.out j))
              go_meet
              case rel => exact ⟨A', n', c', none, 0, rfl, HN, HMC', ⟨Kd.F_drop HM.out⟩, X10, ⟨Nat.le_refl 0⟩, ⟨Kd.F_nil _ _ _⟩, ⟨Kd.N_mono HO.out (fun _ _ => trivial)⟩, HB⟩
            | some v =>
              have htl2 : [⟨x.f2, v⟩] = tl := htl
              subst htl2
              clear htl
              go_wp2_with (first | (go_at_call 21; refine (get21n HN.out HGV.out (Kd.F_now HM.out) (by have := HNL.out; have := HIK.out; omega)).mono ?_; rintro e w5 ⟨rfl, hb⟩; have n_HO := Aside0.mk (Kd.N_below HO.out hb); have n_HM := Aside0.mk (Kd.F_below HM.out hb); have n_X9 := Aside0.mk (blk_below X9.out hb); have n_X10 := Aside0.mk (blk_below X10.out hb); have n_HB := Aside0.mk (below_step HB.out hb); clear HO HM X9 X10 HB; have HO := n_HO; have HM := n_HM; have X9 := n_X9; have X10 := n_X10; have HB := n_HB; clear n_HO n_HM n_X9 n_X10 n_HB; clear hb; clear y0 y1 y2 y3 y4 z0 z1 z2 z3 z4 z5 z6 z7 z8 z9 zf; have y0 := (blk_cell X9.out 0).trans (show _ = some (.int .u8 x.f0) from rfl); have y1 := (blk_cell X9.out 1).trans (show _ = some (.slice A1 x.f1.length c1) from rfl); have y2 := (blk_cell X9.out 2).trans (show _ = some (.string x.f2) from rfl); have y3 := (blk_cell X9.out 3).trans (show _ = some (.string x.f3) from rfl); have y4 := (blk_cell X9.out 4).trans (show _ = some (.int .i64 x.f4) from rfl); have z0 := (blk_cell X10.out 0).trans (show _ = some (.int .u8 x.f0) from rfl); have z1 := (blk_cell X10.out 1).trans (show _ = some (.slice A1 x.f1.length c1) from rfl); have z2 := (blk_cell X10.out 2).trans (show _ = some (.string x.f2) from rfl); have z3 := (blk_cell X10.out 3).trans (show _ = some (.string x.f3) from rfl); have z4 := (blk_cell X10.out 4).trans (show _ = some (.int .i64 x.f4) from rfl); have z5 := (blk_cell X10.out 5).trans (show _ = some (.int .i64 (2 * (i : Int))) from rfl); have z6 := (blk_cell X10.out 6).trans (show _ = some (.int .i64 (2 * (i : Int) + 1)) from rfl); have z7 := (blk_cell X10.out 7).trans (show _ = some (.int .i64 0) from rfl); have z8 := (blk_cell X10.out 8).trans (show _ = some (.int .u64 (i : Int)) from rfl); have z9 := (blk_cell X10.out 9).trans (show _ = some (.slice none 0 0) from rfl); have zf := fun j => blk_frozen X10.out j) | ((with_reducible refine gate_dst (N := 52) rfl ?_); refine lit_event ?hg (cs := #[.string x.f2, .string v]) (t := 25) (k := 1) ?hr ?_; (case hg => rfl); (case hr => first | (go_simp; done) | (go_simp; rfl)); intro vb hg w3 hbox hb; have HVB : Aside0 (vb ≠ g10 ∧ some vb ≠ (Value.slice L nn cl).ownBlock) := ⟨by rw [hg]; exact ⟨Nat.ne_of_gt (blk_lt X10.out), fun e => Nat.lt_irrefl _ (Kd.N_lt HO.out _ e.symm)⟩⟩; have n_HO := Aside0.mk (Kd.N_below HO.out hb); have n_HM := Aside0.mk (Kd.F_below HM.out hb); have n_X9 := Aside0.mk (blk_below X9.out hb); have n_X10 := Aside0.mk (blk_below X10.out hb); have n_HB := Aside0.mk (below_step HB.out hb); clear HO HM X9 X10 HB; have HO := n_HO; have HM := n_HM; have X9 := n_X9; have X10 := n_X10; have HB := n_HB; clear n_HO n_HM n_X9 n_X10 n_HB; have BV := Aside0.mk (hbox); clear hg hbox hb; clear y0 y1 y2 y3 y4 z0 z1 z2 z3 z4 z5 z6 z7 z8 z9 zf; have y0 := (blk_cell X9.out 0).trans (show _ = some (.int .u8 x.f0) from rfl); have y1 := (blk_cell X9.out 1).trans (show _ = some (.slice A1 x.f1.length c1) from rfl); have y2 := (blk_cell X9.out 2).trans (show _ = some (.string x.f2) from rfl); have y3 := (blk_cell X9.out 3).trans (show _ = some (.string x.f3) from rfl); have y4 := (blk_cell X9.out 4).trans (show _ = some (.int .i64 x.f4) from rfl); have z0 := (blk_cell X10.out 0).trans (show _ = some (.int .u8 x.f0) from rfl); have z1 := (blk_cell X10.out 1).trans (show _ = some (.slice A1 x.f1.length c1) from rfl); have z2 := (blk_cell X10.out 2).trans (show _ = some (.string x.f2) from rfl); have z3 := (blk_cell X10.out 3).trans (show _ = some (.string x.f3) from rfl); have z4 := (blk_cell X10.out 4).trans (show _ = some (.int .i64 x.f4) from rfl); have z5 := (blk_cell X10.out 5).trans (show _ = some (.int .i64 (2 * (i : Int))) from rfl); have z6 := (blk_cell X10.out 6).trans (show _ = some (.int .i64 (2 * (i : Int) + 1)) from rfl); have z7 := (blk_cell X10.out 7).trans (show _ = some (.int .i64 0) from rfl); have z8 := (blk_cell X10.out 8).trans (show _ = some (.int .u64 (i : Int)) from rfl); have z9 := (blk_cell X10.out 9).trans (show _ = some (.slice none 0 0) from rfl); have zf := fun j => blk_frozen X10.out j))
              go_meet
              case rel => exact ⟨A', n', c', (some ⟨vb, 0, none⟩), 1, rfl, HN, HMC', ⟨Kd.F_drop (Kd.F_far HM.out (p := ⟨g10, 9, none⟩) (fun k hk => hk.2) (.slice (some ⟨vb, 0, none⟩) 1 1))⟩, ⟨blk_put (cs' := #[.int .u8 x.f0, .slice A1 x.f1.length c1, .string x.f2, .string x.f3, .int .i64 x.f4, .int .i64 (2 * (i : Int)), .int .i64 (2 * (i : Int) + 1), .int .i64 0, .int .u64 (i : Int), .slice (some ⟨vb, 0, none⟩) 1 1]) X10.out 9 (.slice (some ⟨vb, 0, none⟩) 1 1) rfl⟩, ⟨Nat.le_refl 1⟩, ⟨Kd.F_far (p := ⟨g10, 9, none⟩) (one_F25 (p := ⟨x.f2, v⟩) BV.out (fun k => k = vb) rfl HVB.out.2) (fun k hk => by rw [hk.2]; exact HVB.out.1) _ |> fun h => Kd.F_mono h (fun k hk => hk.1)⟩, ⟨Kd.N_mono (Kd.N_far HO.out (p := ⟨g10, 9, none⟩) (fun k hk => hk.2) (.slice (some ⟨vb, 0, none⟩) 1 1)) (fun _ _ => trivial)⟩, ⟨below_set (j := 9) (v := .slice (some ⟨vb, 0, none⟩) 1 1) HB.out HG10.out⟩⟩
          | false =>
            cases q3 with
            | true =>
              have HX3 : Aside0 (x.f0 = 3) := ⟨by simpa using hq3⟩
              have HSC : Aside0 (scanP m' x.f2 x.f3 x.f4 = tl) := ⟨by have h := HTL.out; rw [if_neg (by have := HX3.out; omega), if_pos HX3.out] at h; exact h⟩
              go_wp2_with (first | (go_at_call 22; refine (scan22n HN.out HSC.out (Kd.F_now HM.out) HMC'.out (by have := HNL.out; have := HIK.out; omega)).mono ?_; rintro e w5 ⟨A7, c7, rfl, hR, hb⟩; have HR7 := Aside0.mk hR; have HLT7 := Aside0.mk (blk_lt X10.out); have HOL7 := Aside0.mk (Kd.N_lt HO.out); have n_HO := Aside0.mk (Kd.N_below HO.out hb); have n_HM := Aside0.mk (Kd.F_below HM.out hb); have n_X9 := Aside0.mk (blk_below X9.out hb); have n_X10 := Aside0.mk (blk_below X10.out hb); have n_HB := Aside0.mk (below_step HB.out hb); clear HO HM X9 X10 HB; have HO := n_HO; have HM := n_HM; have X9 := n_X9; have X10 := n_X10; have HB := n_HB; clear n_HO n_HM n_X9 n_X10 n_HB; clear hb hR; clear y0 y1 y2 y3 y4 z0 z1 z2 z3 z4 z5 z6 z7 z8 z9 zf; have y0 := (blk_cell X9.out 0).trans (show _ = some (.int .u8 x.f0) from rfl); have y1 := (blk_cell X9.out 1).trans (show _ = some (.slice A1 x.f1.length c1) from rfl); have y2 := (blk_cell X9.out 2).trans (show _ = some (.string x.f2) from rfl); have y3 := (blk_cell X9.out 3).trans (show _ = some (.string x.f3) from rfl); have y4 := (blk_cell X9.out 4).trans (show _ = some (.int .i64 x.f4) from rfl); have z0 := (blk_cell X10.out 0).trans (show _ = some (.int .u8 x.f0) from rfl); have z1 := (blk_cell X10.out 1).trans (show _ = some (.slice A1 x.f1.length c1) from rfl); have z2 := (blk_cell X10.out 2).trans (show _ = some (.string x.f2) from rfl); have z3 := (blk_cell X10.out 3).trans (show _ = some (.string x.f3) from rfl); have z4 := (blk_cell X10.out 4).trans (show _ = some (.int .i64 x.f4) from rfl); have z5 := (blk_cell X10.out 5).trans (show _ = some (.int .i64 (2 * (i : Int))) from rfl); have z6 := (blk_cell X10.out 6).trans (show _ = some (.int .i64 (2 * (i : Int) + 1)) from rfl); have z7 := (blk_cell X10.out 7).trans (show _ = some (.int .i64 0) from rfl); have z8 := (blk_cell X10.out 8).trans (show _ = some (.int .u64 (i : Int)) from rfl); have z9 := (blk_cell X10.out 9).trans (show _ = some (.slice none 0 0) from rfl); have zf := fun j => blk_frozen X10.out j))
              go_meet
              case rel => exact ⟨A', n', c', A7, c7, rfl, HN, HMC', ⟨Kd.F_drop (Kd.F_far HM.out (p := ⟨g10, 9, none⟩) (fun k hk => hk.2) (.slice A7 tl.length c7))⟩, ⟨blk_put (cs' := #[.int .u8 x.f0, .slice A1 x.f1.length c1, .string x.f2, .string x.f3, .int .i64 x.f4, .int .i64 (2 * (i : Int)), .int .i64 (2 * (i : Int) + 1), .int .i64 0, .int .u64 (i : Int), .slice A7 tl.length c7]) X10.out 9 (.slice A7 tl.length c7) rfl⟩, ⟨(Kd.R_reads' HR7.out).2.1⟩, ⟨Kd.F_mono (Kd.F_far (p := ⟨g10, 9, none⟩) (Kd.R_F (Kd.R_bound HR7.out)) (fun k hk => by have := HLT7.out; have := hk.2.1; show k ≠ g10; omega) _) (fun k hk => ⟨trivial, fun e => by have := HOL7.out k e.symm; have := hk.2.1; omega⟩)⟩, ⟨Kd.N_mono (Kd.N_far HO.out (p := ⟨g10, 9, none⟩) (fun k hk => hk.2) (.slice A7 tl.length c7)) (fun _ _ => trivial)⟩, ⟨below_set (j := 9) (v := .slice A7 tl.length c7) HB.out HG10.out⟩⟩
            | false =>
              have HX2 : Aside0 (x.f0 ≠ 2) := ⟨by simpa using hq2⟩
              have HX3 : Aside0 (x.f0 ≠ 3) := ⟨by simpa using hq3⟩
              have HT0 : Aside0 (tl = []) := ⟨by have h := HTL.out; rw [if_neg HX2.out, if_neg HX3.out] at h; exact h.symm⟩
              obtain rfl := HT0.out
              go_wp2
              go_meet
              case rel => exact ⟨A', n', c', none, 0, rfl, HN, HMC', ⟨Kd.F_drop HM.out⟩, X10, ⟨Nat.le_refl 0⟩, ⟨Kd.F_nil _ _ _⟩, ⟨Kd.N_mono HO.out (fun _ _ => trivial)⟩, HB⟩
      case rest =>
        clear y0 y1 y2 y3 y4 z0 z1 z2 z3 z4 z5 z6 z7 z8 z9 zf
        clear HO HM X10 HB
        obtain ⟨A2, n2, c2, A9, c9, rfl, HN2, HMC2, HM, X10, HTC, HT, HO, HB⟩ := hcut
        rename World => w6
        have z0 := (blk_cell X10.out 0).trans (show _ = some (.int .u8 x.f0) from rfl)
        have z1 := (blk_cell X10.out 1).trans (show _ = some (.slice A1 x.f1.length c1) from rfl)
        have z2 := (blk_cell X10.out 2).trans (show _ = some (.string x.f2) from rfl)
        have z3 := (blk_cell X10.out 3).trans (show _ = some (.string x.f3) from rfl)
        have z4 := (blk_cell X10.out 4).trans (show _ = some (.int .i64 x.f4) from rfl)
        have z5 := (blk_cell X10.out 5).trans (show _ = some (.int .i64 (2 * (i : Int))) from rfl)
        have z6 := (blk_cell X10.out 6).trans (show _ = some (.int .i64 (2 * (i : Int) + 1)) from rfl)
        have z7 := (blk_cell X10.out 7).trans (show _ = some (.int .i64 0) from rfl)
        have z8 := (blk_cell X10.out 8).trans (show _ = some (.int .u64 (i : Int)) from rfl)
        have z9 := (blk_cell X10.out 9).trans (show _ = some (.slice A9 tl.length c9) from rfl)
        go_upto_region 17 with (first | ((with_reducible refine gate_dst (N := 67) rfl ?_); refine lit_event ?hg (cs := #[.int .u8 x.f0, .slice A1 x.f1.length c1, .string x.f2, .string x.f3, .int .i64 x.f4, .int .i64 (2 * (i : Int)), .int .i64 (2 * (i : Int) + 1), .int .i64 0, .int .u64 (i : Int), .slice A9 tl.length c9]) (t := 36) (k := 1) ?hr ?_; (case hg => rfl); (case hr => first | (go_simp; done) | (go_simp; rfl)); intro vb hg w3 hbox hb; have HVB : Aside0 (some vb ≠ (Value.slice L nn cl).ownBlock) := ⟨by rw [hg]; exact fun e => Nat.lt_irrefl _ (Kd.N_lt HO.out _ e.symm)⟩; have n_HO := Aside0.mk (Kd.N_below HO.out hb); have n_HM := Aside0.mk (Kd.F_below HM.out hb); have n_HT := Aside0.mk (Kd.F_below HT.out hb); have n_X10 := Aside0.mk (blk_below X10.out hb); have n_HB := Aside0.mk (below_step HB.out hb); clear HO HM HT X10 HB; have HO := n_HO; have HM := n_HM; have HT := n_HT; have X10 := n_X10; have HB := n_HB; clear n_HO n_HM n_HT n_X10 n_HB; have BV := Aside0.mk (one_F36 (x := ⟨x, 2 * (i : Int), 2 * (i : Int) + 1, 0, (i : Int), tl⟩) hbox HL1.out (Kd.F_mono (arg_F71 HC1.out HB.out) (ok' := fun k => True ∧ some k ≠ (Value.slice L nn cl).ownBlock) (fun k hk => ⟨trivial, fun e => by have := HOB.out k e.symm; omega⟩)) HTC.out HT.out); clear hg hbox hb) | ((with_reducible refine gate_builtin (b := .append) (xs := #[.tmp 65, .tmp 67]) rfl ?_); at_builtin; (refine Kd.N_append_rows k36 (w0 := w) w.heap.size rfl (.tmp 65) (.tmp 67) 26 36 _ 128 rfl Try.underlying26 info36 rfl (by decide) (by decide) (.slice L nn cl) out [⟨x, 2 * (i : Int), 2 * (i : Int) + 1, 0, (i : Int), tl⟩] (some ⟨vb, 0, none⟩) 1 1 (fun _ => True) (fun k => (True ∧ some k ≠ (Value.slice L nn cl).ownBlock) ∨ k = vb) rfl rfl HO.out BV.out (fun k hk => ⟨trivial, hk.elim (fun h => h.2) (fun h => h ▸ HVB.out)⟩) (fun _ _ => trivial) HB.out (below_size HB.out) (by have := HOL.out; omega) ?_); intro v1 w1 ho hb hg hat; obtain ⟨o2, ho2⟩ : ∃ o2, out ++ [(⟨x, 2 * (i : Int), 2 * (i : Int) + 1, 0, (i : Int), tl⟩ : S36)] = o2 := ⟨_, rfl⟩; rw [ho2] at ho; obtain ⟨L1, cl1, hv⟩ := Kd.N_slice ho; obtain ⟨nl, hnl⟩ : ∃ nl, o2.length = nl := ⟨_, rfl⟩; rw [hnl] at hv; subst hv; have HM9 := Aside0.mk (Kd.F_after HM.out hg hat); have HO9 := Aside0.mk ho; have HB9 := Aside0.mk hb; have HO2 := Aside0.mk ho2; have HNN2 := Aside0.mk hnl.symm; clear ho hb hg hat ho2 hnl))
        clear z0 z1 z2 z3 z4 z5 z6 z7 z8 z9
        have hik : (i + 1) * K = i * K + K := Nat.succ_mul i K
        have hm2l : m2.length ≤ m'.length + K := by
          rw [← HM2E.out]
          split
          · next h => exact Nat.le_trans (applyP_len _ _) (Nat.add_le_add_left (HKX.out h) _)
          · exact Nat.le_add_right _ _
        have HO2L : Aside0 (o2.length = i + 1) := ⟨by rw [← HO2.out, List.length_append, HOL.out]; rfl⟩
        have HEQ4 : Aside0 (o2 ++ (aloneP (i + 1) m2 (calls.drop (i + 1))).1 = r) := ⟨by rw [← HO2.out, List.append_assoc]; exact HEQ3.out⟩
        have HNL2 : Aside0 (n2 ≤ m.length + (i + 1) * K) := ⟨by have := HNL.out; have := HN.out; have := HN2.out; omega⟩
        clear hik hm2l
        go_wp2
        go_roundw
        case rel => exact ⟨i + 1, o2, L1, nl, cl1, m2, A2, n2, c2, by omega, rfl, rfl, by go_num, HNN2, HO2L, HN2, HEQ4, HMC2, HNL2, HO9, HM9, HB9⟩
        case measure => simp [intOf]; omega
    · obtain rfl : i = calls.length := by omega
      have heq := HEQ.out
      rw [List.drop_length] at heq
      have heq2 : out = r := by rw [← heq]; exact (List.append_nil _).symm
      obtain rfl : nn = calls.length := by rw [HNN.out, HOL.out]
      have HE := Aside0.mk heq2
      clear heq heq2 HEQ
      go_wp2
      go_ret2
      exact ⟨L, cl, _, rfl, by rw [← HE.out]; exact HO.out, HB.out⟩

end Go.Proofs.Ytjieagpfnnbiiaa.XLin
