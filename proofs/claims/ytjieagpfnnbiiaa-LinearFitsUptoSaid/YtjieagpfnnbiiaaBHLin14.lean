/- linear.Legal. -/
import Derived.Test.YtjieagpfnnbiiaaBHLin13
namespace Go.Proofs.Ytjieagpfnnbiiaa.XLin
open Go Go.RowKit Go.Proofs.YtjieagpfnnbiiaaW.PrintWords Go.Proofs.YtjieagpfnnbiiaaW.PrintLast Go.Proofs.YtjieagpfnnbiiaaW.PrintMore
open Go.Proofs.Ytjieagpfnnbiiaa
set_option linter.unusedVariables false
set_option linter.unusedSimpArgs false
theorem run_store_func {P : Program} {w : World} {a : Addr} {m : Mode} (f : Fn) (xs cs : Array Value) : (store a (.func f xs cs) m).run P w = stored P w a (.func f xs cs) m := run_store P w a _ m rfl
attribute [local go_sem] run_store_func
section
variable {P : Program} {ops : Array Oper} {Q : Exit → Act → World → Prop} {rest : List Oper} {o : Oper} {a : Act}
theorem made_event {W : World} (hgd : o.guard = none) {N : Tmp} (_hd : o.dst = some N) {cs : Array Value} {t : TypeId} {n : Nat}
    (hrun : (execOp a.eval o).run P W = .ok (.value (.slice (some ⟨W.heap.size, 0, none⟩) n n)) (W.alloc (.cells cs t (0, 0))))
    (h : ∀ g, g = W.heap.size → ∀ w1, w1.heap[g]? = some (.cells cs t (0, 0)) → Below W.heap.size W w1 → wpList P ops Q rest (a.put o.dst (.slice (some ⟨g, 0, none⟩) n n)) w1) : wpList P ops Q (o :: rest) a W :=
  Kd.event_run hgd hrun (h _ rfl _ (blk_new W _) (below_alloc (Below.refl _ _) _))
theorem mapmade_event {t : TypeId} (M : HStrMap.SM P t) {W : World} (hgd : o.guard = none) {N : Tmp} (_hd : o.dst = some N)
    (hrun : (execOp a.eval o).run P W = .ok (.value (.map (some W.heap.size))) (W.alloc (.map #[] 0)))
    (h : ∀ g, g = W.heap.size → ∀ w1, HStrMap.Owns M w1 g 0 [] → Below W.heap.size W w1 → wpList P ops Q rest (a.put o.dst (.map (some g))) w1) : wpList P ops Q (o :: rest) a W :=
  Kd.event_run hgd hrun (h _ rfl _ (HStrMap.owns_made M W) (below_alloc (Below.refl _ _) _))
end
theorem infoU8' : ∃ i : TypeInfo, Try.prog.info? 5 = some i ∧ i.zero = some (.int .u8 0) ∧ i.size = 1 ∧ i.bytes = 1 := by
  obtain ⟨i, h1, h2⟩ := Option.map_eq_some_iff.1 infoU8
  simp only [Prod.mk.injEq] at h2
  exact ⟨i, h1, h2⟩
theorem made_cells : ∀ n : Nat, madeCells (#[.int .u8 0] : Array Value) n = (nums .u8 (List.replicate n 0)).toArray := by
  intro n
  apply Array.ext'
  unfold madeCells nums
  simp
  apply List.ext_getElem
  · simp
  · intro i h1 h2
    simp [Nat.mod_one]
theorem run_make66 (n : Nat) (hn : n ≤ 1000) (W : World) : (Instr.makeSlice 66 (.int .i64 (n : Int)) (.int .i64 (n : Int))).run Try.prog W = .ok (.slice (some ⟨W.heap.size, 0, none⟩) n n) (W.alloc (.cells (nums .u8 (List.replicate n 0)).toArray 5 (0, 0))) := by
  obtain ⟨i, h1, h2, h3, h4⟩ := infoU8'
  have h := run_make (P := Try.prog) W 66 5 i (.int .u8 0) Try.underlying66 h1 h2 .i64 .i64 (n : Int) (n : Int) (by omega) (Int.le_refl _) (by rw [h4]; omega) (by omega)
  rw [Int.toNat_natCast, h3, Nat.mul_one] at h
  rw [show (Value.int IntKind.u8 0).cells = #[.int .u8 0] from rfl, made_cells] at h
  exact h
theorem tb_le : ∀ (k n : Nat), n ≤ 12 → tb n k ≤ 13 ^ k
  | 0, n, _ => by simp [tb]
  | k + 1, n, h => by
    have h1 := tb_le k n h
    have h2 : n * tb n k ≤ 12 * 13 ^ k := Nat.mul_le_mul h h1
    have h3 : 1 ≤ 13 ^ k := Nat.one_le_pow _ _ (by omega)
    unfold tb
    rw [Nat.pow_succ]
    omega
theorem bits_zero (n : Nat) : Bits (List.replicate n 0) := fun x hx => .inl (List.eq_of_mem_replicate hx)
set_option maxHeartbeats 8000000 in
set_option maxRecDepth 100000 in
theorem legal10 (A : Option Addr) (c : Nat) (base : List S25) (L : Option Addr) (cl : Nat) (l : List S36) (w : World) (hm : Kd.C k25 w A base.length base) (hmc : base.length ≤ c) (hl : Kd.C k36 w L l.length l) (hlc : l.length ≤ cl) (hb0 : base.length ≤ 80000) (hops : ∀ x ∈ l, opsN x ≤ 1000) (hsm : Small base) :
    Calls Try.prog 10 #[.slice A base.length c, .slice L l.length cl] w fun e w' => e = .returned (.bool (legalP base l)) ∧ Below w.heap.size w w' := by
  have HM0 := Aside0.mk hm
  have HMC := Aside0.mk hmc
  have HL := Aside0.mk hl
  have HLC := Aside0.mk hlc
  have HOPS := Aside0.mk hops
  have HSM := Aside0.mk hsm
  have HB := Aside0.mk (Below.refl w.heap.size w)
  have hll : l.length ≤ 9223372036854775807 := hl.2.1
  clear hm hmc hl hlc hops hsm
  obtain ⟨r, hr⟩ : ∃ r, legalP base l = r := ⟨_, rfl⟩
  rw [hr]
  unfold legalP at hr
  have HR := Aside0.mk hr
  clear hr
  have hmm := @run_makeMap Try.prog
  go_enter Try.func10, Try.ntmps10
  go_upto_region 1 with (first | ((with_reducible refine gate_dst (N := 3) rfl ?_); refine box_event ?hg (N := 3) ?hd (cs := #[.slice L l.length cl]) (t := 26) ?hr ?_; (case hd => rfl); (case hg => rfl); (case hr => first | (go_simp; done) | (go_simp; rfl)); intro g3 hg w3 hbox hb; have GE_g3 : Aside0 (w.heap.size ≤ g3) := ⟨by rw [hg]; exact below_size HB.out⟩; have n_HB := Aside0.mk (below_step HB.out hb); clear HB; have HB := n_HB; clear n_HB; have B3 := Aside0.mk hbox; clear hg hbox hb))
  have bB3_0 := (blk_cell B3.out 0).trans (show _ = some (.slice L l.length cl) from rfl)
  have bB3_f := fun j => blk_frozen B3.out j
  by_cases h12 : l.length > 12
  · have hgt : (l.length : Int) > 12 := by omega
    have HF : Aside0 (r = false) := ⟨by have h := HR.out; rw [if_pos h12] at h; exact h.symm⟩
    go_wp2
    go_ret
    exact ⟨by rw [HF.out]; rfl, HB.out⟩
  have hgt : ¬ (l.length : Int) > 12 := by omega
  have hgt2 : (l.length : Int) ≤ 12 := by omega
  have hr := HR.out
  rw [if_neg h12] at hr
  have HR2 := Aside0.mk hr
  clear hr HR
  go_upto_region 3 with (fail)
  have hmk := run_make66 l.length (by omega)
  go_upto_region 4 with (first | ((with_reducible refine gate_dst (N := 13) rfl ?_); refine made_event ?hg (N := 13) ?hd (n := l.length) (cs := (nums .u8 (List.replicate l.length 0)).toArray) (t := 5) ?hr ?_; (case hd => rfl); (case hg => rfl); (case hr => first | (go_simp; done) | (go_simp; rfl)); intro gd hg w3 hbox hb; have GE_gd : Aside0 (w.heap.size ≤ gd) := ⟨by rw [hg]; exact below_size HB.out⟩; have NE_3d : Aside0 (g3 ≠ gd) := ⟨by rw [hg]; exact Nat.ne_of_lt (blk_lt B3.out)⟩; have n_B3 := Aside0.mk (blk_below B3.out hb); have n_HB := Aside0.mk (below_step HB.out hb); clear B3 HB; have B3 := n_B3; have HB := n_HB; clear n_B3 n_HB; have BD := Aside0.mk hbox; clear hg hbox hb; clear bB3_0 bB3_f; have bB3_0 := (blk_cell B3.out 0).trans (show _ = some (.slice L l.length cl) from rfl); have bB3_f := fun j => blk_frozen B3.out j) | ((with_reducible refine gate_dst (N := 5) rfl ?_); refine box_event ?hg (N := 5) ?hd (cs := #[.slice none 0 0]) (t := 66) ?hr ?_; (case hd => rfl); (case hg => rfl); (case hr => first | (go_simp; done) | (go_simp; rfl)); intro g5 hg w3 hbox hb; have NE_g3_g5 : Aside0 (g3 ≠ g5) := ⟨by rw [hg]; exact Nat.ne_of_lt (blk_lt B3.out)⟩; have GE_g5 : Aside0 (w.heap.size ≤ g5) := ⟨by rw [hg]; exact below_size HB.out⟩; have NE_5d : Aside0 (g5 ≠ gd) := ⟨by rw [hg]; exact Nat.ne_of_gt (blk_lt BD.out)⟩; have n_B3 := Aside0.mk (blk_below B3.out hb); have n_BD := Aside0.mk (blk_below BD.out hb); have n_HB := Aside0.mk (below_step HB.out hb); clear B3 BD HB; have B3 := n_B3; have BD := n_BD; have HB := n_HB; clear n_B3 n_BD n_HB; have B5 := Aside0.mk hbox; clear hg hbox hb; have bB5_0 := (blk_cell B5.out 0).trans (show _ = some (.slice none 0 0) from rfl); have bB5_f := fun j => blk_frozen B5.out j))
  clear hmk
  clear bB3_0 bB3_f
  clear bB5_0 bB5_f
  rename World => w4
  have s0 := blk_put (cs' := #[.slice (some ⟨gd, 0, none⟩) l.length l.length]) B5.out 0 (.slice (some ⟨gd, 0, none⟩) l.length l.length) rfl
  have h0 := below_set (j := 0) (v := .slice (some ⟨gd, 0, none⟩) l.length l.length) HB.out GE_g5.out
  have hs : ∀ k, k ≠ g5 → (World.setCell w4 ⟨g5, 0, none⟩ (.slice (some ⟨gd, 0, none⟩) l.length l.length)).heap[k]? = w4.heap[k]? := fun k hk => (Below.heap_setCell w4 ⟨g5, 0, none⟩ (.slice (some ⟨gd, 0, none⟩) l.length l.length) k hk)
  generalize (World.setCell w4 ⟨g5, 0, none⟩ (.slice (some ⟨gd, 0, none⟩) l.length l.length)) = w5 at s0 h0 hs ⊢
  have n_B3 := Aside0.mk ((hs g3 NE_g3_g5.out).trans B3.out); have n_BD := Aside0.mk ((hs gd (fun e => NE_5d.out e.symm)).trans BD.out); have n_HB := Aside0.mk (h0); clear B3 BD HB; have B3 := n_B3; have BD := n_BD; have HB := n_HB; clear n_B3 n_BD n_HB
  clear B5
  have B5 := Aside0.mk s0
  clear hs s0 h0
  go_upto_region 5 with (first | ((with_reducible refine gate_dst (N := 14) rfl ?_); refine mapmade_event sm67 ?hg (N := 14) ?hd ?hr ?_; (case hd => rfl); (case hg => rfl); (case hr => first | (go_simp; done) | (go_simp; rfl)); intro gm hg w3 how hb; have GE_gm : Aside0 (w.heap.size ≤ gm) := ⟨by rw [hg]; exact below_size HB.out⟩; have NEM : Aside0 (gd ≠ gm ∧ g3 ≠ gm ∧ g5 ≠ gm) := ⟨by rw [hg]; exact ⟨Nat.ne_of_lt (blk_lt BD.out), Nat.ne_of_lt (blk_lt B3.out), Nat.ne_of_lt (blk_lt B5.out)⟩⟩; have n_B3 := Aside0.mk (blk_below B3.out hb); have n_B5 := Aside0.mk (blk_below B5.out hb); have n_BD := Aside0.mk (blk_below BD.out hb); have n_HB := Aside0.mk (below_step HB.out hb); clear B3 B5 BD HB; have B3 := n_B3; have B5 := n_B5; have BD := n_BD; have HB := n_HB; clear n_B3 n_B5 n_BD n_HB; have HOW := Aside0.mk how; clear hg how hb) | ((with_reducible refine gate_dst (N := 6) rfl ?_); refine box_event ?hg (N := 6) ?hd (cs := #[.map none]) (t := 67) ?hr ?_; (case hd => rfl); (case hg => rfl); (case hr => first | (go_simp; done) | (go_simp; rfl)); intro g6 hg w3 hbox hb; have NE_g3_g6 : Aside0 (g3 ≠ g6) := ⟨by rw [hg]; exact Nat.ne_of_lt (blk_lt B3.out)⟩; have NE_g5_g6 : Aside0 (g5 ≠ g6) := ⟨by rw [hg]; exact Nat.ne_of_lt (blk_lt B5.out)⟩; have GE_g6 : Aside0 (w.heap.size ≤ g6) := ⟨by rw [hg]; exact below_size HB.out⟩; have NE_6 : Aside0 (g6 ≠ gd ∧ g6 ≠ gm) := ⟨by rw [hg]; exact ⟨Nat.ne_of_gt (blk_lt BD.out), Nat.ne_of_gt HOW.out.lt⟩⟩; have n_B3 := Aside0.mk (blk_below B3.out hb); have n_B5 := Aside0.mk (blk_below B5.out hb); have n_BD := Aside0.mk (blk_below BD.out hb); have n_HOW := Aside0.mk (HOW.out.move (hb.block gm HOW.out.lt)); have n_HB := Aside0.mk (below_step HB.out hb); clear B3 B5 BD HOW HB; have B3 := n_B3; have B5 := n_B5; have BD := n_BD; have HOW := n_HOW; have HB := n_HB; clear n_B3 n_B5 n_BD n_HOW n_HB; have B6 := Aside0.mk hbox; clear hg hbox hb; have bB6_0 := (blk_cell B6.out 0).trans (show _ = some (.map none) from rfl); have bB6_f := fun j => blk_frozen B6.out j))
  clear bB6_0 bB6_f
  rename World => w6
  have s0 := blk_put (cs' := #[.map (some gm)]) B6.out 0 (.map (some gm)) rfl
  have h0 := below_set (j := 0) (v := .map (some gm)) HB.out GE_g6.out
  have hs : ∀ k, k ≠ g6 → (World.setCell w6 ⟨g6, 0, none⟩ (.map (some gm))).heap[k]? = w6.heap[k]? := fun k hk => (Below.heap_setCell w6 ⟨g6, 0, none⟩ (.map (some gm)) k hk)
  generalize (World.setCell w6 ⟨g6, 0, none⟩ (.map (some gm))) = w7 at s0 h0 hs ⊢
  have n_B3 := Aside0.mk ((hs g3 NE_g3_g6.out).trans B3.out); have n_B5 := Aside0.mk ((hs g5 NE_g5_g6.out).trans B5.out); have n_BD := Aside0.mk ((hs gd (fun e => NE_6.out.1 e.symm)).trans BD.out); have n_HOW := Aside0.mk (HOW.out.move (hs gm (fun e => NE_6.out.2 e.symm))); have n_HB := Aside0.mk (h0); clear B3 B5 BD HOW HB; have B3 := n_B3; have B5 := n_B5; have BD := n_BD; have HOW := n_HOW; have HB := n_HB; clear n_B3 n_B5 n_BD n_HOW n_HB
  clear B6
  have B6 := Aside0.mk s0
  clear hs s0 h0
  go_upto_region 7 with (first | ((with_reducible refine gate_dst (N := 7) rfl ?_); refine box_event ?hg (N := 7) ?hd (cs := #[.nilFunc]) (t := 59) ?hr ?_; (case hd => rfl); (case hg => rfl); (case hr => first | (go_simp; done) | (go_simp; rfl)); intro g7 hg w3 hbox hb; have NE_g3_g7 : Aside0 (g3 ≠ g7) := ⟨by rw [hg]; exact Nat.ne_of_lt (blk_lt B3.out)⟩; have NE_g5_g7 : Aside0 (g5 ≠ g7) := ⟨by rw [hg]; exact Nat.ne_of_lt (blk_lt B5.out)⟩; have NE_g6_g7 : Aside0 (g6 ≠ g7) := ⟨by rw [hg]; exact Nat.ne_of_lt (blk_lt B6.out)⟩; have GE_g7 : Aside0 (w.heap.size ≤ g7) := ⟨by rw [hg]; exact below_size HB.out⟩; have NE_7 : Aside0 (g7 ≠ gd ∧ g7 ≠ gm) := ⟨by rw [hg]; exact ⟨Nat.ne_of_gt (blk_lt BD.out), Nat.ne_of_gt HOW.out.lt⟩⟩; have n_B3 := Aside0.mk (blk_below B3.out hb); have n_B5 := Aside0.mk (blk_below B5.out hb); have n_B6 := Aside0.mk (blk_below B6.out hb); have n_BD := Aside0.mk (blk_below BD.out hb); have n_HOW := Aside0.mk (HOW.out.move (hb.block gm HOW.out.lt)); have n_HB := Aside0.mk (below_step HB.out hb); clear B3 B5 B6 BD HOW HB; have B3 := n_B3; have B5 := n_B5; have B6 := n_B6; have BD := n_BD; have HOW := n_HOW; have HB := n_HB; clear n_B3 n_B5 n_B6 n_BD n_HOW n_HB; have B7 := Aside0.mk hbox; clear hg hbox hb; have bB7_0 := (blk_cell B7.out 0).trans (show _ = some (.nilFunc) from rfl); have bB7_f := fun j => blk_frozen B7.out j))
  clear bB7_0 bB7_f
  rename World => w8
  have s0 := blk_put (cs' := #[tryV g3 g5 g6 g7]) B7.out 0 (tryV g3 g5 g6 g7) rfl
  have h0 := below_set (j := 0) (v := tryV g3 g5 g6 g7) HB.out GE_g7.out
  have hs : ∀ k, k ≠ g7 → (World.setCell w8 ⟨g7, 0, none⟩ (tryV g3 g5 g6 g7)).heap[k]? = w8.heap[k]? := fun k hk => (Below.heap_setCell w8 ⟨g7, 0, none⟩ (tryV g3 g5 g6 g7) k hk)
  generalize (World.setCell w8 ⟨g7, 0, none⟩ (tryV g3 g5 g6 g7)) = w9 at s0 h0 hs ⊢
  have n_B3 := Aside0.mk ((hs g3 NE_g3_g7.out).trans B3.out); have n_B5 := Aside0.mk ((hs g5 NE_g5_g7.out).trans B5.out); have n_B6 := Aside0.mk ((hs g6 NE_g6_g7.out).trans B6.out); have n_BD := Aside0.mk ((hs gd (fun e => NE_7.out.1 e.symm)).trans BD.out); have n_HOW := Aside0.mk (HOW.out.move (hs gm (fun e => NE_7.out.2 e.symm))); have n_HB := Aside0.mk (h0); clear B3 B5 B6 BD HOW HB; have B3 := n_B3; have B5 := n_B5; have B6 := n_B6; have BD := n_BD; have HOW := n_HOW; have HB := n_HB; clear n_B3 n_B5 n_B6 n_BD n_HOW n_HB
  clear B7
  have B7 := Aside0.mk s0
  clear hs s0 h0
  have hs : TryOf w gd gm g3 g5 g6 g7 L cl l := ⟨HL.out, HLC.out, by omega, HOPS.out, GE_gd.out, GE_gm.out, NEM.out.1, ⟨NE_3d.out, NEM.out.2.1⟩, ⟨NE_5d.out, NEM.out.2.2⟩, NE_6.out, NE_7.out⟩
  have hts : TSt w gd gm g3 g5 g6 g7 L cl l.length (List.replicate l.length 0) [] 0 w9 w9 := ⟨HB.out, Fr.refl _ _ _, B3.out, B5.out, B6.out, B7.out, BD.out, _, HOW.out, fun s => by simp [HStrMap.look], fun s v h => by simp [HStrMap.look] at h⟩
  have HTS := Aside0.mk hts
  have HS := Aside0.mk hs
  clear hs hts
  have y7 := (blk_cell B7.out 0).trans (show _ = some (tryV g3 g5 g6 g7) from rfl)
  have htb := tb_le (l.length + 1) l.length (by omega)
  have hpw : 13 ^ (l.length + 1) ≤ 13 ^ 13 := Nat.pow_le_pow_right (by omega) (by omega)
  have hpw2 : 13 ^ 13 = 302875106592253 := by decide
  rw [hpw2] at hpw
  have HTB : Aside0 (0 + tb l.length (l.length + 1) ≤ 1000000000000000000) := ⟨by omega⟩
  clear htb hpw hpw2
  go_wp2_with (first | (go_at_call 29; refine (try29 HS.out (l.length + 1) (List.replicate l.length 0) base A base.length c [] 0 _ rfl (bits_zero _) (by rw [List.length_replicate]) (by have := List.count_le_length (a := (0 : Int)) (l := List.replicate l.length 0); rw [List.length_replicate] at this; omega) HTS.out (Kd.F_mono (arg_F25 HM0.out HB.out) (fun k hk => ⟨by have := GE_gm.out; omega, by have := GE_gd.out; omega⟩)) HMC.out HSM.out (by have := List.count_le_length (a := (0 : Int)) (l := List.replicate l.length 0); rw [List.length_replicate] at this; omega) HTB.out).mono ?_; rintro e w10 ⟨rfl, hb0, _⟩; have HB0 := Aside0.mk hb0; clear hb0; rw [HR2.out]))
  go_ret
  exact ⟨rfl, HB0.out⟩

end Go.Proofs.Ytjieagpfnnbiiaa.XLin
