-- Written by a program of this session (wip/xprint.py): functions of the given Go program as plain Lean functions, and that the machine's calls come to them.
import Derived.Test.YthlahhkjoocigaaQXQueue0
import Derived.Test.YthlahhkjoocigaaQXQueue2
import Derived.Test.YthlahhkjoocigaaQXQueue3
import Derived.Test.YthlahhkjoocigaaQXQueue4
namespace Go.Proofs.Ythlahhkjoocigaa.XQueue
open Go.RowKit Go.Proofs.YthlahhkjoocigaaW.PrintWords Go.Proofs.YthlahhkjoocigaaW.PrintLast Go.Proofs.YthlahhkjoocigaaW.PrintMore
attribute [local go_sem] max2_int min2_int max_two min_two max_three min_three max_four min_four   -- for this text's walks alone
set_option linter.unusedVariables false
set_option linter.unusedSimpArgs false

/-! ### queue_Take: function 54 -/
theorem cut_lhm {P : Program} {t e : TypeId} {i : TypeInfo} (ht : P.underlying t = some (.slice e)) (hi : P.info? e = some i) (A : Option Addr) (n c : Nat) (a b m : Int) (h0 : 0 ≤ a) (h1 : a ≤ b) (h2 : b ≤ m) (h3 : m ≤ c) :
    ∃ v, ∀ W : World, (Instr.slice t (.slice A n c) (some (.int .i64 a)) (some (.int .i64 b)) (some (.int .i64 m))).run P W = .ok v W := by
  have hel : P.elem t = e := by simp [Program.elem, ht]
  have hu : P.underlying t = some (.slice (P.elem t)) := by rw [hel]; exact ht
  refine ⟨sliced A a.toNat b.toNat m.toNat i.size, fun W => ?_⟩
  rw [run_slice_lhm W t A n c hu .i64 .i64 .i64 a b m h0 h1 h2 h3, hel]
  simp [sizeOf, typeInfo, hi, Result.andThen]
theorem cut_far {P : Program} (t e : TypeId) {i : TypeInfo} (ht : P.underlying t = some (.slice e)) (hi : P.info? e = some i) (size : Nat) (hsz : i.size = size) (A : Option Addr) (n c : Nat) (lo hi' : Int) (h0 : 0 ≤ lo) (h1 : lo ≤ hi') (hc : hi' ≤ c) :
    ∀ W : World, (Instr.slice t (.slice A n c) (some (.int .i64 lo)) (some (.int .i64 hi')) none).run P W = .ok (.slice (if c = lo.toNat then A else A.map (·.add (lo.toNat * size))) (hi'.toNat - lo.toNat) (c - lo.toNat)) W := by
  intro W
  have hel : P.elem t = e := by simp [Program.elem, ht]
  have hu : P.underlying t = some (.slice (P.elem t)) := by rw [hel]; exact ht
  rw [run_slice_lh W t A n c hu .i64 .i64 lo hi' h0 h1 hc, hel]
  simp [sizeOf, typeInfo, hi, hsz, sliced, Result.andThen]
def zeros65 : List Value := [.int .i64 0, .int .i64 0, .int .u64 0, .int .u64 0, .int .u8 0, .int .i64 0]
theorem clear_one {P : Program} (w : World) (t e ty : TypeId) (ht : P.underlying t = some (.slice e)) (hv : ∀ w, (zeroValue e).run P w = .ok (.agg zeros65.toArray) w) (b o c : Nat)
    (hc : ∀ j, j < 6 → (w.cell? ⟨b, o + j, none⟩).isSome = true) (hf : ∀ j, j < 6 → w.frozen? ⟨b, o + j, none⟩ = false) :
    (Builtin.clear_ #[t] ty #[.slice (some ⟨b, o, none⟩) 1 c]).run P w = .ok (.tuple #[]) (w.setCells b o zeros65) := by
  have hzc : (Builtin.zeroCells (Value.agg zeros65.toArray).cells 1).toList = zeros65 := by kernel_rfl
  have hst := run_storeCells_cells (P := P) b o zeros65 0 w (fun j hj => hc j hj) (fun j hj => hf j hj) (by intro v hv; simp only [zeros65, List.mem_cons, List.mem_nil_iff, or_false] at hv; rcases hv with rfl | rfl | rfl | rfl | rfl | rfl <;> rfl)
  simp only [Nat.add_zero] at hst
  simp [Builtin.clear_, run_underlying ht, hv, hzc, hst]
/-- Cells behind a row are stored. -/
theorem R_spare {W : World} {base g n c : Nat} {ok : Nat → Prop} {xs : List S65} (h : Kd.R k65 65 W base ok (.slice (some ⟨g, 0, none⟩) n c) xs) (o : Nat) (seg : List Value) (ho : n * 6 ≤ o) (hl : o + seg.length ≤ c * 6) :
    Kd.R k65 65 (W.setCells g o seg) base ok (.slice (some ⟨g, 0, none⟩) n c) xs ∧ W.grownBy (W.setCells g o seg) (some g) := by
  obtain ⟨s1, s2, s3, s4⟩ := setCells_same g seg o W
  refine ⟨?_, ⟨s1, s2, s3, by omega, fun k hk hne => setCells_far seg o k (fun e => hne (by rw [e]))⟩⟩
  obtain ⟨h0, inner, ⟨hil, hown⟩, hrep⟩ := h
  refine ⟨h0, inner, ⟨hil, ?_⟩, ⟨hrep.1, fun j p hj => by have hq := k65_openM (hrep.2 j p hj); rw [hq]; exact k65_mkM _ _ _ p⟩⟩
  rcases hown with ⟨hv, _⟩ | ⟨g', cap, cur, hv, hb, hh, hn, hcm, hcs, ht⟩
  · cases hv
  · simp only [Value.slice.injEq, Option.some.injEq, Addr.mk.injEq, and_true] at hv
    obtain ⟨rfl, hn', rfl⟩ := hv
    have hsz : k65.sz = 6 := rfl
    rw [hsz] at hcs ht ⊢
    obtain ⟨cur', h3, h4, h5⟩ := setCells_row seg o W cur hh (by omega)
    refine .inr ⟨g, c, cur', by rw [hn'], hb, h3, hn, hcm, by rw [h4, hcs], ?_⟩
    show cur'.toList.take (xs.length * 6) = inner
    have ht2 : cur.toList.take (xs.length * 6) = inner := ht
    have e8 : xs.length * 6 ≤ (cur.toList.take o).length := by have e7 : cur.toList.length = cur.size := Array.length_toList; rw [List.length_take]; omega
    rw [h5, List.append_assoc, List.take_append_of_le_length e8, List.take_take, Nat.min_eq_left (by omega), ht2]
theorem spare_cells {W : World} {base g n c : Nat} {ok : Nat → Prop} {xs : List S65} (h : Kd.R k65 65 W base ok (.slice (some ⟨g, 0, none⟩) n c) xs) (o : Nat) (ho : o < c * 6) : (W.cell? ⟨g, o, none⟩).isSome = true ∧ W.frozen? ⟨g, o, none⟩ = false := by
  obtain ⟨h0, inner, ⟨hil, hown⟩, hrep⟩ := h
  rcases hown with ⟨hv, _⟩ | ⟨g', cap, cur, hv, hb, hh, hn, hcm, hcs, ht⟩
  · cases hv
  · simp only [Value.slice.injEq, Option.some.injEq, Addr.mk.injEq, and_true] at hv
    obtain ⟨rfl, hn', rfl⟩ := hv
    have hsz : k65.sz = 6 := rfl
    rw [hsz] at hcs
    refine ⟨?_, blk_frozen hh o⟩
    rw [blk_cell hh o]
    simp
    omega
theorem zero65 (W : World) : (zeroValue 65).run Try.prog W = .ok (.agg zeros65.toArray) W := by kernel_rfl
theorem undrew {W W' : World} {row : Option Nat} (h : W.drew.grownBy W' row) : W.grownBy W' row := ⟨h.os, h.tape, h.output, h.size, h.block⟩
set_option maxHeartbeats 8000000 in
set_option maxRecDepth 100000 in
theorem delete76 (g m c k base : Nat) (xs : List S65) (W : World) (h : Kd.R k65 65 W base (fun _ => True) (.slice (some ⟨g, 0, none⟩) (m + 1) c) xs) (hk : k ≤ m) (hm : m ≤ 1000000) :
    Calls Try.prog 76 #[.slice (some ⟨g, 0, none⟩) (m + 1) c, .int .i64 k, .int .i64 ((k : Int) + 1)] W fun e W' => e = .returned (.slice (some ⟨g, 0, none⟩) m c) ∧ Kd.R k65 65 W' base (fun _ => True) (.slice (some ⟨g, 0, none⟩) m c) (xs.eraseIdx k) ∧ W.grownBy W' (some g) := by
  obtain ⟨hn, hnc, _⟩ := Kd.R_reads' h
  obtain ⟨i65, hi65, hs65⟩ := Option.map_eq_some_iff.1 info65
  have hz65 : i65.size = 6 := (Prod.mk.inj (Prod.mk.inj hs65).2).1
  obtain ⟨vd, h3⟩ := cut_lhm (P := Try.prog) Try.underlying56 hi65 (some ⟨g, 0, none⟩) (m + 1) c (k : Int) ((k : Int) + 1) ((m : Int) + 1) (by omega) (by omega) (by omega) (by omega)
  have hL := cut_to (P := Try.prog) 56 65 .i64 Try.underlying56 hi65 (some ⟨g, 0, none⟩) (m + 1) c (k : Int) (by omega) (by omega) (by omega)
  have hRt := cut_from (P := Try.prog) 56 65 .i64 Try.underlying56 hi65 6 hz65 (some ⟨g, 0, none⟩) (m + 1) c ((k : Int) + 1) (by omega) (by omega)
  have e1 : ((k : Int) + 1).toNat = k + 1 := by omega
  rw [e1] at hRt
  rw [Int.toNat_natCast] at hL
  obtain ⟨A2, hA2⟩ : ∃ A2, (if c = k + 1 then some ⟨g, 0, none⟩ else (some (⟨g, 0, none⟩ : Addr)).map (·.add ((k + 1) * 6))) = A2 := ⟨_, rfl⟩
  rw [hA2] at hRt
  have HA2 := Aside0.mk hA2
  have hF := cut_far (P := Try.prog) 56 65 Try.underlying56 hi65 6 hz65 (some ⟨g, 0, none⟩) m c (m : Int) ((m : Int) + 1) (by omega) (by omega) (by omega)
  have e2 : ((m : Int) + 1).toNat - (m : Int).toNat = 1 := by omega
  rw [e2, Int.toNat_natCast, if_neg (by omega), Option.map_some, add_plain] at hF
  have HO := Aside0.mk h
  have hbase : Aside0 (base ≤ W.heap.size) := ⟨by obtain ⟨g', cap, ex, h1, h2, _⟩ := Kd.R_form h (by omega); omega⟩
  have HN := Aside0.mk hn
  clear h hi65 hs65 hz65 hA2 e1 e2
  have hkk : (k : Int) ≠ (k : Int) + 1 := by omega
  have hkb : ((k : Int) == (k : Int) + 1) = false := beq_false_of_ne hkk
  clear hn
  go_enter Try.func76, Try.ntmps76
  go_upto_region 5 with (fail)
  go_region_law (first | (refine Kd.R_delete_step k65 (w0 := W) base rfl (.tmp 22) (.tmp 25) 56 65 rfl Try.underlying56 (by kernel_rfl) (g := g) (n := m + 1) (c := c) (k := k) (m := m + 1 - (k + 1)) (c2 := c - (k + 1)) (A := A2) (xs := xs) (ok := fun _ => True) (by simp [Act.eval, Act.put]) (by simp [Act.eval, Act.put]) HA2.out.symm rfl (Kd.R_drew HO.out) (by omega) (below_drew (Below.refl _ _)) hbase.out ?_; intro w1 ho hb hg; rw [Nat.add_sub_cancel] at *; have HO1 := Aside0.mk ho; have HG1 := Aside0.mk hg; clear ho hb hg))
  have hclr : ∀ ty, (Builtin.clear_ #[56] ty #[.slice (some ⟨g, m * 6, none⟩) 1 (c - m)]).run Try.prog w1 = .ok (.tuple #[]) (w1.setCells g (m * 6) zeros65) := fun ty => clear_one w1 56 65 ty Try.underlying56 zero65 g (m * 6) (c - m) (fun j hj => (spare_cells HO1.out (m * 6 + j) (by omega)).1) (fun j hj => (spare_cells HO1.out (m * 6 + j) (by omega)).2)
  obtain ⟨q1, q2⟩ := R_spare HO1.out (m * 6) zeros65 (by omega) (by show m * 6 + 6 ≤ c * 6; omega)
  have Q1 := Aside0.mk q1
  have Q2 := Aside0.mk (World.grownBy.trans HG1.out q2)
  clear q1 q2
  go_wp2
  go_ret
  exact ⟨rfl, Q1.out, undrew Q2.out⟩
theorem delete76p (g c k base : Nat) (xs : List S65) (W : World) (h : Kd.R k65 65 W base (fun _ => True) (.slice (some ⟨g, 0, none⟩) xs.length c) xs) (hk : k < xs.length) (hm : xs.length ≤ 1000000) :
    Calls Try.prog 76 #[.slice (some ⟨g, 0, none⟩) xs.length c, .int .i64 k, .int .i64 ((k : Int) + 1)] W fun e W' => e = .returned (.slice (some ⟨g, 0, none⟩) (xs.eraseIdx k).length c) ∧ Kd.R k65 65 W' base (fun _ => True) (.slice (some ⟨g, 0, none⟩) (xs.eraseIdx k).length c) (xs.eraseIdx k) ∧ W.grownBy W' (some g) := by
  obtain ⟨m, hmm⟩ : ∃ m, xs.length = m + 1 := ⟨xs.length - 1, by omega⟩
  have hl : (xs.eraseIdx k).length = m := by rw [List.length_eraseIdx_of_lt hk]; omega
  rw [hl, hmm]
  rw [hmm] at h
  exact delete76 g m c k base xs W h (by omega) (by omega)

theorem ap1' {v0 : Value} {g n c : Nat} (h : v0.ownBlock = none ∨ v0.ownBlock ≠ (Value.slice (some ⟨g, 0, none⟩) n c).ownBlock) : ∀ k, some g = some k → some k ≠ v0.ownBlock := fun k hk => ap1 h k (by rw [own_some]; exact hk)
theorem far_old {α : Type} {d : Kd α} {e : Nat} {w w' : World} {ok : Nat → Prop} {v : Value} {xs : List α} {g : Nat} (h : d.R e w' w.heap.size ok v xs) (hg : g < w.heap.size) : some g ≠ v.ownBlock := fun e => by
  have := Kd.R_base h g e.symm
  omega
def queue_Take.f (l0_0 : List (S65)) (l0_1 : List (S65)) (a0_2 : Int) (a1 : Int) : Option ((List (S65)) × (List (S65)) × Int × Int × Int × Int × Int × Int × Int × Bool) :=
  if l0_0.length ≤ 1000000 ∧ l0_1.length ≤ 1000000 then
    (if atIdx a1 l0_1 0 < 0 then some (l0_0, l0_1, a0_2, 0, 0, 0, 0, 0, 0, false)
     else some (l0_0, l0_1.eraseIdx (atIdx a1 l0_1 0).toNat, a0_2, (l0_1.getD (atIdx a1 l0_1 0).toNat z65).f0, (l0_1.getD (atIdx a1 l0_1 0).toNat z65).f1, (l0_1.getD (atIdx a1 l0_1 0).toNat z65).f2, (l0_1.getD (atIdx a1 l0_1 0).toNat z65).f3, (l0_1.getD (atIdx a1 l0_1 0).toNat z65).f4, (l0_1.getD (atIdx a1 l0_1 0).toNat z65).f5, true))
  else none
def take6.T6 : Bool × List (List Nat × List Nat) := (true, [([], []), ([], []), ([1], [1]), ([], []), ([2, 3], [2, 3]), ([4], [4]), ([0, 0], [0]), ([5, 6, 0, 1, 2, 3, 4, 5, 6], [5]), ([7, 0, 1, 2, 3, 4, 5, 6, 7], [])])
def take6.B6 : List Nat := [0, 0, 2, 0, 14, 30, 1, 127, 255]
theorem take6.tab6 : rtab .any (opsOf Try.f54 6) = take6.T6 := by kernel_rfl
theorem take6.bits6 : waitsOk take6.T6.2 take6.B6 = true := by kernel_rfl

set_option maxHeartbeats 8000000 in
set_option maxRecDepth 100000 in
theorem queue_Take.calls (A0_0 : Option Addr) (c0_0 : Nat) (l0_0 : List (S65)) (A0_1 : Option Addr) (c0_1 : Nat) (l0_1 : List (S65)) (a0_2 : Int) (a1 : Int) (r1 : List (S65)) (r2 : List (S65)) (r3 : Int) (r4 : Int) (r5 : Int) (r6 : Int) (r7 : Int) (r8 : Int) (r9 : Int) (r10 : Bool) (w : World) (hr0_0 : Kd.C k65 w A0_0 l0_0.length l0_0) (hc0_0 : l0_0.length ≤ c0_0) (hr0_1 : Kd.C k65 w A0_1 l0_1.length l0_1) (hc0_1 : l0_1.length ≤ c0_1) (h : queue_Take.f l0_0 l0_1 a0_2 a1 = some (r1, r2, r3, r4, r5, r6, r7, r8, r9, r10)) :
    Calls Try.prog 54 #[.agg #[.slice A0_0 l0_0.length c0_0, .slice A0_1 l0_1.length c0_1, .int .i64 a0_2], .int .i64 a1] w fun e w' => ∃ v0_ v1_ : Value, e = .returned (.tuple #[.agg #[v0_, v1_, .int .i64 r3], .agg #[.int .i64 r4, .int .i64 r5, .int .u64 r6, .int .u64 r7, .int .u8 r8, .int .i64 r9], .bool r10]) ∧ Kd.R k65 65 w' w.heap.size (fun k_ => some k_ ≠ (v1_ : Value).ownBlock) v0_ r1 ∧ Kd.R k65 65 w' w.heap.size (fun k_ => some k_ ≠ (v0_ : Value).ownBlock) v1_ r2 ∧ Below w.heap.size w w' := by
  unfold queue_Take.f at h
  by_cases hl : l0_0.length ≤ 1000000 ∧ l0_1.length ≤ 1000000
  case neg => rw [if_neg hl] at h; cases h
  rw [if_pos hl] at h
  have HOW : Aside0 (queue_own.f l0_0 l0_1 a0_2 = some (l0_0, l0_1, a0_2)) := ⟨by unfold queue_own.f api_Member_82.f; rw [if_pos hl.1, if_pos hl.2]; rfl⟩
  have HR0 := Aside0.mk hr0_0
  have HR1 := Aside0.mk hr0_1
  have HC0 := Aside0.mk hc0_0
  have HC1 := Aside0.mk hc0_1
  have HB := Aside0.mk (Below.refl w.heap.size w)
  have HL1 := Aside0.mk hl.2
  have HH := Aside0.mk h
  have HAT := Aside0.mk (at_from a1 l0_1 0)
  clear hr0_0 hr0_1 hc0_0 hc0_1 hl h
  go_enter Try.func54, Try.ntmps54
  go_upto_region 2 with (first | ((with_reducible refine gate_dst (N := 2) rfl ?_); refine box_event ?hg (N := 2) ?hd (cs := #[.slice A0_0 l0_0.length c0_0, .slice A0_1 l0_1.length c0_1, .int .i64 a0_2]) (t := 58) ?hr ?_; (case hd => rfl); (case hg => rfl); (case hr => first | (go_simp; done) | (go_simp; rfl)); intro gb2 hg w3 hbox hb; have GE_gb2 := Aside0.mk (show w.heap.size ≤ gb2 from by rw [hg]; exact below_size (by repeat (first | (with_reducible first | exact HB.out | apply below_alloc | apply pw_below_drewN | apply below_drew1) | exact HB.out))); clear hg; have n_HB := Aside0.mk (below_step (by repeat (first | (with_reducible first | exact HB.out | apply below_alloc | apply pw_below_drewN | apply below_drew1) | exact HB.out)) hb); skip; clear HB hb; have HB := n_HB; clear n_HB; have BK2 := Aside0.mk hbox; clear hbox; have bk2_0 := (blk_cell BK2.out 0).trans (show _ = some (.slice A0_0 l0_0.length c0_0) from rfl); have bk2_1 := (blk_cell BK2.out 1).trans (show _ = some (.slice A0_1 l0_1.length c0_1) from rfl); have bk2_2 := (blk_cell BK2.out 2).trans (show _ = some (.int .i64 a0_2) from rfl); have bk2_f := fun i => blk_frozen BK2.out i) | ((with_reducible refine gate_dst (N := 4) rfl ?_); refine box_event ?hg (N := 4) ?hd (cs := #[.slice none 0 0, .slice none 0 0, .int .i64 0]) (t := 58) ?hr ?_; (case hd => rfl); (case hg => rfl); (case hr => first | (go_simp; done) | (go_simp; rfl)); intro gb4 hg w3 hbox hb; have NE_gb2_gb4 := Aside0.mk (show gb2 ≠ gb4 from by rw [hg]; exact Nat.ne_of_lt (blk_lt (o := .cells #[.slice A0_0 l0_0.length c0_0, .slice A0_1 l0_1.length c0_1, .int .i64 a0_2] 58 (0, 0)) (by (with_reducible repeat (first | refine blk_drewN ?_ _ | refine blk_drew ?_ | refine blk_alloc ?_ _)); exact BK2.out))); have GE_gb4 := Aside0.mk (show w.heap.size ≤ gb4 from by rw [hg]; exact below_size (by repeat (first | (with_reducible first | exact HB.out | apply below_alloc | apply pw_below_drewN | apply below_drew1) | exact HB.out))); clear hg; have n_BK2 := Aside0.mk (blk_below (g := gb2) (o := .cells #[.slice A0_0 l0_0.length c0_0, .slice A0_1 l0_1.length c0_1, .int .i64 a0_2] 58 (0, 0)) (by (with_reducible repeat (first | refine blk_drewN ?_ _ | refine blk_drew ?_ | refine blk_alloc ?_ _)); exact BK2.out) hb); have n_HB := Aside0.mk (below_step (by repeat (first | (with_reducible first | exact HB.out | apply below_alloc | apply pw_below_drewN | apply below_drew1) | exact HB.out)) hb); clear bk2_0 bk2_1 bk2_2 bk2_f; clear BK2 HB hb; have BK2 := n_BK2; have HB := n_HB; clear n_BK2 n_HB; have BK4 := Aside0.mk hbox; clear hbox; have bk2_0 := (blk_cell BK2.out 0).trans (show _ = some (.slice A0_0 l0_0.length c0_0) from rfl); have bk2_1 := (blk_cell BK2.out 1).trans (show _ = some (.slice A0_1 l0_1.length c0_1) from rfl); have bk2_2 := (blk_cell BK2.out 2).trans (show _ = some (.int .i64 a0_2) from rfl); have bk4_0 := (blk_cell BK4.out 0).trans (show _ = some (.slice none 0 0) from rfl); have bk4_1 := (blk_cell BK4.out 1).trans (show _ = some (.slice none 0 0) from rfl); have bk4_2 := (blk_cell BK4.out 2).trans (show _ = some (.int .i64 0) from rfl); have bk2_f := fun i => blk_frozen BK2.out i; have bk4_f := fun i => blk_frozen BK4.out i) | ((with_reducible refine gate_dst (N := 5) rfl ?_); refine box_event ?hg (N := 5) ?hd (cs := #[.int .i64 0, .int .i64 0, .int .u64 0, .int .u64 0, .int .u8 0, .int .i64 0]) (t := 65) ?hr ?_; (case hd => rfl); (case hg => rfl); (case hr => first | (go_simp; done) | (go_simp; rfl)); intro gb5 hg w3 hbox hb; have NE_gb2_gb5 := Aside0.mk (show gb2 ≠ gb5 from by rw [hg]; exact Nat.ne_of_lt (blk_lt (o := .cells #[.slice A0_0 l0_0.length c0_0, .slice A0_1 l0_1.length c0_1, .int .i64 a0_2] 58 (0, 0)) (by (with_reducible repeat (first | refine blk_drewN ?_ _ | refine blk_drew ?_ | refine blk_alloc ?_ _)); exact BK2.out))); have NE_gb4_gb5 := Aside0.mk (show gb4 ≠ gb5 from by rw [hg]; exact Nat.ne_of_lt (blk_lt (o := .cells #[.slice none 0 0, .slice none 0 0, .int .i64 0] 58 (0, 0)) (by (with_reducible repeat (first | refine blk_drewN ?_ _ | refine blk_drew ?_ | refine blk_alloc ?_ _)); exact BK4.out))); have GE_gb5 := Aside0.mk (show w.heap.size ≤ gb5 from by rw [hg]; exact below_size (by repeat (first | (with_reducible first | exact HB.out | apply below_alloc | apply pw_below_drewN | apply below_drew1) | exact HB.out))); clear hg; have n_BK2 := Aside0.mk (blk_below (g := gb2) (o := .cells #[.slice A0_0 l0_0.length c0_0, .slice A0_1 l0_1.length c0_1, .int .i64 a0_2] 58 (0, 0)) (by (with_reducible repeat (first | refine blk_drewN ?_ _ | refine blk_drew ?_ | refine blk_alloc ?_ _)); exact BK2.out) hb); have n_BK4 := Aside0.mk (blk_below (g := gb4) (o := .cells #[.slice none 0 0, .slice none 0 0, .int .i64 0] 58 (0, 0)) (by (with_reducible repeat (first | refine blk_drewN ?_ _ | refine blk_drew ?_ | refine blk_alloc ?_ _)); exact BK4.out) hb); have n_HB := Aside0.mk (below_step (by repeat (first | (with_reducible first | exact HB.out | apply below_alloc | apply pw_below_drewN | apply below_drew1) | exact HB.out)) hb); clear bk2_0 bk2_1 bk2_2 bk2_f bk4_0 bk4_1 bk4_2 bk4_f; clear BK2 BK4 HB hb; have BK2 := n_BK2; have BK4 := n_BK4; have HB := n_HB; clear n_BK2 n_BK4 n_HB; have BK5 := Aside0.mk hbox; clear hbox; have bk2_0 := (blk_cell BK2.out 0).trans (show _ = some (.slice A0_0 l0_0.length c0_0) from rfl); have bk2_1 := (blk_cell BK2.out 1).trans (show _ = some (.slice A0_1 l0_1.length c0_1) from rfl); have bk2_2 := (blk_cell BK2.out 2).trans (show _ = some (.int .i64 a0_2) from rfl); have bk4_0 := (blk_cell BK4.out 0).trans (show _ = some (.slice none 0 0) from rfl); have bk4_1 := (blk_cell BK4.out 1).trans (show _ = some (.slice none 0 0) from rfl); have bk4_2 := (blk_cell BK4.out 2).trans (show _ = some (.int .i64 0) from rfl); have bk5_0 := (blk_cell BK5.out 0).trans (show _ = some (.int .i64 0) from rfl); have bk5_1 := (blk_cell BK5.out 1).trans (show _ = some (.int .i64 0) from rfl); have bk5_2 := (blk_cell BK5.out 2).trans (show _ = some (.int .u64 0) from rfl); have bk5_3 := (blk_cell BK5.out 3).trans (show _ = some (.int .u64 0) from rfl); have bk5_4 := (blk_cell BK5.out 4).trans (show _ = some (.int .u8 0) from rfl); have bk5_5 := (blk_cell BK5.out 5).trans (show _ = some (.int .i64 0) from rfl); have bk2_f := fun i => blk_frozen BK2.out i; have bk4_f := fun i => blk_frozen BK4.out i; have bk5_f := fun i => blk_frozen BK5.out i) | (go_at_call 71; (with_reducible refine (queue_own.calls _ _ l0_0 _ _ l0_1 a0_2 l0_0 l0_1 a0_2 _ (Kd.C_below HR0.out HB.out) HC0.out (Kd.C_below HR1.out HB.out) HC1.out HOW.out).mono ?_); have GSZ := Aside0.mk (blk_lt (o := .cells #[.int .i64 0, .int .i64 0, .int .u64 0, .int .u64 0, .int .u8 0, .int .i64 0] 65 (0, 0)) (by (with_reducible repeat (first | refine blk_drewN ?_ _ | refine blk_drew ?_ | refine blk_alloc ?_ _)); exact BK5.out)); rintro e w5 ⟨v0, v1, rfl, hr0, hr1, hb⟩; have hsz := below_size (by repeat (first | (with_reducible first | exact HB.out | apply below_alloc | apply pw_below_drewN | apply below_drew1) | exact HB.out)); have n_BK2 := Aside0.mk (blk_below (g := gb2) (o := .cells #[.slice A0_0 l0_0.length c0_0, .slice A0_1 l0_1.length c0_1, .int .i64 a0_2] 58 (0, 0)) (by (with_reducible repeat (first | refine blk_drewN ?_ _ | refine blk_drew ?_ | refine blk_alloc ?_ _)); exact BK2.out) hb); have n_BK4 := Aside0.mk (blk_below (g := gb4) (o := .cells #[.slice none 0 0, .slice none 0 0, .int .i64 0] 58 (0, 0)) (by (with_reducible repeat (first | refine blk_drewN ?_ _ | refine blk_drew ?_ | refine blk_alloc ?_ _)); exact BK4.out) hb); have n_BK5 := Aside0.mk (blk_below (g := gb5) (o := .cells #[.int .i64 0, .int .i64 0, .int .u64 0, .int .u64 0, .int .u8 0, .int .i64 0] 65 (0, 0)) (by (with_reducible repeat (first | refine blk_drewN ?_ _ | refine blk_drew ?_ | refine blk_alloc ?_ _)); exact BK5.out) hb); have n_HB := Aside0.mk (below_step (by repeat (first | (with_reducible first | exact HB.out | apply below_alloc | apply pw_below_drewN | apply below_drew1) | exact HB.out)) hb); clear bk2_0 bk2_1 bk2_2 bk2_f bk4_0 bk4_1 bk4_2 bk4_f bk5_0 bk5_1 bk5_2 bk5_3 bk5_4 bk5_5 bk5_f; clear BK2 BK4 BK5 HB hb; have BK2 := n_BK2; have BK4 := n_BK4; have BK5 := n_BK5; have HB := n_HB; clear n_BK2 n_BK4 n_BK5 n_HB; have HO0 := Aside0.mk (Kd.R_lower (Kd.R_mono (ok' := fun _ => True) hr0 (fun _ _ => trivial)) hsz); have HO1 := Aside0.mk (Kd.R_lower (Kd.R_mono (ok' := fun _ => True) hr1 (fun _ _ => trivial)) hsz); clear hsz; have HAP := Aside0.mk (Kd.R_apart2 hr0 hr1); have X5 : Aside0 (some gb5 ≠ v0.ownBlock) := ⟨far_old hr0 GSZ.out⟩; have Y5 : Aside0 (some gb5 ≠ v1.ownBlock) := ⟨far_old hr1 GSZ.out⟩; clear hr0 hr1; obtain ⟨Ax, cx, ex⟩ := Kd.R_slice HO0.out; obtain ⟨Ay, cy, ey⟩ := Kd.R_slice HO1.out; subst ex; subst ey; have bk2_0 := (blk_cell BK2.out 0).trans (show _ = some (.slice A0_0 l0_0.length c0_0) from rfl); have bk2_1 := (blk_cell BK2.out 1).trans (show _ = some (.slice A0_1 l0_1.length c0_1) from rfl); have bk2_2 := (blk_cell BK2.out 2).trans (show _ = some (.int .i64 a0_2) from rfl); have bk4_0 := (blk_cell BK4.out 0).trans (show _ = some (.slice none 0 0) from rfl); have bk4_1 := (blk_cell BK4.out 1).trans (show _ = some (.slice none 0 0) from rfl); have bk4_2 := (blk_cell BK4.out 2).trans (show _ = some (.int .i64 0) from rfl); have bk5_0 := (blk_cell BK5.out 0).trans (show _ = some (.int .i64 0) from rfl); have bk5_1 := (blk_cell BK5.out 1).trans (show _ = some (.int .i64 0) from rfl); have bk5_2 := (blk_cell BK5.out 2).trans (show _ = some (.int .u64 0) from rfl); have bk5_3 := (blk_cell BK5.out 3).trans (show _ = some (.int .u64 0) from rfl); have bk5_4 := (blk_cell BK5.out 4).trans (show _ = some (.int .u8 0) from rfl); have bk5_5 := (blk_cell BK5.out 5).trans (show _ = some (.int .i64 0) from rfl); have bk2_f := fun i => blk_frozen BK2.out i; have bk4_f := fun i => blk_frozen BK4.out i; have bk5_f := fun i => blk_frozen BK5.out i) | ((with_reducible refine gate_dst (N := 7) rfl ?_); refine box_event ?hg (N := 7) ?hd (cs := #[.slice none 0 0, .slice none 0 0, .int .i64 0]) (t := 58) ?hr ?_; (case hd => rfl); (case hg => rfl); (case hr => first | (go_simp; done) | (go_simp; rfl)); intro gb7 hg w3 hbox hb; have NE_gb2_gb7 := Aside0.mk (show gb2 ≠ gb7 from by rw [hg]; exact Nat.ne_of_lt (blk_lt (o := .cells #[.slice A0_0 l0_0.length c0_0, .slice A0_1 l0_1.length c0_1, .int .i64 a0_2] 58 (0, 0)) (by (with_reducible repeat (first | refine blk_drewN ?_ _ | refine blk_drew ?_ | refine blk_alloc ?_ _)); exact BK2.out))); have NE_gb4_gb7 := Aside0.mk (show gb4 ≠ gb7 from by rw [hg]; exact Nat.ne_of_lt (blk_lt (o := .cells #[.slice none 0 0, .slice none 0 0, .int .i64 0] 58 (0, 0)) (by (with_reducible repeat (first | refine blk_drewN ?_ _ | refine blk_drew ?_ | refine blk_alloc ?_ _)); exact BK4.out))); have NE_gb5_gb7 := Aside0.mk (show gb5 ≠ gb7 from by rw [hg]; exact Nat.ne_of_lt (blk_lt (o := .cells #[.int .i64 0, .int .i64 0, .int .u64 0, .int .u64 0, .int .u8 0, .int .i64 0] 65 (0, 0)) (by (with_reducible repeat (first | refine blk_drewN ?_ _ | refine blk_drew ?_ | refine blk_alloc ?_ _)); exact BK5.out))); have GE_gb7 := Aside0.mk (show w.heap.size ≤ gb7 from by rw [hg]; exact below_size (by repeat (first | (with_reducible first | exact HB.out | apply below_alloc | apply pw_below_drewN | apply below_drew1) | exact HB.out))); clear hg; have n_BK2 := Aside0.mk (blk_below (g := gb2) (o := .cells #[.slice A0_0 l0_0.length c0_0, .slice A0_1 l0_1.length c0_1, .int .i64 a0_2] 58 (0, 0)) (by (with_reducible repeat (first | refine blk_drewN ?_ _ | refine blk_drew ?_ | refine blk_alloc ?_ _)); exact BK2.out) hb); have n_BK4 := Aside0.mk (blk_below (g := gb4) (o := .cells #[.slice none 0 0, .slice none 0 0, .int .i64 0] 58 (0, 0)) (by (with_reducible repeat (first | refine blk_drewN ?_ _ | refine blk_drew ?_ | refine blk_alloc ?_ _)); exact BK4.out) hb); have n_BK5 := Aside0.mk (blk_below (g := gb5) (o := .cells #[.int .i64 0, .int .i64 0, .int .u64 0, .int .u64 0, .int .u8 0, .int .i64 0] 65 (0, 0)) (by (with_reducible repeat (first | refine blk_drewN ?_ _ | refine blk_drew ?_ | refine blk_alloc ?_ _)); exact BK5.out) hb); have n_HO0 := Aside0.mk (Kd.R_below (by (with_reducible repeat (first | apply Kd.R_alloc | apply Kd.R_drewN | apply Kd.R_drew)); exact HO0.out) hb); have n_HO1 := Aside0.mk (Kd.R_below (by (with_reducible repeat (first | apply Kd.R_alloc | apply Kd.R_drewN | apply Kd.R_drew)); exact HO1.out) hb); have n_HB := Aside0.mk (below_step (by repeat (first | (with_reducible first | exact HB.out | apply below_alloc | apply pw_below_drewN | apply below_drew1) | exact HB.out)) hb); clear bk2_0 bk2_1 bk2_2 bk2_f bk4_0 bk4_1 bk4_2 bk4_f bk5_0 bk5_1 bk5_2 bk5_3 bk5_4 bk5_5 bk5_f; clear BK2 BK4 BK5 HO0 HO1 HB hb; have BK2 := n_BK2; have BK4 := n_BK4; have BK5 := n_BK5; have HO0 := n_HO0; have HO1 := n_HO1; have HB := n_HB; clear n_BK2 n_BK4 n_BK5 n_HO0 n_HO1 n_HB; have BK7 := Aside0.mk hbox; clear hbox; have bk2_0 := (blk_cell BK2.out 0).trans (show _ = some (.slice A0_0 l0_0.length c0_0) from rfl); have bk2_1 := (blk_cell BK2.out 1).trans (show _ = some (.slice A0_1 l0_1.length c0_1) from rfl); have bk2_2 := (blk_cell BK2.out 2).trans (show _ = some (.int .i64 a0_2) from rfl); have bk4_0 := (blk_cell BK4.out 0).trans (show _ = some (.slice none 0 0) from rfl); have bk4_1 := (blk_cell BK4.out 1).trans (show _ = some (.slice none 0 0) from rfl); have bk4_2 := (blk_cell BK4.out 2).trans (show _ = some (.int .i64 0) from rfl); have bk5_0 := (blk_cell BK5.out 0).trans (show _ = some (.int .i64 0) from rfl); have bk5_1 := (blk_cell BK5.out 1).trans (show _ = some (.int .i64 0) from rfl); have bk5_2 := (blk_cell BK5.out 2).trans (show _ = some (.int .u64 0) from rfl); have bk5_3 := (blk_cell BK5.out 3).trans (show _ = some (.int .u64 0) from rfl); have bk5_4 := (blk_cell BK5.out 4).trans (show _ = some (.int .u8 0) from rfl); have bk5_5 := (blk_cell BK5.out 5).trans (show _ = some (.int .i64 0) from rfl); have bk7_0 := (blk_cell BK7.out 0).trans (show _ = some (.slice none 0 0) from rfl); have bk7_1 := (blk_cell BK7.out 1).trans (show _ = some (.slice none 0 0) from rfl); have bk7_2 := (blk_cell BK7.out 2).trans (show _ = some (.int .i64 0) from rfl); have bk2_f := fun i => blk_frozen BK2.out i; have bk4_f := fun i => blk_frozen BK4.out i; have bk5_f := fun i => blk_frozen BK5.out i; have bk7_f := fun i => blk_frozen BK7.out i))
  clear bk2_0 bk2_1 bk2_2 bk2_f bk4_0 bk4_1 bk4_2 bk4_f bk5_0 bk5_1 bk5_2 bk5_3 bk5_4 bk5_5 bk5_f bk7_0 bk7_1 bk7_2 bk7_f
  have s0_HO0 := Kd.R_set HO0.out BK7.out (by decide) 0 (.slice Ax l0_0.length cx)
  have s0_HO1 := Kd.R_set HO1.out BK7.out (by decide) 0 (.slice Ax l0_0.length cx)
  have s0_BK2 := blk_far BK2.out (p := ⟨gb7, 0, none⟩) NE_gb2_gb7.out (.slice Ax l0_0.length cx)
  have s0_BK4 := blk_far BK4.out (p := ⟨gb7, 0, none⟩) NE_gb4_gb7.out (.slice Ax l0_0.length cx)
  have s0_BK5 := blk_far BK5.out (p := ⟨gb7, 0, none⟩) NE_gb5_gb7.out (.slice Ax l0_0.length cx)
  have s0_BK7 := blk_put (cs' := #[.slice Ax l0_0.length cx, .slice none 0 0, .int .i64 0]) BK7.out 0 (.slice Ax l0_0.length cx) rfl
  have s0_HB := below_set (j := 0) (v := .slice Ax l0_0.length cx) HB.out GE_gb7.out
  have s1_HO0 := Kd.R_set s0_HO0 s0_BK7 (by decide) 1 (.slice Ay l0_1.length cy)
  have s1_HO1 := Kd.R_set s0_HO1 s0_BK7 (by decide) 1 (.slice Ay l0_1.length cy)
  have s1_BK2 := blk_far s0_BK2 (p := ⟨gb7, 1, none⟩) NE_gb2_gb7.out (.slice Ay l0_1.length cy)
  have s1_BK4 := blk_far s0_BK4 (p := ⟨gb7, 1, none⟩) NE_gb4_gb7.out (.slice Ay l0_1.length cy)
  have s1_BK5 := blk_far s0_BK5 (p := ⟨gb7, 1, none⟩) NE_gb5_gb7.out (.slice Ay l0_1.length cy)
  have s1_BK7 := blk_put (cs' := #[.slice Ax l0_0.length cx, .slice Ay l0_1.length cy, .int .i64 0]) s0_BK7 1 (.slice Ay l0_1.length cy) rfl
  have s1_HB := below_set (j := 1) (v := .slice Ay l0_1.length cy) s0_HB GE_gb7.out
  have s2_HO0 := Kd.R_set s1_HO0 s1_BK7 (by decide) 2 (.int .i64 a0_2)
  have s2_HO1 := Kd.R_set s1_HO1 s1_BK7 (by decide) 2 (.int .i64 a0_2)
  have s2_BK2 := blk_far s1_BK2 (p := ⟨gb7, 2, none⟩) NE_gb2_gb7.out (.int .i64 a0_2)
  have s2_BK4 := blk_far s1_BK4 (p := ⟨gb7, 2, none⟩) NE_gb4_gb7.out (.int .i64 a0_2)
  have s2_BK5 := blk_far s1_BK5 (p := ⟨gb7, 2, none⟩) NE_gb5_gb7.out (.int .i64 a0_2)
  have s2_BK7 := blk_put (cs' := #[.slice Ax l0_0.length cx, .slice Ay l0_1.length cy, .int .i64 a0_2]) s1_BK7 2 (.int .i64 a0_2) rfl
  have s2_HB := below_set (j := 2) (v := .int .i64 a0_2) s1_HB GE_gb7.out
  have n_BK2 := Aside0.mk s2_BK2
  have n_BK4 := Aside0.mk s2_BK4
  have n_BK5 := Aside0.mk s2_BK5
  have n_BK7 := Aside0.mk s2_BK7
  have n_HO0 := Aside0.mk s2_HO0
  have n_HO1 := Aside0.mk s2_HO1
  have n_HB := Aside0.mk s2_HB
  clear s0_BK2 s0_BK4 s0_BK5 s0_BK7 s0_HO0 s0_HO1 s0_HB
  clear s1_BK2 s1_BK4 s1_BK5 s1_BK7 s1_HO0 s1_HO1 s1_HB
  clear s2_BK2 s2_BK4 s2_BK5 s2_BK7 s2_HO0 s2_HO1 s2_HB
  clear BK2 BK4 BK5 BK7 HO0 HO1 HB
  generalize (((w3.setCell ⟨gb7, 0, none⟩ (.slice Ax l0_0.length cx)).setCell ⟨gb7, 1, none⟩ (.slice Ay l0_1.length cy)).setCell ⟨gb7, 2, none⟩ (.int .i64 a0_2)) = w9 at n_BK2 n_BK4 n_BK5 n_BK7 n_HO0 n_HO1 n_HB ⊢
  have BK2 := n_BK2
  have BK4 := n_BK4
  have BK5 := n_BK5
  have BK7 := n_BK7
  have HO0 := n_HO0
  have HO1 := n_HO1
  have HB := n_HB
  clear n_BK2 n_BK4 n_BK5 n_BK7 n_HO0 n_HO1 n_HB
  have bk2_0 := (blk_cell BK2.out 0).trans (show _ = some (.slice A0_0 l0_0.length c0_0) from rfl); have bk2_1 := (blk_cell BK2.out 1).trans (show _ = some (.slice A0_1 l0_1.length c0_1) from rfl); have bk2_2 := (blk_cell BK2.out 2).trans (show _ = some (.int .i64 a0_2) from rfl); have bk4_0 := (blk_cell BK4.out 0).trans (show _ = some (.slice none 0 0) from rfl); have bk4_1 := (blk_cell BK4.out 1).trans (show _ = some (.slice none 0 0) from rfl); have bk4_2 := (blk_cell BK4.out 2).trans (show _ = some (.int .i64 0) from rfl); have bk5_0 := (blk_cell BK5.out 0).trans (show _ = some (.int .i64 0) from rfl); have bk5_1 := (blk_cell BK5.out 1).trans (show _ = some (.int .i64 0) from rfl); have bk5_2 := (blk_cell BK5.out 2).trans (show _ = some (.int .u64 0) from rfl); have bk5_3 := (blk_cell BK5.out 3).trans (show _ = some (.int .u64 0) from rfl); have bk5_4 := (blk_cell BK5.out 4).trans (show _ = some (.int .u8 0) from rfl); have bk5_5 := (blk_cell BK5.out 5).trans (show _ = some (.int .i64 0) from rfl); have bk7_0 := (blk_cell BK7.out 0).trans (show _ = some (.slice Ax l0_0.length cx) from rfl); have bk7_1 := (blk_cell BK7.out 1).trans (show _ = some (.slice Ay l0_1.length cy) from rfl); have bk7_2 := (blk_cell BK7.out 2).trans (show _ = some (.int .i64 a0_2) from rfl); have bk2_f := fun i => blk_frozen BK2.out i; have bk4_f := fun i => blk_frozen BK4.out i; have bk5_f := fun i => blk_frozen BK5.out i; have bk7_f := fun i => blk_frozen BK7.out i
  go_upto_region 3 with (first | (go_at_call 70; (with_reducible refine (queue_at.calls _ _ l0_1 a1 (atIdx a1 l0_1 0) _ (Kd.C_below HR1.out HB.out) HC1.out rfl).mono ?_); rintro e w5 ⟨rfl, hb⟩; have hsz := below_size (by repeat (first | (with_reducible first | exact HB.out | apply below_alloc | apply pw_below_drewN | apply below_drew1) | exact HB.out)); have n_BK2 := Aside0.mk (blk_below (g := gb2) (o := .cells #[.slice A0_0 l0_0.length c0_0, .slice A0_1 l0_1.length c0_1, .int .i64 a0_2] 58 (0, 0)) (by (with_reducible repeat (first | refine blk_drewN ?_ _ | refine blk_drew ?_ | refine blk_alloc ?_ _)); exact BK2.out) hb); have n_BK4 := Aside0.mk (blk_below (g := gb4) (o := .cells #[.slice none 0 0, .slice none 0 0, .int .i64 0] 58 (0, 0)) (by (with_reducible repeat (first | refine blk_drewN ?_ _ | refine blk_drew ?_ | refine blk_alloc ?_ _)); exact BK4.out) hb); have n_BK5 := Aside0.mk (blk_below (g := gb5) (o := .cells #[.int .i64 0, .int .i64 0, .int .u64 0, .int .u64 0, .int .u8 0, .int .i64 0] 65 (0, 0)) (by (with_reducible repeat (first | refine blk_drewN ?_ _ | refine blk_drew ?_ | refine blk_alloc ?_ _)); exact BK5.out) hb); have n_BK7 := Aside0.mk (blk_below (g := gb7) (o := .cells #[.slice Ax l0_0.length cx, .slice Ay l0_1.length cy, .int .i64 a0_2] 58 (0, 0)) (by (with_reducible repeat (first | refine blk_drewN ?_ _ | refine blk_drew ?_ | refine blk_alloc ?_ _)); exact BK7.out) hb); have n_HO0 := Aside0.mk (Kd.R_below (by (with_reducible repeat (first | apply Kd.R_alloc | apply Kd.R_drewN | apply Kd.R_drew)); exact HO0.out) hb); have n_HO1 := Aside0.mk (Kd.R_below (by (with_reducible repeat (first | apply Kd.R_alloc | apply Kd.R_drewN | apply Kd.R_drew)); exact HO1.out) hb); have n_HB := Aside0.mk (below_step (by repeat (first | (with_reducible first | exact HB.out | apply below_alloc | apply pw_below_drewN | apply below_drew1) | exact HB.out)) hb); clear bk2_0 bk2_1 bk2_2 bk2_f bk4_0 bk4_1 bk4_2 bk4_f bk5_0 bk5_1 bk5_2 bk5_3 bk5_4 bk5_5 bk5_f bk7_0 bk7_1 bk7_2 bk7_f; clear BK2 BK4 BK5 BK7 HO0 HO1 HB hb; have BK2 := n_BK2; have BK4 := n_BK4; have BK5 := n_BK5; have BK7 := n_BK7; have HO0 := n_HO0; have HO1 := n_HO1; have HB := n_HB; clear n_BK2 n_BK4 n_BK5 n_BK7 n_HO0 n_HO1 n_HB; clear hsz; have bk2_0 := (blk_cell BK2.out 0).trans (show _ = some (.slice A0_0 l0_0.length c0_0) from rfl); have bk2_1 := (blk_cell BK2.out 1).trans (show _ = some (.slice A0_1 l0_1.length c0_1) from rfl); have bk2_2 := (blk_cell BK2.out 2).trans (show _ = some (.int .i64 a0_2) from rfl); have bk4_0 := (blk_cell BK4.out 0).trans (show _ = some (.slice none 0 0) from rfl); have bk4_1 := (blk_cell BK4.out 1).trans (show _ = some (.slice none 0 0) from rfl); have bk4_2 := (blk_cell BK4.out 2).trans (show _ = some (.int .i64 0) from rfl); have bk5_0 := (blk_cell BK5.out 0).trans (show _ = some (.int .i64 0) from rfl); have bk5_1 := (blk_cell BK5.out 1).trans (show _ = some (.int .i64 0) from rfl); have bk5_2 := (blk_cell BK5.out 2).trans (show _ = some (.int .u64 0) from rfl); have bk5_3 := (blk_cell BK5.out 3).trans (show _ = some (.int .u64 0) from rfl); have bk5_4 := (blk_cell BK5.out 4).trans (show _ = some (.int .u8 0) from rfl); have bk5_5 := (blk_cell BK5.out 5).trans (show _ = some (.int .i64 0) from rfl); have bk7_0 := (blk_cell BK7.out 0).trans (show _ = some (.slice Ax l0_0.length cx) from rfl); have bk7_1 := (blk_cell BK7.out 1).trans (show _ = some (.slice Ay l0_1.length cy) from rfl); have bk7_2 := (blk_cell BK7.out 2).trans (show _ = some (.int .i64 a0_2) from rfl); have bk2_f := fun i => blk_frozen BK2.out i; have bk4_f := fun i => blk_frozen BK4.out i; have bk5_f := fun i => blk_frozen BK5.out i; have bk7_f := fun i => blk_frozen BK7.out i))
  rcases HAT.out with hneg | ⟨j, hj1, hj2, _⟩
  · have H := HH.out
    rw [show atIdx a1 l0_1 0 = -1 from hneg] at H ⊢
    rw [if_pos (by decide)] at H
    simp only [Option.some.injEq, Prod.mk.injEq] at H
    obtain ⟨rfl, rfl, rfl, rfl, rfl, rfl, rfl, rfl, rfl, rfl⟩ := H
    clear HH hneg HAT
    have n45 := NE_gb4_gb5.out
    have n54 := Ne.symm NE_gb4_gb5.out
    have n57 := NE_gb5_gb7.out
    have n47 := NE_gb4_gb7.out
    go_wp2
    clear bk2_0 bk2_1 bk2_2 bk2_f bk4_0 bk4_1 bk4_2 bk4_f bk5_0 bk5_1 bk5_2 bk5_3 bk5_4 bk5_5 bk5_f bk7_0 bk7_1 bk7_2 bk7_f
    have s0_HO0 := Kd.R_set HO0.out BK4.out (by decide) 0 (.slice Ax l0_0.length cx)
    have s0_HO1 := Kd.R_set HO1.out BK4.out (by decide) 0 (.slice Ax l0_0.length cx)
    have s0_BK2 := blk_far BK2.out (p := ⟨gb4, 0, none⟩) NE_gb2_gb4.out (.slice Ax l0_0.length cx)
    have s0_BK4 := blk_put (cs' := #[.slice Ax l0_0.length cx, .slice none 0 0, .int .i64 0]) BK4.out 0 (.slice Ax l0_0.length cx) rfl
    have s0_BK5 := blk_far BK5.out (p := ⟨gb4, 0, none⟩) (Ne.symm NE_gb4_gb5.out) (.slice Ax l0_0.length cx)
    have s0_BK7 := blk_far BK7.out (p := ⟨gb4, 0, none⟩) (Ne.symm NE_gb4_gb7.out) (.slice Ax l0_0.length cx)
    have s0_HB := below_set (j := 0) (v := .slice Ax l0_0.length cx) HB.out GE_gb4.out
    have s1_HO0 := Kd.R_set s0_HO0 s0_BK4 (by decide) 1 (.slice Ay l0_1.length cy)
    have s1_HO1 := Kd.R_set s0_HO1 s0_BK4 (by decide) 1 (.slice Ay l0_1.length cy)
    have s1_BK2 := blk_far s0_BK2 (p := ⟨gb4, 1, none⟩) NE_gb2_gb4.out (.slice Ay l0_1.length cy)
    have s1_BK4 := blk_put (cs' := #[.slice Ax l0_0.length cx, .slice Ay l0_1.length cy, .int .i64 0]) s0_BK4 1 (.slice Ay l0_1.length cy) rfl
    have s1_BK5 := blk_far s0_BK5 (p := ⟨gb4, 1, none⟩) (Ne.symm NE_gb4_gb5.out) (.slice Ay l0_1.length cy)
    have s1_BK7 := blk_far s0_BK7 (p := ⟨gb4, 1, none⟩) (Ne.symm NE_gb4_gb7.out) (.slice Ay l0_1.length cy)
    have s1_HB := below_set (j := 1) (v := .slice Ay l0_1.length cy) s0_HB GE_gb4.out
    have s2_HO0 := Kd.R_set s1_HO0 s1_BK4 (by decide) 2 (.int .i64 a0_2)
    have s2_HO1 := Kd.R_set s1_HO1 s1_BK4 (by decide) 2 (.int .i64 a0_2)
    have s2_BK2 := blk_far s1_BK2 (p := ⟨gb4, 2, none⟩) NE_gb2_gb4.out (.int .i64 a0_2)
    have s2_BK4 := blk_put (cs' := #[.slice Ax l0_0.length cx, .slice Ay l0_1.length cy, .int .i64 a0_2]) s1_BK4 2 (.int .i64 a0_2) rfl
    have s2_BK5 := blk_far s1_BK5 (p := ⟨gb4, 2, none⟩) (Ne.symm NE_gb4_gb5.out) (.int .i64 a0_2)
    have s2_BK7 := blk_far s1_BK7 (p := ⟨gb4, 2, none⟩) (Ne.symm NE_gb4_gb7.out) (.int .i64 a0_2)
    have s2_HB := below_set (j := 2) (v := .int .i64 a0_2) s1_HB GE_gb4.out
    have s3_HO0 := far_set (p := ⟨gb5, 0, none⟩) s2_HO0 (X5.out) (.int .i64 0)
    have s3_HO1 := far_set (p := ⟨gb5, 0, none⟩) s2_HO1 (Y5.out) (.int .i64 0)
    have s3_BK2 := blk_far s2_BK2 (p := ⟨gb5, 0, none⟩) NE_gb2_gb5.out (.int .i64 0)
    have s3_BK4 := blk_far s2_BK4 (p := ⟨gb5, 0, none⟩) NE_gb4_gb5.out (.int .i64 0)
    have s3_BK5 := blk_put (cs' := #[.int .i64 0, .int .i64 0, .int .u64 0, .int .u64 0, .int .u8 0, .int .i64 0]) s2_BK5 0 (.int .i64 0) rfl
    have s3_BK7 := blk_far s2_BK7 (p := ⟨gb5, 0, none⟩) (Ne.symm NE_gb5_gb7.out) (.int .i64 0)
    have s3_HB := below_set (j := 0) (v := .int .i64 0) s2_HB GE_gb5.out
    have s4_HO0 := far_set (p := ⟨gb5, 1, none⟩) s3_HO0 (X5.out) (.int .i64 0)
    have s4_HO1 := far_set (p := ⟨gb5, 1, none⟩) s3_HO1 (Y5.out) (.int .i64 0)
    have s4_BK2 := blk_far s3_BK2 (p := ⟨gb5, 1, none⟩) NE_gb2_gb5.out (.int .i64 0)
    have s4_BK4 := blk_far s3_BK4 (p := ⟨gb5, 1, none⟩) NE_gb4_gb5.out (.int .i64 0)
    have s4_BK5 := blk_put (cs' := #[.int .i64 0, .int .i64 0, .int .u64 0, .int .u64 0, .int .u8 0, .int .i64 0]) s3_BK5 1 (.int .i64 0) rfl
    have s4_BK7 := blk_far s3_BK7 (p := ⟨gb5, 1, none⟩) (Ne.symm NE_gb5_gb7.out) (.int .i64 0)
    have s4_HB := below_set (j := 1) (v := .int .i64 0) s3_HB GE_gb5.out
    have s5_HO0 := far_set (p := ⟨gb5, 2, none⟩) s4_HO0 (X5.out) (.int .u64 0)
    have s5_HO1 := far_set (p := ⟨gb5, 2, none⟩) s4_HO1 (Y5.out) (.int .u64 0)
    have s5_BK2 := blk_far s4_BK2 (p := ⟨gb5, 2, none⟩) NE_gb2_gb5.out (.int .u64 0)
    have s5_BK4 := blk_far s4_BK4 (p := ⟨gb5, 2, none⟩) NE_gb4_gb5.out (.int .u64 0)
    have s5_BK5 := blk_put (cs' := #[.int .i64 0, .int .i64 0, .int .u64 0, .int .u64 0, .int .u8 0, .int .i64 0]) s4_BK5 2 (.int .u64 0) rfl
    have s5_BK7 := blk_far s4_BK7 (p := ⟨gb5, 2, none⟩) (Ne.symm NE_gb5_gb7.out) (.int .u64 0)
    have s5_HB := below_set (j := 2) (v := .int .u64 0) s4_HB GE_gb5.out
    have s6_HO0 := far_set (p := ⟨gb5, 3, none⟩) s5_HO0 (X5.out) (.int .u64 0)
    have s6_HO1 := far_set (p := ⟨gb5, 3, none⟩) s5_HO1 (Y5.out) (.int .u64 0)
    have s6_BK2 := blk_far s5_BK2 (p := ⟨gb5, 3, none⟩) NE_gb2_gb5.out (.int .u64 0)
    have s6_BK4 := blk_far s5_BK4 (p := ⟨gb5, 3, none⟩) NE_gb4_gb5.out (.int .u64 0)
    have s6_BK5 := blk_put (cs' := #[.int .i64 0, .int .i64 0, .int .u64 0, .int .u64 0, .int .u8 0, .int .i64 0]) s5_BK5 3 (.int .u64 0) rfl
    have s6_BK7 := blk_far s5_BK7 (p := ⟨gb5, 3, none⟩) (Ne.symm NE_gb5_gb7.out) (.int .u64 0)
    have s6_HB := below_set (j := 3) (v := .int .u64 0) s5_HB GE_gb5.out
    have s7_HO0 := far_set (p := ⟨gb5, 4, none⟩) s6_HO0 (X5.out) (.int .u8 0)
    have s7_HO1 := far_set (p := ⟨gb5, 4, none⟩) s6_HO1 (Y5.out) (.int .u8 0)
    have s7_BK2 := blk_far s6_BK2 (p := ⟨gb5, 4, none⟩) NE_gb2_gb5.out (.int .u8 0)
    have s7_BK4 := blk_far s6_BK4 (p := ⟨gb5, 4, none⟩) NE_gb4_gb5.out (.int .u8 0)
    have s7_BK5 := blk_put (cs' := #[.int .i64 0, .int .i64 0, .int .u64 0, .int .u64 0, .int .u8 0, .int .i64 0]) s6_BK5 4 (.int .u8 0) rfl
    have s7_BK7 := blk_far s6_BK7 (p := ⟨gb5, 4, none⟩) (Ne.symm NE_gb5_gb7.out) (.int .u8 0)
    have s7_HB := below_set (j := 4) (v := .int .u8 0) s6_HB GE_gb5.out
    have s8_HO0 := far_set (p := ⟨gb5, 5, none⟩) s7_HO0 (X5.out) (.int .i64 0)
    have s8_HO1 := far_set (p := ⟨gb5, 5, none⟩) s7_HO1 (Y5.out) (.int .i64 0)
    have s8_BK2 := blk_far s7_BK2 (p := ⟨gb5, 5, none⟩) NE_gb2_gb5.out (.int .i64 0)
    have s8_BK4 := blk_far s7_BK4 (p := ⟨gb5, 5, none⟩) NE_gb4_gb5.out (.int .i64 0)
    have s8_BK5 := blk_put (cs' := #[.int .i64 0, .int .i64 0, .int .u64 0, .int .u64 0, .int .u8 0, .int .i64 0]) s7_BK5 5 (.int .i64 0) rfl
    have s8_BK7 := blk_far s7_BK7 (p := ⟨gb5, 5, none⟩) (Ne.symm NE_gb5_gb7.out) (.int .i64 0)
    have s8_HB := below_set (j := 5) (v := .int .i64 0) s7_HB GE_gb5.out
    have n_BK2 := Aside0.mk s8_BK2
    have n_BK4 := Aside0.mk s8_BK4
    have n_BK5 := Aside0.mk s8_BK5
    have n_BK7 := Aside0.mk s8_BK7
    have n_HO0 := Aside0.mk s8_HO0
    have n_HO1 := Aside0.mk s8_HO1
    have n_HB := Aside0.mk s8_HB
    clear s0_BK2 s0_BK4 s0_BK5 s0_BK7 s0_HO0 s0_HO1 s0_HB
    clear s1_BK2 s1_BK4 s1_BK5 s1_BK7 s1_HO0 s1_HO1 s1_HB
    clear s2_BK2 s2_BK4 s2_BK5 s2_BK7 s2_HO0 s2_HO1 s2_HB
    clear s3_BK2 s3_BK4 s3_BK5 s3_BK7 s3_HO0 s3_HO1 s3_HB
    clear s4_BK2 s4_BK4 s4_BK5 s4_BK7 s4_HO0 s4_HO1 s4_HB
    clear s5_BK2 s5_BK4 s5_BK5 s5_BK7 s5_HO0 s5_HO1 s5_HB
    clear s6_BK2 s6_BK4 s6_BK5 s6_BK7 s6_HO0 s6_HO1 s6_HB
    clear s7_BK2 s7_BK4 s7_BK5 s7_BK7 s7_HO0 s7_HO1 s7_HB
    clear s8_BK2 s8_BK4 s8_BK5 s8_BK7 s8_HO0 s8_HO1 s8_HB
    clear BK2 BK4 BK5 BK7 HO0 HO1 HB
    generalize (((((((((w5.setCell ⟨gb4, 0, none⟩ (.slice Ax l0_0.length cx)).setCell ⟨gb4, 1, none⟩ (.slice Ay l0_1.length cy)).setCell ⟨gb4, 2, none⟩ (.int .i64 a0_2)).setCell ⟨gb5, 0, none⟩ (.int .i64 0)).setCell ⟨gb5, 1, none⟩ (.int .i64 0)).setCell ⟨gb5, 2, none⟩ (.int .u64 0)).setCell ⟨gb5, 3, none⟩ (.int .u64 0)).setCell ⟨gb5, 4, none⟩ (.int .u8 0)).setCell ⟨gb5, 5, none⟩ (.int .i64 0)) = w12 at n_BK2 n_BK4 n_BK5 n_BK7 n_HO0 n_HO1 n_HB ⊢
    have BK2 := n_BK2
    have BK4 := n_BK4
    have BK5 := n_BK5
    have BK7 := n_BK7
    have HO0 := n_HO0
    have HO1 := n_HO1
    have HB := n_HB
    clear n_BK2 n_BK4 n_BK5 n_BK7 n_HO0 n_HO1 n_HB
    have bk2_0 := (blk_cell BK2.out 0).trans (show _ = some (.slice A0_0 l0_0.length c0_0) from rfl); have bk2_1 := (blk_cell BK2.out 1).trans (show _ = some (.slice A0_1 l0_1.length c0_1) from rfl); have bk2_2 := (blk_cell BK2.out 2).trans (show _ = some (.int .i64 a0_2) from rfl); have bk4_0 := (blk_cell BK4.out 0).trans (show _ = some (.slice Ax l0_0.length cx) from rfl); have bk4_1 := (blk_cell BK4.out 1).trans (show _ = some (.slice Ay l0_1.length cy) from rfl); have bk4_2 := (blk_cell BK4.out 2).trans (show _ = some (.int .i64 a0_2) from rfl); have bk5_0 := (blk_cell BK5.out 0).trans (show _ = some (.int .i64 0) from rfl); have bk5_1 := (blk_cell BK5.out 1).trans (show _ = some (.int .i64 0) from rfl); have bk5_2 := (blk_cell BK5.out 2).trans (show _ = some (.int .u64 0) from rfl); have bk5_3 := (blk_cell BK5.out 3).trans (show _ = some (.int .u64 0) from rfl); have bk5_4 := (blk_cell BK5.out 4).trans (show _ = some (.int .u8 0) from rfl); have bk5_5 := (blk_cell BK5.out 5).trans (show _ = some (.int .i64 0) from rfl); have bk7_0 := (blk_cell BK7.out 0).trans (show _ = some (.slice Ax l0_0.length cx) from rfl); have bk7_1 := (blk_cell BK7.out 1).trans (show _ = some (.slice Ay l0_1.length cy) from rfl); have bk7_2 := (blk_cell BK7.out 2).trans (show _ = some (.int .i64 a0_2) from rfl); have bk2_f := fun i => blk_frozen BK2.out i; have bk4_f := fun i => blk_frozen BK4.out i; have bk5_f := fun i => blk_frozen BK5.out i; have bk7_f := fun i => blk_frozen BK7.out i
    refine bodyPost_ret (results_list (rs := [.cell 4 58, .cell 5 65, .tmp 6]) rfl (by simp) (.cell gb4 58 #[.slice Ax l0_0.length cx, .slice Ay l0_1.length cy, .int .i64 a0_2] (0, 0) _ rfl BK4.out Try.underlying58 rfl (by kernel_rfl) (.cell gb5 65 #[.int .i64 0, .int .i64 0, .int .u64 0, .int .u64 0, .int .u8 0, .int .i64 0] (0, 0) _ rfl BK5.out Try.underlying65 rfl (by kernel_rfl) (.tmp .nil)))) rfl ?_
    exact ⟨_, _, rfl, Kd.R_reok rfl HO0.out (ap0 HAP.out), Kd.R_reok rfl HO1.out (ap1 HAP.out), HB.out⟩
  · have hj0 : atIdx a1 l0_1 0 = (j : Int) := by rw [show (j : Int) = ((0 + j : Nat) : Int) by omega]; exact hj1
    have H := HH.out
    rw [hj0] at H ⊢
    rw [if_neg (by omega), Int.toNat_natCast] at H
    simp only [Option.some.injEq, Prod.mk.injEq] at H
    obtain ⟨rfl, rfl, rfl, rfl, rfl, rfl, rfl, rfl, rfl, rfl⟩ := H
    clear HH HAT hj1 hj0
    obtain ⟨gy, cap, ey, hgy, _, cells, hcell⟩ := Kd.R_form HO1.out (by omega)
    simp only [Value.slice.injEq, true_and] at ey
    obtain ⟨rfl, rfl⟩ := ey
    clear hcell cells
    have T2 : Aside0 (some gb2 ≠ some gy) := ⟨blk_row BK2.out HO1.out (by decide)⟩
    have T4 : Aside0 (some gb4 ≠ some gy) := ⟨blk_row BK4.out HO1.out (by decide)⟩
    have T7 : Aside0 (some gb7 ≠ some gy) := ⟨blk_row BK7.out HO1.out (by decide)⟩
    have T5 : Aside0 (some gb5 ≠ some gy) := ⟨Y5.out⟩
    have hwb : w.heap.size ≤ w5.heap.size := below_size HB.out
    have hjb : j ≤ 1000000 := by have := HL1.out; omega
    have hd0 : decide ((j : Int) < 0) = false := decide_eq_false (by omega)
    obtain ⟨ad, ea, hx0, hx1, hx2, hx3, hx4, hx5⟩ := at_T65 HR1.out (j : Int) (by omega) (by omega)
    subst ea
    simp only [rd65_nat, Int.toNat_natCast] at hx0 hx1 hx2 hx3 hx4 hx5
    have HX := Aside0.mk (And.intro hx0 (And.intro hx1 (And.intro hx2 (And.intro hx3 (And.intro hx4 hx5)))))
    have HAD : Aside0 ((ad.add (j * 6)).block < w.heap.size) := ⟨World.block_lt_of_cell? w _ hx0⟩
    clear hx0 hx1 hx2 hx3 hx4 hx5
    obtain ⟨mm, hmm⟩ : ∃ mm, l0_1.getD j z65 = mm := ⟨_, rfl⟩
    rw [hmm] at HX
    have HMM := Aside0.mk hmm
    clear hmm
    obtain ⟨l1, hl1⟩ : ∃ l1, l0_1.eraseIdx j = l1 := ⟨_, rfl⟩
    have HLL := Aside0.mk hl1
    clear hl1
    go_upto_region 6 with (first | (go_at_call 76; (with_reducible refine (delete76p gy _ j w.heap.size l0_1 _ HO1.out hj2 HL1.out).mono ?_); rintro e w6 ⟨rfl, ho, hg⟩; rw [HLL.out] at ho; rw [HLL.out]; have HAP3 : Aside0 ((Value.slice Ax l0_0.length cx).ownBlock = none ∨ (Value.slice Ax l0_0.length cx).ownBlock ≠ (.slice (some ⟨gy, 0, none⟩) l1.length cy : Value).ownBlock) := ⟨HAP.out⟩; have n_BK2 := Aside0.mk (blk_grown BK2.out hg T2.out); have n_BK4 := Aside0.mk (blk_grown BK4.out hg T4.out); have n_BK5 := Aside0.mk (blk_grown BK5.out hg T5.out); have n_BK7 := Aside0.mk (blk_grown BK7.out hg T7.out); have n_HO0 := Aside0.mk (Kd.R_grown2 HO0.out rfl hg (ap1' HAP.out)); have n_HO1 := Aside0.mk (ho); have n_HB := Aside0.mk (pw_below_grown HB.out _ hwb hg (fun k hk => by cases hk; exact hgy)); clear bk2_0 bk2_1 bk2_2 bk2_f bk4_0 bk4_1 bk4_2 bk4_f bk5_0 bk5_1 bk5_2 bk5_3 bk5_4 bk5_5 bk5_f bk7_0 bk7_1 bk7_2 bk7_f; clear BK2 BK4 BK5 BK7 HO0 HO1 HB; have BK2 := n_BK2; have BK4 := n_BK4; have BK5 := n_BK5; have BK7 := n_BK7; have HO0 := n_HO0; have HO1 := n_HO1; have HB := n_HB; clear n_BK2 n_BK4 n_BK5 n_BK7 n_HO0 n_HO1 n_HB; have bk2_0 := (blk_cell BK2.out 0).trans (show _ = some (.slice A0_0 l0_0.length c0_0) from rfl); have bk2_1 := (blk_cell BK2.out 1).trans (show _ = some (.slice (some ad) l0_1.length c0_1) from rfl); have bk2_2 := (blk_cell BK2.out 2).trans (show _ = some (.int .i64 a0_2) from rfl); have bk4_0 := (blk_cell BK4.out 0).trans (show _ = some (.slice none 0 0) from rfl); have bk4_1 := (blk_cell BK4.out 1).trans (show _ = some (.slice none 0 0) from rfl); have bk4_2 := (blk_cell BK4.out 2).trans (show _ = some (.int .i64 0) from rfl); have bk5_0 := (blk_cell BK5.out 0).trans (show _ = some (.int .i64 0) from rfl); have bk5_1 := (blk_cell BK5.out 1).trans (show _ = some (.int .i64 0) from rfl); have bk5_2 := (blk_cell BK5.out 2).trans (show _ = some (.int .u64 0) from rfl); have bk5_3 := (blk_cell BK5.out 3).trans (show _ = some (.int .u64 0) from rfl); have bk5_4 := (blk_cell BK5.out 4).trans (show _ = some (.int .u8 0) from rfl); have bk5_5 := (blk_cell BK5.out 5).trans (show _ = some (.int .i64 0) from rfl); have bk7_0 := (blk_cell BK7.out 0).trans (show _ = some (.slice Ax l0_0.length cx) from rfl); have bk7_1 := (blk_cell BK7.out 1).trans (show _ = some (.slice (some ⟨gy, 0, none⟩) l0_1.length cy) from rfl); have bk7_2 := (blk_cell BK7.out 2).trans (show _ = some (.int .i64 a0_2) from rfl); have bk2_f := fun i => blk_frozen BK2.out i; have bk4_f := fun i => blk_frozen BK4.out i; have bk5_f := fun i => blk_frozen BK5.out i; have bk7_f := fun i => blk_frozen BK7.out i; clear ho hg))
    clear bk2_0 bk2_1 bk2_2 bk2_f bk4_0 bk4_1 bk4_2 bk4_f bk5_0 bk5_1 bk5_2 bk5_3 bk5_4 bk5_5 bk5_f bk7_0 bk7_1 bk7_2 bk7_f
    have s0_HO0 := Kd.R_set HO0.out BK7.out (by decide) 1 (.slice (some ⟨gy, 0, none⟩) l1.length cy)
    have s0_HO1 := Kd.R_set HO1.out BK7.out (by decide) 1 (.slice (some ⟨gy, 0, none⟩) l1.length cy)
    have s0_BK2 := blk_far BK2.out (p := ⟨gb7, 1, none⟩) NE_gb2_gb7.out (.slice (some ⟨gy, 0, none⟩) l1.length cy)
    have s0_BK4 := blk_far BK4.out (p := ⟨gb7, 1, none⟩) NE_gb4_gb7.out (.slice (some ⟨gy, 0, none⟩) l1.length cy)
    have s0_BK5 := blk_far BK5.out (p := ⟨gb7, 1, none⟩) NE_gb5_gb7.out (.slice (some ⟨gy, 0, none⟩) l1.length cy)
    have s0_BK7 := blk_put (cs' := #[.slice Ax l0_0.length cx, .slice (some ⟨gy, 0, none⟩) l1.length cy, .int .i64 a0_2]) BK7.out 1 (.slice (some ⟨gy, 0, none⟩) l1.length cy) rfl
    have s0_HB := below_set (j := 1) (v := .slice (some ⟨gy, 0, none⟩) l1.length cy) HB.out GE_gb7.out
    have n_BK2 := Aside0.mk s0_BK2
    have n_BK4 := Aside0.mk s0_BK4
    have n_BK5 := Aside0.mk s0_BK5
    have n_BK7 := Aside0.mk s0_BK7
    have n_HO0 := Aside0.mk s0_HO0
    have n_HO1 := Aside0.mk s0_HO1
    have n_HB := Aside0.mk s0_HB
    clear s0_BK2 s0_BK4 s0_BK5 s0_BK7 s0_HO0 s0_HO1 s0_HB
    clear BK2 BK4 BK5 BK7 HO0 HO1 HB
    generalize (w6.setCell ⟨gb7, 1, none⟩ (.slice (some ⟨gy, 0, none⟩) l1.length cy)) = w7 at n_BK2 n_BK4 n_BK5 n_BK7 n_HO0 n_HO1 n_HB ⊢
    have BK2 := n_BK2
    have BK4 := n_BK4
    have BK5 := n_BK5
    have BK7 := n_BK7
    have HO0 := n_HO0
    have HO1 := n_HO1
    have HB := n_HB
    clear n_BK2 n_BK4 n_BK5 n_BK7 n_HO0 n_HO1 n_HB
    have bk2_0 := (blk_cell BK2.out 0).trans (show _ = some (.slice A0_0 l0_0.length c0_0) from rfl); have bk2_1 := (blk_cell BK2.out 1).trans (show _ = some (.slice (some ad) l0_1.length c0_1) from rfl); have bk2_2 := (blk_cell BK2.out 2).trans (show _ = some (.int .i64 a0_2) from rfl); have bk4_0 := (blk_cell BK4.out 0).trans (show _ = some (.slice none 0 0) from rfl); have bk4_1 := (blk_cell BK4.out 1).trans (show _ = some (.slice none 0 0) from rfl); have bk4_2 := (blk_cell BK4.out 2).trans (show _ = some (.int .i64 0) from rfl); have bk5_0 := (blk_cell BK5.out 0).trans (show _ = some (.int .i64 0) from rfl); have bk5_1 := (blk_cell BK5.out 1).trans (show _ = some (.int .i64 0) from rfl); have bk5_2 := (blk_cell BK5.out 2).trans (show _ = some (.int .u64 0) from rfl); have bk5_3 := (blk_cell BK5.out 3).trans (show _ = some (.int .u64 0) from rfl); have bk5_4 := (blk_cell BK5.out 4).trans (show _ = some (.int .u8 0) from rfl); have bk5_5 := (blk_cell BK5.out 5).trans (show _ = some (.int .i64 0) from rfl); have bk7_0 := (blk_cell BK7.out 0).trans (show _ = some (.slice Ax l0_0.length cx) from rfl); have bk7_1 := (blk_cell BK7.out 1).trans (show _ = some (.slice (some ⟨gy, 0, none⟩) l1.length cy) from rfl); have bk7_2 := (blk_cell BK7.out 2).trans (show _ = some (.int .i64 a0_2) from rfl); have bk2_f := fun i => blk_frozen BK2.out i; have bk4_f := fun i => blk_frozen BK4.out i; have bk5_f := fun i => blk_frozen BK5.out i; have bk7_f := fun i => blk_frozen BK7.out i
    obtain ⟨hx0, hx1, hx2, hx3, hx4, hx5⟩ := HX.out
    have hw0 := hx0
    have hw1 := hx1
    have hw2 := hx2
    have hw3 := hx3
    have hw4 := hx4
    have hw5 := hx5
    replace hx0 := (HB.out.cell (World.block_lt_of_cell? w _ hx0)).trans hx0
    replace hx1 := (HB.out.cell (World.block_lt_of_cell? w _ hx1)).trans hx1
    replace hx2 := (HB.out.cell (World.block_lt_of_cell? w _ hx2)).trans hx2
    replace hx3 := (HB.out.cell (World.block_lt_of_cell? w _ hx3)).trans hx3
    replace hx4 := (HB.out.cell (World.block_lt_of_cell? w _ hx4)).trans hx4
    replace hx5 := (HB.out.cell (World.block_lt_of_cell? w _ hx5)).trans hx5
    have NB2_4 := NE_gb2_gb4
    have NB2_5 := NE_gb2_gb5
    have NB2_7 := NE_gb2_gb7
    have NB4_5 := NE_gb4_gb5
    have NB4_7 := NE_gb4_gb7
    have NB5_7 := NE_gb5_gb7
    have NB4_2 := Aside0.mk (Ne.symm NE_gb2_gb4.out)
    have NB5_2 := Aside0.mk (Ne.symm NE_gb2_gb5.out)
    have NB7_2 := Aside0.mk (Ne.symm NE_gb2_gb7.out)
    have NB5_4 := Aside0.mk (Ne.symm NE_gb4_gb5.out)
    have NB7_4 := Aside0.mk (Ne.symm NE_gb4_gb7.out)
    have NB7_5 := Aside0.mk (Ne.symm NE_gb5_gb7.out)
    have n_BK2 := Aside0.mk (blk_drew BK2.out); have n_BK4 := Aside0.mk (blk_drew BK4.out); have n_BK5 := Aside0.mk (blk_drew BK5.out); have n_BK7 := Aside0.mk (blk_drew BK7.out); have n_HO0 := Aside0.mk (Kd.R_drew HO0.out); have n_HO1 := Aside0.mk (Kd.R_drew HO1.out); have n_HB := Aside0.mk (below_drew1 HB.out); clear bk2_0 bk2_1 bk2_2 bk2_f bk4_0 bk4_1 bk4_2 bk4_f bk5_0 bk5_1 bk5_2 bk5_3 bk5_4 bk5_5 bk5_f bk7_0 bk7_1 bk7_2 bk7_f; clear BK2 BK4 BK5 BK7 HO0 HO1 HB; have BK2 := n_BK2; have BK4 := n_BK4; have BK5 := n_BK5; have BK7 := n_BK7; have HO0 := n_HO0; have HO1 := n_HO1; have HB := n_HB; clear n_BK2 n_BK4 n_BK5 n_BK7 n_HO0 n_HO1 n_HB; have bk2_0 := (blk_cell BK2.out 0).trans (show _ = some (.slice A0_0 l0_0.length c0_0) from rfl); have bk2_1 := (blk_cell BK2.out 1).trans (show _ = some (.slice (some ad) l0_1.length c0_1) from rfl); have bk2_2 := (blk_cell BK2.out 2).trans (show _ = some (.int .i64 a0_2) from rfl); have bk4_0 := (blk_cell BK4.out 0).trans (show _ = some (.slice none 0 0) from rfl); have bk4_1 := (blk_cell BK4.out 1).trans (show _ = some (.slice none 0 0) from rfl); have bk4_2 := (blk_cell BK4.out 2).trans (show _ = some (.int .i64 0) from rfl); have bk5_0 := (blk_cell BK5.out 0).trans (show _ = some (.int .i64 0) from rfl); have bk5_1 := (blk_cell BK5.out 1).trans (show _ = some (.int .i64 0) from rfl); have bk5_2 := (blk_cell BK5.out 2).trans (show _ = some (.int .u64 0) from rfl); have bk5_3 := (blk_cell BK5.out 3).trans (show _ = some (.int .u64 0) from rfl); have bk5_4 := (blk_cell BK5.out 4).trans (show _ = some (.int .u8 0) from rfl); have bk5_5 := (blk_cell BK5.out 5).trans (show _ = some (.int .i64 0) from rfl); have bk7_0 := (blk_cell BK7.out 0).trans (show _ = some (.slice Ax l0_0.length cx) from rfl); have bk7_1 := (blk_cell BK7.out 1).trans (show _ = some (.slice (some ⟨gy, 0, none⟩) l1.length cy) from rfl); have bk7_2 := (blk_cell BK7.out 2).trans (show _ = some (.int .i64 a0_2) from rfl); have bk2_f := fun i => blk_frozen BK2.out i; have bk4_f := fun i => blk_frozen BK4.out i; have bk5_f := fun i => blk_frozen BK5.out i; have bk7_f := fun i => blk_frozen BK7.out i
    clear bk2_0 bk2_1 bk2_2 bk2_f bk4_0 bk4_1 bk4_2 bk4_f bk5_0 bk5_1 bk5_2 bk5_3 bk5_4 bk5_5 bk5_f bk7_0 bk7_1 bk7_2 bk7_f
    replace hx0 : w7.drew.cell? _ = _ := hx0
    replace hx1 : w7.drew.cell? _ = _ := hx1
    replace hx2 : w7.drew.cell? _ = _ := hx2
    replace hx3 : w7.drew.cell? _ = _ := hx3
    replace hx4 : w7.drew.cell? _ = _ := hx4
    replace hx5 : w7.drew.cell? _ = _ := hx5
    refine start_ (n := 9) (S := fun w' => w'.cell? ⟨gb7, 0, none⟩ = some (.slice Ax l0_0.length cx) ∧ w'.cell? ⟨gb7, 1, none⟩ = some (.slice (some ⟨gy, 0, none⟩) l1.length cy) ∧ w'.cell? ⟨gb7, 2, none⟩ = some (.int .i64 a0_2) ∧ w'.cell? ⟨gb2, 0, none⟩ = some (.slice A0_0 l0_0.length c0_0) ∧ w'.cell? ⟨gb2, 1, none⟩ = some (.slice (some ad) l0_1.length c0_1) ∧ w'.cell? ⟨gb2, 2, none⟩ = some (.int .i64 a0_2) ∧ w'.cell? (ad.add (j * 6)) = some (.int .i64 (mm.f0)) ∧ w'.cell? ⟨(ad.add (j * 6)).block, (ad.add (j * 6)).off + 1, none⟩ = some (.int .i64 (mm.f1)) ∧ w'.cell? ⟨(ad.add (j * 6)).block, (ad.add (j * 6)).off + 2, none⟩ = some (.int .u64 (mm.f2)) ∧ w'.cell? ⟨(ad.add (j * 6)).block, (ad.add (j * 6)).off + 3, none⟩ = some (.int .u64 (mm.f3)) ∧ w'.cell? ⟨(ad.add (j * 6)).block, (ad.add (j * 6)).off + 4, none⟩ = some (.int .u8 (mm.f4)) ∧ w'.cell? ⟨(ad.add (j * 6)).block, (ad.add (j * 6)).off + 5, none⟩ = some (.int .i64 (mm.f5))) (ds := []) #[false, false, false, false, false, false, false, false, false] (by kernel_rfl) rfl rfl ⟨(blk_cell BK7.out 0).trans rfl, (blk_cell BK7.out 1).trans rfl, (blk_cell BK7.out 2).trans rfl, (blk_cell BK2.out 0).trans rfl, (blk_cell BK2.out 1).trans rfl, (blk_cell BK2.out 2).trans rfl, ((HB.out.cell (World.block_lt_of_cell? w _ hw0)).trans hw0), ((HB.out.cell (World.block_lt_of_cell? w _ hw1)).trans hw1), ((HB.out.cell (World.block_lt_of_cell? w _ hw2)).trans hw2), ((HB.out.cell (World.block_lt_of_cell? w _ hw3)).trans hw3), ((HB.out.cell (World.block_lt_of_cell? w _ hw4)).trans hw4), ((HB.out.cell (World.block_lt_of_cell? w _ hw5)).trans hw5)⟩ (fun hHeld => ?_); refine with_tabW take6.tab6 take6.bits6 (fun HT_ HW_ => ?_)
    generalize w7.drew = w8 at HO0 HO1 BK2 BK4 BK5 BK7 HB hx0 hx1 hx2 hx3 hx4 hx5 hHeld ⊢
    refine pure_ (i := 1) (N := some 27) (v := ?_) (a' := ?_) #[false, true, false, false, false, false, false, false, false] rfl rfl (any_of HT_.out (by kernel_rfl)) (fun _ _ _ h => h) (Or.inl ⟨by rfl, ?_⟩) ?_ ?_
    rotate_left
    · intro w'
      go_simp
      with_reducible rfl
    rotate_left
    · simp only [Act.put, List.setIfInBounds_toArray, List.set_cons_zero, List.set_cons_succ, i64_w, i32_w]
      rfl
    refine pure_ (i := 3) (N := some 29) (v := ?_) (a' := ?_) #[false, true, false, true, false, false, false, false, false] rfl rfl (any_of HT_.out (by kernel_rfl)) (fun _ _ _ h => h) (Or.inl ⟨by rfl, ?_⟩) ?_ ?_
    rotate_left
    · intro w'
      go_simp
      with_reducible rfl
    rotate_left
    · simp only [Act.put, List.setIfInBounds_toArray, List.set_cons_zero, List.set_cons_succ, i64_w, i32_w]
      rfl
    refine take_ (i := 0) (N := some 26) (v := ?_) (a' := ?_) #[true, true, false, true, false, false, false, false, false] rfl rfl (take_ofW HT_.out HW_.out (by kernel_rfl)) (fun _ _ _ h => h) (Or.inl ⟨by rfl, ?_⟩) hHeld ?_ ?_
    rotate_left
    · rintro w' ⟨s0, s1, s2, s3, s4, s5, s6, s7, s8, s9, s10, s11⟩
      go_simp
      with_reducible rfl
    rotate_left
    · simp only [Act.put, List.setIfInBounds_toArray, List.set_cons_zero, List.set_cons_succ, i64_w, i32_w]
      rfl
    refine take_ (i := 2) (N := some 28) (v := ?_) (a' := ?_) #[true, true, true, true, false, false, false, false, false] rfl rfl (take_ofW HT_.out HW_.out (by kernel_rfl)) (fun _ _ _ h => h) (Or.inl ⟨by rfl, ?_⟩) hHeld ?_ ?_
    rotate_left
    · rintro w' ⟨s0, s1, s2, s3, s4, s5, s6, s7, s8, s9, s10, s11⟩
      go_simp
      with_reducible rfl
    rotate_left
    · simp only [Act.put, List.setIfInBounds_toArray, List.set_cons_zero, List.set_cons_succ, i64_w, i32_w]
      rfl
    refine pure_ (i := 4) (N := some 30) (v := ?_) (a' := ?_) #[true, true, true, true, true, false, false, false, false] rfl rfl (any_of HT_.out (by kernel_rfl)) (fun _ _ _ h => h) (Or.inl ⟨by rfl, ?_⟩) ?_ ?_
    rotate_left
    · intro w'
      go_simp
      with_reducible rfl
    rotate_left
    · simp only [Act.put, List.setIfInBounds_toArray, List.set_cons_zero, List.set_cons_succ, i64_w, i32_w]
      rfl
    refine take_ (i := 5) (N := some 31) (v := ?_) (a' := ?_) #[true, true, true, true, true, true, false, false, false] rfl rfl (take_ofW HT_.out HW_.out (by kernel_rfl)) (fun _ _ _ h => h) (Or.inl ⟨by rfl, ?_⟩) hHeld ?_ ?_
    rotate_left
    · rintro w' ⟨s0, s1, s2, s3, s4, s5, s6, s7, s8, s9, s10, s11⟩
      go_simp
      with_reducible rfl
    rotate_left
    · simp only [Act.put, List.setIfInBounds_toArray, List.set_cons_zero, List.set_cons_succ, i64_w, i32_w]
      rfl
    refine one_ (i := 6) (N := none) #[true, true, true, true, true, true, true, false, false] rfl rfl (one_of HT_.out (by kernel_rfl)) (by decide) (fun K hK => ?_)
    have hs51 : w8.cell? ⟨gb4, 0, none⟩ = some (.slice none 0 0) := (blk_cell BK4.out 0).trans rfl
    have hfs51 := blk_frozen BK4.out 0
    have hns51_0 := NB2_4.out
    have hns51_2 := NB5_4.out
    have hns51_3 := NB7_4.out
    have hms51_0 := NB4_2.out
    have hms51_2 := NB4_5.out
    have hms51_3 := NB4_7.out
    have hs52 : w8.cell? ⟨gb4, 1, none⟩ = some (.slice none 0 0) := (blk_cell BK4.out 1).trans rfl
    have hfs52 := blk_frozen BK4.out 1
    have hns52_0 := NB2_4.out
    have hns52_2 := NB5_4.out
    have hns52_3 := NB7_4.out
    have hms52_0 := NB4_2.out
    have hms52_2 := NB4_5.out
    have hms52_3 := NB4_7.out
    have hs53 : w8.cell? ⟨gb4, 2, none⟩ = some (.int .i64 0) := (blk_cell BK4.out 2).trans rfl
    have hfs53 := blk_frozen BK4.out 2
    have hns53_0 := NB2_4.out
    have hns53_2 := NB5_4.out
    have hns53_3 := NB7_4.out
    have hms53_0 := NB4_2.out
    have hms53_2 := NB4_5.out
    have hms53_3 := NB4_7.out
    refine skip_ (w1 := ?_) (by rfl) rfl ?_ ?_
    rotate_left
    · go_simp
      rfl
    refine hK.out _ _ ⟨((cell_far (p := ⟨gb4, _, none⟩) NB7_4.out _).trans (((cell_far (p := ⟨gb4, _, none⟩) NB7_4.out _).trans (((cell_far (p := ⟨gb4, _, none⟩) NB7_4.out _).trans (hHeld.1)))))), ((cell_far (p := ⟨gb4, _, none⟩) NB7_4.out _).trans (((cell_far (p := ⟨gb4, _, none⟩) NB7_4.out _).trans (((cell_far (p := ⟨gb4, _, none⟩) NB7_4.out _).trans (hHeld.2.1)))))), ((cell_far (p := ⟨gb4, _, none⟩) NB7_4.out _).trans (((cell_far (p := ⟨gb4, _, none⟩) NB7_4.out _).trans (((cell_far (p := ⟨gb4, _, none⟩) NB7_4.out _).trans (hHeld.2.2.1)))))), ((cell_far (p := ⟨gb4, _, none⟩) NB2_4.out _).trans (((cell_far (p := ⟨gb4, _, none⟩) NB2_4.out _).trans (((cell_far (p := ⟨gb4, _, none⟩) NB2_4.out _).trans (hHeld.2.2.2.1)))))), ((cell_far (p := ⟨gb4, _, none⟩) NB2_4.out _).trans (((cell_far (p := ⟨gb4, _, none⟩) NB2_4.out _).trans (((cell_far (p := ⟨gb4, _, none⟩) NB2_4.out _).trans (hHeld.2.2.2.2.1)))))), ((cell_far (p := ⟨gb4, _, none⟩) NB2_4.out _).trans (((cell_far (p := ⟨gb4, _, none⟩) NB2_4.out _).trans (((cell_far (p := ⟨gb4, _, none⟩) NB2_4.out _).trans (hHeld.2.2.2.2.2.1)))))), ((cell_far (p := ⟨gb4, _, none⟩) (by first | exact Nat.ne_of_lt (Nat.lt_of_lt_of_le (by have := World.block_lt_of_cell? _ _ hw0; first | rwa [add_block] at this | exact this) GE_gb4.out) | (rw [add_block]; exact Nat.ne_of_lt (Nat.lt_of_lt_of_le (by have := World.block_lt_of_cell? _ _ hw0; first | rwa [add_block] at this | exact this) GE_gb4.out)) | (show (Addr.add _ _).block ≠ _; rw [add_block]; exact Nat.ne_of_lt (Nat.lt_of_lt_of_le (by have := World.block_lt_of_cell? _ _ hw0; first | rwa [add_block] at this | exact this) GE_gb4.out)) | (dsimp only; exact Nat.ne_of_lt (Nat.lt_of_lt_of_le (by have := World.block_lt_of_cell? _ _ hw0; first | rwa [add_block] at this | exact this) GE_gb4.out))) _).trans (((cell_far (p := ⟨gb4, _, none⟩) (by first | exact Nat.ne_of_lt (Nat.lt_of_lt_of_le (by have := World.block_lt_of_cell? _ _ hw0; first | rwa [add_block] at this | exact this) GE_gb4.out) | (rw [add_block]; exact Nat.ne_of_lt (Nat.lt_of_lt_of_le (by have := World.block_lt_of_cell? _ _ hw0; first | rwa [add_block] at this | exact this) GE_gb4.out)) | (show (Addr.add _ _).block ≠ _; rw [add_block]; exact Nat.ne_of_lt (Nat.lt_of_lt_of_le (by have := World.block_lt_of_cell? _ _ hw0; first | rwa [add_block] at this | exact this) GE_gb4.out)) | (dsimp only; exact Nat.ne_of_lt (Nat.lt_of_lt_of_le (by have := World.block_lt_of_cell? _ _ hw0; first | rwa [add_block] at this | exact this) GE_gb4.out))) _).trans (((cell_far (p := ⟨gb4, _, none⟩) (by first | exact Nat.ne_of_lt (Nat.lt_of_lt_of_le (by have := World.block_lt_of_cell? _ _ hw0; first | rwa [add_block] at this | exact this) GE_gb4.out) | (rw [add_block]; exact Nat.ne_of_lt (Nat.lt_of_lt_of_le (by have := World.block_lt_of_cell? _ _ hw0; first | rwa [add_block] at this | exact this) GE_gb4.out)) | (show (Addr.add _ _).block ≠ _; rw [add_block]; exact Nat.ne_of_lt (Nat.lt_of_lt_of_le (by have := World.block_lt_of_cell? _ _ hw0; first | rwa [add_block] at this | exact this) GE_gb4.out)) | (dsimp only; exact Nat.ne_of_lt (Nat.lt_of_lt_of_le (by have := World.block_lt_of_cell? _ _ hw0; first | rwa [add_block] at this | exact this) GE_gb4.out))) _).trans (hHeld.2.2.2.2.2.2.1)))))), ((cell_far (p := ⟨gb4, _, none⟩) (by first | exact Nat.ne_of_lt (Nat.lt_of_lt_of_le (by have := World.block_lt_of_cell? _ _ hw1; first | rwa [add_block] at this | exact this) GE_gb4.out) | (rw [add_block]; exact Nat.ne_of_lt (Nat.lt_of_lt_of_le (by have := World.block_lt_of_cell? _ _ hw1; first | rwa [add_block] at this | exact this) GE_gb4.out)) | (show (Addr.add _ _).block ≠ _; rw [add_block]; exact Nat.ne_of_lt (Nat.lt_of_lt_of_le (by have := World.block_lt_of_cell? _ _ hw1; first | rwa [add_block] at this | exact this) GE_gb4.out)) | (dsimp only; exact Nat.ne_of_lt (Nat.lt_of_lt_of_le (by have := World.block_lt_of_cell? _ _ hw1; first | rwa [add_block] at this | exact this) GE_gb4.out))) _).trans (((cell_far (p := ⟨gb4, _, none⟩) (by first | exact Nat.ne_of_lt (Nat.lt_of_lt_of_le (by have := World.block_lt_of_cell? _ _ hw1; first | rwa [add_block] at this | exact this) GE_gb4.out) | (rw [add_block]; exact Nat.ne_of_lt (Nat.lt_of_lt_of_le (by have := World.block_lt_of_cell? _ _ hw1; first | rwa [add_block] at this | exact this) GE_gb4.out)) | (show (Addr.add _ _).block ≠ _; rw [add_block]; exact Nat.ne_of_lt (Nat.lt_of_lt_of_le (by have := World.block_lt_of_cell? _ _ hw1; first | rwa [add_block] at this | exact this) GE_gb4.out)) | (dsimp only; exact Nat.ne_of_lt (Nat.lt_of_lt_of_le (by have := World.block_lt_of_cell? _ _ hw1; first | rwa [add_block] at this | exact this) GE_gb4.out))) _).trans (((cell_far (p := ⟨gb4, _, none⟩) (by first | exact Nat.ne_of_lt (Nat.lt_of_lt_of_le (by have := World.block_lt_of_cell? _ _ hw1; first | rwa [add_block] at this | exact this) GE_gb4.out) | (rw [add_block]; exact Nat.ne_of_lt (Nat.lt_of_lt_of_le (by have := World.block_lt_of_cell? _ _ hw1; first | rwa [add_block] at this | exact this) GE_gb4.out)) | (show (Addr.add _ _).block ≠ _; rw [add_block]; exact Nat.ne_of_lt (Nat.lt_of_lt_of_le (by have := World.block_lt_of_cell? _ _ hw1; first | rwa [add_block] at this | exact this) GE_gb4.out)) | (dsimp only; exact Nat.ne_of_lt (Nat.lt_of_lt_of_le (by have := World.block_lt_of_cell? _ _ hw1; first | rwa [add_block] at this | exact this) GE_gb4.out))) _).trans (hHeld.2.2.2.2.2.2.2.1)))))), ((cell_far (p := ⟨gb4, _, none⟩) (by first | exact Nat.ne_of_lt (Nat.lt_of_lt_of_le (by have := World.block_lt_of_cell? _ _ hw2; first | rwa [add_block] at this | exact this) GE_gb4.out) | (rw [add_block]; exact Nat.ne_of_lt (Nat.lt_of_lt_of_le (by have := World.block_lt_of_cell? _ _ hw2; first | rwa [add_block] at this | exact this) GE_gb4.out)) | (show (Addr.add _ _).block ≠ _; rw [add_block]; exact Nat.ne_of_lt (Nat.lt_of_lt_of_le (by have := World.block_lt_of_cell? _ _ hw2; first | rwa [add_block] at this | exact this) GE_gb4.out)) | (dsimp only; exact Nat.ne_of_lt (Nat.lt_of_lt_of_le (by have := World.block_lt_of_cell? _ _ hw2; first | rwa [add_block] at this | exact this) GE_gb4.out))) _).trans (((cell_far (p := ⟨gb4, _, none⟩) (by first | exact Nat.ne_of_lt (Nat.lt_of_lt_of_le (by have := World.block_lt_of_cell? _ _ hw2; first | rwa [add_block] at this | exact this) GE_gb4.out) | (rw [add_block]; exact Nat.ne_of_lt (Nat.lt_of_lt_of_le (by have := World.block_lt_of_cell? _ _ hw2; first | rwa [add_block] at this | exact this) GE_gb4.out)) | (show (Addr.add _ _).block ≠ _; rw [add_block]; exact Nat.ne_of_lt (Nat.lt_of_lt_of_le (by have := World.block_lt_of_cell? _ _ hw2; first | rwa [add_block] at this | exact this) GE_gb4.out)) | (dsimp only; exact Nat.ne_of_lt (Nat.lt_of_lt_of_le (by have := World.block_lt_of_cell? _ _ hw2; first | rwa [add_block] at this | exact this) GE_gb4.out))) _).trans (((cell_far (p := ⟨gb4, _, none⟩) (by first | exact Nat.ne_of_lt (Nat.lt_of_lt_of_le (by have := World.block_lt_of_cell? _ _ hw2; first | rwa [add_block] at this | exact this) GE_gb4.out) | (rw [add_block]; exact Nat.ne_of_lt (Nat.lt_of_lt_of_le (by have := World.block_lt_of_cell? _ _ hw2; first | rwa [add_block] at this | exact this) GE_gb4.out)) | (show (Addr.add _ _).block ≠ _; rw [add_block]; exact Nat.ne_of_lt (Nat.lt_of_lt_of_le (by have := World.block_lt_of_cell? _ _ hw2; first | rwa [add_block] at this | exact this) GE_gb4.out)) | (dsimp only; exact Nat.ne_of_lt (Nat.lt_of_lt_of_le (by have := World.block_lt_of_cell? _ _ hw2; first | rwa [add_block] at this | exact this) GE_gb4.out))) _).trans (hHeld.2.2.2.2.2.2.2.2.1)))))), ((cell_far (p := ⟨gb4, _, none⟩) (by first | exact Nat.ne_of_lt (Nat.lt_of_lt_of_le (by have := World.block_lt_of_cell? _ _ hw3; first | rwa [add_block] at this | exact this) GE_gb4.out) | (rw [add_block]; exact Nat.ne_of_lt (Nat.lt_of_lt_of_le (by have := World.block_lt_of_cell? _ _ hw3; first | rwa [add_block] at this | exact this) GE_gb4.out)) | (show (Addr.add _ _).block ≠ _; rw [add_block]; exact Nat.ne_of_lt (Nat.lt_of_lt_of_le (by have := World.block_lt_of_cell? _ _ hw3; first | rwa [add_block] at this | exact this) GE_gb4.out)) | (dsimp only; exact Nat.ne_of_lt (Nat.lt_of_lt_of_le (by have := World.block_lt_of_cell? _ _ hw3; first | rwa [add_block] at this | exact this) GE_gb4.out))) _).trans (((cell_far (p := ⟨gb4, _, none⟩) (by first | exact Nat.ne_of_lt (Nat.lt_of_lt_of_le (by have := World.block_lt_of_cell? _ _ hw3; first | rwa [add_block] at this | exact this) GE_gb4.out) | (rw [add_block]; exact Nat.ne_of_lt (Nat.lt_of_lt_of_le (by have := World.block_lt_of_cell? _ _ hw3; first | rwa [add_block] at this | exact this) GE_gb4.out)) | (show (Addr.add _ _).block ≠ _; rw [add_block]; exact Nat.ne_of_lt (Nat.lt_of_lt_of_le (by have := World.block_lt_of_cell? _ _ hw3; first | rwa [add_block] at this | exact this) GE_gb4.out)) | (dsimp only; exact Nat.ne_of_lt (Nat.lt_of_lt_of_le (by have := World.block_lt_of_cell? _ _ hw3; first | rwa [add_block] at this | exact this) GE_gb4.out))) _).trans (((cell_far (p := ⟨gb4, _, none⟩) (by first | exact Nat.ne_of_lt (Nat.lt_of_lt_of_le (by have := World.block_lt_of_cell? _ _ hw3; first | rwa [add_block] at this | exact this) GE_gb4.out) | (rw [add_block]; exact Nat.ne_of_lt (Nat.lt_of_lt_of_le (by have := World.block_lt_of_cell? _ _ hw3; first | rwa [add_block] at this | exact this) GE_gb4.out)) | (show (Addr.add _ _).block ≠ _; rw [add_block]; exact Nat.ne_of_lt (Nat.lt_of_lt_of_le (by have := World.block_lt_of_cell? _ _ hw3; first | rwa [add_block] at this | exact this) GE_gb4.out)) | (dsimp only; exact Nat.ne_of_lt (Nat.lt_of_lt_of_le (by have := World.block_lt_of_cell? _ _ hw3; first | rwa [add_block] at this | exact this) GE_gb4.out))) _).trans (hHeld.2.2.2.2.2.2.2.2.2.1)))))), ((cell_far (p := ⟨gb4, _, none⟩) (by first | exact Nat.ne_of_lt (Nat.lt_of_lt_of_le (by have := World.block_lt_of_cell? _ _ hw4; first | rwa [add_block] at this | exact this) GE_gb4.out) | (rw [add_block]; exact Nat.ne_of_lt (Nat.lt_of_lt_of_le (by have := World.block_lt_of_cell? _ _ hw4; first | rwa [add_block] at this | exact this) GE_gb4.out)) | (show (Addr.add _ _).block ≠ _; rw [add_block]; exact Nat.ne_of_lt (Nat.lt_of_lt_of_le (by have := World.block_lt_of_cell? _ _ hw4; first | rwa [add_block] at this | exact this) GE_gb4.out)) | (dsimp only; exact Nat.ne_of_lt (Nat.lt_of_lt_of_le (by have := World.block_lt_of_cell? _ _ hw4; first | rwa [add_block] at this | exact this) GE_gb4.out))) _).trans (((cell_far (p := ⟨gb4, _, none⟩) (by first | exact Nat.ne_of_lt (Nat.lt_of_lt_of_le (by have := World.block_lt_of_cell? _ _ hw4; first | rwa [add_block] at this | exact this) GE_gb4.out) | (rw [add_block]; exact Nat.ne_of_lt (Nat.lt_of_lt_of_le (by have := World.block_lt_of_cell? _ _ hw4; first | rwa [add_block] at this | exact this) GE_gb4.out)) | (show (Addr.add _ _).block ≠ _; rw [add_block]; exact Nat.ne_of_lt (Nat.lt_of_lt_of_le (by have := World.block_lt_of_cell? _ _ hw4; first | rwa [add_block] at this | exact this) GE_gb4.out)) | (dsimp only; exact Nat.ne_of_lt (Nat.lt_of_lt_of_le (by have := World.block_lt_of_cell? _ _ hw4; first | rwa [add_block] at this | exact this) GE_gb4.out))) _).trans (((cell_far (p := ⟨gb4, _, none⟩) (by first | exact Nat.ne_of_lt (Nat.lt_of_lt_of_le (by have := World.block_lt_of_cell? _ _ hw4; first | rwa [add_block] at this | exact this) GE_gb4.out) | (rw [add_block]; exact Nat.ne_of_lt (Nat.lt_of_lt_of_le (by have := World.block_lt_of_cell? _ _ hw4; first | rwa [add_block] at this | exact this) GE_gb4.out)) | (show (Addr.add _ _).block ≠ _; rw [add_block]; exact Nat.ne_of_lt (Nat.lt_of_lt_of_le (by have := World.block_lt_of_cell? _ _ hw4; first | rwa [add_block] at this | exact this) GE_gb4.out)) | (dsimp only; exact Nat.ne_of_lt (Nat.lt_of_lt_of_le (by have := World.block_lt_of_cell? _ _ hw4; first | rwa [add_block] at this | exact this) GE_gb4.out))) _).trans (hHeld.2.2.2.2.2.2.2.2.2.2.1)))))), ((cell_far (p := ⟨gb4, _, none⟩) (by first | exact Nat.ne_of_lt (Nat.lt_of_lt_of_le (by have := World.block_lt_of_cell? _ _ hw5; first | rwa [add_block] at this | exact this) GE_gb4.out) | (rw [add_block]; exact Nat.ne_of_lt (Nat.lt_of_lt_of_le (by have := World.block_lt_of_cell? _ _ hw5; first | rwa [add_block] at this | exact this) GE_gb4.out)) | (show (Addr.add _ _).block ≠ _; rw [add_block]; exact Nat.ne_of_lt (Nat.lt_of_lt_of_le (by have := World.block_lt_of_cell? _ _ hw5; first | rwa [add_block] at this | exact this) GE_gb4.out)) | (dsimp only; exact Nat.ne_of_lt (Nat.lt_of_lt_of_le (by have := World.block_lt_of_cell? _ _ hw5; first | rwa [add_block] at this | exact this) GE_gb4.out))) _).trans (((cell_far (p := ⟨gb4, _, none⟩) (by first | exact Nat.ne_of_lt (Nat.lt_of_lt_of_le (by have := World.block_lt_of_cell? _ _ hw5; first | rwa [add_block] at this | exact this) GE_gb4.out) | (rw [add_block]; exact Nat.ne_of_lt (Nat.lt_of_lt_of_le (by have := World.block_lt_of_cell? _ _ hw5; first | rwa [add_block] at this | exact this) GE_gb4.out)) | (show (Addr.add _ _).block ≠ _; rw [add_block]; exact Nat.ne_of_lt (Nat.lt_of_lt_of_le (by have := World.block_lt_of_cell? _ _ hw5; first | rwa [add_block] at this | exact this) GE_gb4.out)) | (dsimp only; exact Nat.ne_of_lt (Nat.lt_of_lt_of_le (by have := World.block_lt_of_cell? _ _ hw5; first | rwa [add_block] at this | exact this) GE_gb4.out))) _).trans (((cell_far (p := ⟨gb4, _, none⟩) (by first | exact Nat.ne_of_lt (Nat.lt_of_lt_of_le (by have := World.block_lt_of_cell? _ _ hw5; first | rwa [add_block] at this | exact this) GE_gb4.out) | (rw [add_block]; exact Nat.ne_of_lt (Nat.lt_of_lt_of_le (by have := World.block_lt_of_cell? _ _ hw5; first | rwa [add_block] at this | exact this) GE_gb4.out)) | (show (Addr.add _ _).block ≠ _; rw [add_block]; exact Nat.ne_of_lt (Nat.lt_of_lt_of_le (by have := World.block_lt_of_cell? _ _ hw5; first | rwa [add_block] at this | exact this) GE_gb4.out)) | (dsimp only; exact Nat.ne_of_lt (Nat.lt_of_lt_of_le (by have := World.block_lt_of_cell? _ _ hw5; first | rwa [add_block] at this | exact this) GE_gb4.out))) _).trans (hHeld.2.2.2.2.2.2.2.2.2.2.2))))))⟩ (fun hHeld => ?_)
    clear hK K
    refine one_ (i := 7) (N := none) #[true, true, true, true, true, true, true, true, false] rfl rfl (one_of HT_.out (by kernel_rfl)) (by decide) (fun K hK => ?_)
    have hs54 : w8.cell? ⟨gb5, 0, none⟩ = some (.int .i64 0) := (blk_cell BK5.out 0).trans rfl
    have hfs54 := blk_frozen BK5.out 0
    have hns54_0 := NB2_5.out
    have hns54_1 := NB4_5.out
    have hns54_3 := NB7_5.out
    have hms54_0 := NB5_2.out
    have hms54_1 := NB5_4.out
    have hms54_3 := NB5_7.out
    have hs55 : w8.cell? ⟨gb5, 1, none⟩ = some (.int .i64 0) := (blk_cell BK5.out 1).trans rfl
    have hfs55 := blk_frozen BK5.out 1
    have hns55_0 := NB2_5.out
    have hns55_1 := NB4_5.out
    have hns55_3 := NB7_5.out
    have hms55_0 := NB5_2.out
    have hms55_1 := NB5_4.out
    have hms55_3 := NB5_7.out
    have hs56 : w8.cell? ⟨gb5, 2, none⟩ = some (.int .u64 0) := (blk_cell BK5.out 2).trans rfl
    have hfs56 := blk_frozen BK5.out 2
    have hns56_0 := NB2_5.out
    have hns56_1 := NB4_5.out
    have hns56_3 := NB7_5.out
    have hms56_0 := NB5_2.out
    have hms56_1 := NB5_4.out
    have hms56_3 := NB5_7.out
    have hs57 : w8.cell? ⟨gb5, 3, none⟩ = some (.int .u64 0) := (blk_cell BK5.out 3).trans rfl
    have hfs57 := blk_frozen BK5.out 3
    have hns57_0 := NB2_5.out
    have hns57_1 := NB4_5.out
    have hns57_3 := NB7_5.out
    have hms57_0 := NB5_2.out
    have hms57_1 := NB5_4.out
    have hms57_3 := NB5_7.out
    have hs58 : w8.cell? ⟨gb5, 4, none⟩ = some (.int .u8 0) := (blk_cell BK5.out 4).trans rfl
    have hfs58 := blk_frozen BK5.out 4
    have hns58_0 := NB2_5.out
    have hns58_1 := NB4_5.out
    have hns58_3 := NB7_5.out
    have hms58_0 := NB5_2.out
    have hms58_1 := NB5_4.out
    have hms58_3 := NB5_7.out
    have hs59 : w8.cell? ⟨gb5, 5, none⟩ = some (.int .i64 0) := (blk_cell BK5.out 5).trans rfl
    have hfs59 := blk_frozen BK5.out 5
    have hns59_0 := NB2_5.out
    have hns59_1 := NB4_5.out
    have hns59_3 := NB7_5.out
    have hms59_0 := NB5_2.out
    have hms59_1 := NB5_4.out
    have hms59_3 := NB5_7.out
    refine skip_ (w1 := ?_) (by rfl) rfl ?_ ?_
    rotate_left
    · go_simp
      rfl
    refine hK.out _ _ ⟨((cell_far (p := ⟨gb5, _, none⟩) NB7_5.out _).trans (((cell_far (p := ⟨gb5, _, none⟩) NB7_5.out _).trans (((cell_far (p := ⟨gb5, _, none⟩) NB7_5.out _).trans (((cell_far (p := ⟨gb5, _, none⟩) NB7_5.out _).trans (((cell_far (p := ⟨gb5, _, none⟩) NB7_5.out _).trans (((cell_far (p := ⟨gb5, _, none⟩) NB7_5.out _).trans (hHeld.1)))))))))))), ((cell_far (p := ⟨gb5, _, none⟩) NB7_5.out _).trans (((cell_far (p := ⟨gb5, _, none⟩) NB7_5.out _).trans (((cell_far (p := ⟨gb5, _, none⟩) NB7_5.out _).trans (((cell_far (p := ⟨gb5, _, none⟩) NB7_5.out _).trans (((cell_far (p := ⟨gb5, _, none⟩) NB7_5.out _).trans (((cell_far (p := ⟨gb5, _, none⟩) NB7_5.out _).trans (hHeld.2.1)))))))))))), ((cell_far (p := ⟨gb5, _, none⟩) NB7_5.out _).trans (((cell_far (p := ⟨gb5, _, none⟩) NB7_5.out _).trans (((cell_far (p := ⟨gb5, _, none⟩) NB7_5.out _).trans (((cell_far (p := ⟨gb5, _, none⟩) NB7_5.out _).trans (((cell_far (p := ⟨gb5, _, none⟩) NB7_5.out _).trans (((cell_far (p := ⟨gb5, _, none⟩) NB7_5.out _).trans (hHeld.2.2.1)))))))))))), ((cell_far (p := ⟨gb5, _, none⟩) NB2_5.out _).trans (((cell_far (p := ⟨gb5, _, none⟩) NB2_5.out _).trans (((cell_far (p := ⟨gb5, _, none⟩) NB2_5.out _).trans (((cell_far (p := ⟨gb5, _, none⟩) NB2_5.out _).trans (((cell_far (p := ⟨gb5, _, none⟩) NB2_5.out _).trans (((cell_far (p := ⟨gb5, _, none⟩) NB2_5.out _).trans (hHeld.2.2.2.1)))))))))))), ((cell_far (p := ⟨gb5, _, none⟩) NB2_5.out _).trans (((cell_far (p := ⟨gb5, _, none⟩) NB2_5.out _).trans (((cell_far (p := ⟨gb5, _, none⟩) NB2_5.out _).trans (((cell_far (p := ⟨gb5, _, none⟩) NB2_5.out _).trans (((cell_far (p := ⟨gb5, _, none⟩) NB2_5.out _).trans (((cell_far (p := ⟨gb5, _, none⟩) NB2_5.out _).trans (hHeld.2.2.2.2.1)))))))))))), ((cell_far (p := ⟨gb5, _, none⟩) NB2_5.out _).trans (((cell_far (p := ⟨gb5, _, none⟩) NB2_5.out _).trans (((cell_far (p := ⟨gb5, _, none⟩) NB2_5.out _).trans (((cell_far (p := ⟨gb5, _, none⟩) NB2_5.out _).trans (((cell_far (p := ⟨gb5, _, none⟩) NB2_5.out _).trans (((cell_far (p := ⟨gb5, _, none⟩) NB2_5.out _).trans (hHeld.2.2.2.2.2.1)))))))))))), ((cell_far (p := ⟨gb5, _, none⟩) (by first | exact Nat.ne_of_lt (Nat.lt_of_lt_of_le (by have := World.block_lt_of_cell? _ _ hw0; first | rwa [add_block] at this | exact this) GE_gb5.out) | (rw [add_block]; exact Nat.ne_of_lt (Nat.lt_of_lt_of_le (by have := World.block_lt_of_cell? _ _ hw0; first | rwa [add_block] at this | exact this) GE_gb5.out)) | (show (Addr.add _ _).block ≠ _; rw [add_block]; exact Nat.ne_of_lt (Nat.lt_of_lt_of_le (by have := World.block_lt_of_cell? _ _ hw0; first | rwa [add_block] at this | exact this) GE_gb5.out)) | (dsimp only; exact Nat.ne_of_lt (Nat.lt_of_lt_of_le (by have := World.block_lt_of_cell? _ _ hw0; first | rwa [add_block] at this | exact this) GE_gb5.out))) _).trans (((cell_far (p := ⟨gb5, _, none⟩) (by first | exact Nat.ne_of_lt (Nat.lt_of_lt_of_le (by have := World.block_lt_of_cell? _ _ hw0; first | rwa [add_block] at this | exact this) GE_gb5.out) | (rw [add_block]; exact Nat.ne_of_lt (Nat.lt_of_lt_of_le (by have := World.block_lt_of_cell? _ _ hw0; first | rwa [add_block] at this | exact this) GE_gb5.out)) | (show (Addr.add _ _).block ≠ _; rw [add_block]; exact Nat.ne_of_lt (Nat.lt_of_lt_of_le (by have := World.block_lt_of_cell? _ _ hw0; first | rwa [add_block] at this | exact this) GE_gb5.out)) | (dsimp only; exact Nat.ne_of_lt (Nat.lt_of_lt_of_le (by have := World.block_lt_of_cell? _ _ hw0; first | rwa [add_block] at this | exact this) GE_gb5.out))) _).trans (((cell_far (p := ⟨gb5, _, none⟩) (by first | exact Nat.ne_of_lt (Nat.lt_of_lt_of_le (by have := World.block_lt_of_cell? _ _ hw0; first | rwa [add_block] at this | exact this) GE_gb5.out) | (rw [add_block]; exact Nat.ne_of_lt (Nat.lt_of_lt_of_le (by have := World.block_lt_of_cell? _ _ hw0; first | rwa [add_block] at this | exact this) GE_gb5.out)) | (show (Addr.add _ _).block ≠ _; rw [add_block]; exact Nat.ne_of_lt (Nat.lt_of_lt_of_le (by have := World.block_lt_of_cell? _ _ hw0; first | rwa [add_block] at this | exact this) GE_gb5.out)) | (dsimp only; exact Nat.ne_of_lt (Nat.lt_of_lt_of_le (by have := World.block_lt_of_cell? _ _ hw0; first | rwa [add_block] at this | exact this) GE_gb5.out))) _).trans (((cell_far (p := ⟨gb5, _, none⟩) (by first | exact Nat.ne_of_lt (Nat.lt_of_lt_of_le (by have := World.block_lt_of_cell? _ _ hw0; first | rwa [add_block] at this | exact this) GE_gb5.out) | (rw [add_block]; exact Nat.ne_of_lt (Nat.lt_of_lt_of_le (by have := World.block_lt_of_cell? _ _ hw0; first | rwa [add_block] at this | exact this) GE_gb5.out)) | (show (Addr.add _ _).block ≠ _; rw [add_block]; exact Nat.ne_of_lt (Nat.lt_of_lt_of_le (by have := World.block_lt_of_cell? _ _ hw0; first | rwa [add_block] at this | exact this) GE_gb5.out)) | (dsimp only; exact Nat.ne_of_lt (Nat.lt_of_lt_of_le (by have := World.block_lt_of_cell? _ _ hw0; first | rwa [add_block] at this | exact this) GE_gb5.out))) _).trans (((cell_far (p := ⟨gb5, _, none⟩) (by first | exact Nat.ne_of_lt (Nat.lt_of_lt_of_le (by have := World.block_lt_of_cell? _ _ hw0; first | rwa [add_block] at this | exact this) GE_gb5.out) | (rw [add_block]; exact Nat.ne_of_lt (Nat.lt_of_lt_of_le (by have := World.block_lt_of_cell? _ _ hw0; first | rwa [add_block] at this | exact this) GE_gb5.out)) | (show (Addr.add _ _).block ≠ _; rw [add_block]; exact Nat.ne_of_lt (Nat.lt_of_lt_of_le (by have := World.block_lt_of_cell? _ _ hw0; first | rwa [add_block] at this | exact this) GE_gb5.out)) | (dsimp only; exact Nat.ne_of_lt (Nat.lt_of_lt_of_le (by have := World.block_lt_of_cell? _ _ hw0; first | rwa [add_block] at this | exact this) GE_gb5.out))) _).trans (((cell_far (p := ⟨gb5, _, none⟩) (by first | exact Nat.ne_of_lt (Nat.lt_of_lt_of_le (by have := World.block_lt_of_cell? _ _ hw0; first | rwa [add_block] at this | exact this) GE_gb5.out) | (rw [add_block]; exact Nat.ne_of_lt (Nat.lt_of_lt_of_le (by have := World.block_lt_of_cell? _ _ hw0; first | rwa [add_block] at this | exact this) GE_gb5.out)) | (show (Addr.add _ _).block ≠ _; rw [add_block]; exact Nat.ne_of_lt (Nat.lt_of_lt_of_le (by have := World.block_lt_of_cell? _ _ hw0; first | rwa [add_block] at this | exact this) GE_gb5.out)) | (dsimp only; exact Nat.ne_of_lt (Nat.lt_of_lt_of_le (by have := World.block_lt_of_cell? _ _ hw0; first | rwa [add_block] at this | exact this) GE_gb5.out))) _).trans (hHeld.2.2.2.2.2.2.1)))))))))))), ((cell_far (p := ⟨gb5, _, none⟩) (by first | exact Nat.ne_of_lt (Nat.lt_of_lt_of_le (by have := World.block_lt_of_cell? _ _ hw1; first | rwa [add_block] at this | exact this) GE_gb5.out) | (rw [add_block]; exact Nat.ne_of_lt (Nat.lt_of_lt_of_le (by have := World.block_lt_of_cell? _ _ hw1; first | rwa [add_block] at this | exact this) GE_gb5.out)) | (show (Addr.add _ _).block ≠ _; rw [add_block]; exact Nat.ne_of_lt (Nat.lt_of_lt_of_le (by have := World.block_lt_of_cell? _ _ hw1; first | rwa [add_block] at this | exact this) GE_gb5.out)) | (dsimp only; exact Nat.ne_of_lt (Nat.lt_of_lt_of_le (by have := World.block_lt_of_cell? _ _ hw1; first | rwa [add_block] at this | exact this) GE_gb5.out))) _).trans (((cell_far (p := ⟨gb5, _, none⟩) (by first | exact Nat.ne_of_lt (Nat.lt_of_lt_of_le (by have := World.block_lt_of_cell? _ _ hw1; first | rwa [add_block] at this | exact this) GE_gb5.out) | (rw [add_block]; exact Nat.ne_of_lt (Nat.lt_of_lt_of_le (by have := World.block_lt_of_cell? _ _ hw1; first | rwa [add_block] at this | exact this) GE_gb5.out)) | (show (Addr.add _ _).block ≠ _; rw [add_block]; exact Nat.ne_of_lt (Nat.lt_of_lt_of_le (by have := World.block_lt_of_cell? _ _ hw1; first | rwa [add_block] at this | exact this) GE_gb5.out)) | (dsimp only; exact Nat.ne_of_lt (Nat.lt_of_lt_of_le (by have := World.block_lt_of_cell? _ _ hw1; first | rwa [add_block] at this | exact this) GE_gb5.out))) _).trans (((cell_far (p := ⟨gb5, _, none⟩) (by first | exact Nat.ne_of_lt (Nat.lt_of_lt_of_le (by have := World.block_lt_of_cell? _ _ hw1; first | rwa [add_block] at this | exact this) GE_gb5.out) | (rw [add_block]; exact Nat.ne_of_lt (Nat.lt_of_lt_of_le (by have := World.block_lt_of_cell? _ _ hw1; first | rwa [add_block] at this | exact this) GE_gb5.out)) | (show (Addr.add _ _).block ≠ _; rw [add_block]; exact Nat.ne_of_lt (Nat.lt_of_lt_of_le (by have := World.block_lt_of_cell? _ _ hw1; first | rwa [add_block] at this | exact this) GE_gb5.out)) | (dsimp only; exact Nat.ne_of_lt (Nat.lt_of_lt_of_le (by have := World.block_lt_of_cell? _ _ hw1; first | rwa [add_block] at this | exact this) GE_gb5.out))) _).trans (((cell_far (p := ⟨gb5, _, none⟩) (by first | exact Nat.ne_of_lt (Nat.lt_of_lt_of_le (by have := World.block_lt_of_cell? _ _ hw1; first | rwa [add_block] at this | exact this) GE_gb5.out) | (rw [add_block]; exact Nat.ne_of_lt (Nat.lt_of_lt_of_le (by have := World.block_lt_of_cell? _ _ hw1; first | rwa [add_block] at this | exact this) GE_gb5.out)) | (show (Addr.add _ _).block ≠ _; rw [add_block]; exact Nat.ne_of_lt (Nat.lt_of_lt_of_le (by have := World.block_lt_of_cell? _ _ hw1; first | rwa [add_block] at this | exact this) GE_gb5.out)) | (dsimp only; exact Nat.ne_of_lt (Nat.lt_of_lt_of_le (by have := World.block_lt_of_cell? _ _ hw1; first | rwa [add_block] at this | exact this) GE_gb5.out))) _).trans (((cell_far (p := ⟨gb5, _, none⟩) (by first | exact Nat.ne_of_lt (Nat.lt_of_lt_of_le (by have := World.block_lt_of_cell? _ _ hw1; first | rwa [add_block] at this | exact this) GE_gb5.out) | (rw [add_block]; exact Nat.ne_of_lt (Nat.lt_of_lt_of_le (by have := World.block_lt_of_cell? _ _ hw1; first | rwa [add_block] at this | exact this) GE_gb5.out)) | (show (Addr.add _ _).block ≠ _; rw [add_block]; exact Nat.ne_of_lt (Nat.lt_of_lt_of_le (by have := World.block_lt_of_cell? _ _ hw1; first | rwa [add_block] at this | exact this) GE_gb5.out)) | (dsimp only; exact Nat.ne_of_lt (Nat.lt_of_lt_of_le (by have := World.block_lt_of_cell? _ _ hw1; first | rwa [add_block] at this | exact this) GE_gb5.out))) _).trans (((cell_far (p := ⟨gb5, _, none⟩) (by first | exact Nat.ne_of_lt (Nat.lt_of_lt_of_le (by have := World.block_lt_of_cell? _ _ hw1; first | rwa [add_block] at this | exact this) GE_gb5.out) | (rw [add_block]; exact Nat.ne_of_lt (Nat.lt_of_lt_of_le (by have := World.block_lt_of_cell? _ _ hw1; first | rwa [add_block] at this | exact this) GE_gb5.out)) | (show (Addr.add _ _).block ≠ _; rw [add_block]; exact Nat.ne_of_lt (Nat.lt_of_lt_of_le (by have := World.block_lt_of_cell? _ _ hw1; first | rwa [add_block] at this | exact this) GE_gb5.out)) | (dsimp only; exact Nat.ne_of_lt (Nat.lt_of_lt_of_le (by have := World.block_lt_of_cell? _ _ hw1; first | rwa [add_block] at this | exact this) GE_gb5.out))) _).trans (hHeld.2.2.2.2.2.2.2.1)))))))))))), ((cell_far (p := ⟨gb5, _, none⟩) (by first | exact Nat.ne_of_lt (Nat.lt_of_lt_of_le (by have := World.block_lt_of_cell? _ _ hw2; first | rwa [add_block] at this | exact this) GE_gb5.out) | (rw [add_block]; exact Nat.ne_of_lt (Nat.lt_of_lt_of_le (by have := World.block_lt_of_cell? _ _ hw2; first | rwa [add_block] at this | exact this) GE_gb5.out)) | (show (Addr.add _ _).block ≠ _; rw [add_block]; exact Nat.ne_of_lt (Nat.lt_of_lt_of_le (by have := World.block_lt_of_cell? _ _ hw2; first | rwa [add_block] at this | exact this) GE_gb5.out)) | (dsimp only; exact Nat.ne_of_lt (Nat.lt_of_lt_of_le (by have := World.block_lt_of_cell? _ _ hw2; first | rwa [add_block] at this | exact this) GE_gb5.out))) _).trans (((cell_far (p := ⟨gb5, _, none⟩) (by first | exact Nat.ne_of_lt (Nat.lt_of_lt_of_le (by have := World.block_lt_of_cell? _ _ hw2; first | rwa [add_block] at this | exact this) GE_gb5.out) | (rw [add_block]; exact Nat.ne_of_lt (Nat.lt_of_lt_of_le (by have := World.block_lt_of_cell? _ _ hw2; first | rwa [add_block] at this | exact this) GE_gb5.out)) | (show (Addr.add _ _).block ≠ _; rw [add_block]; exact Nat.ne_of_lt (Nat.lt_of_lt_of_le (by have := World.block_lt_of_cell? _ _ hw2; first | rwa [add_block] at this | exact this) GE_gb5.out)) | (dsimp only; exact Nat.ne_of_lt (Nat.lt_of_lt_of_le (by have := World.block_lt_of_cell? _ _ hw2; first | rwa [add_block] at this | exact this) GE_gb5.out))) _).trans (((cell_far (p := ⟨gb5, _, none⟩) (by first | exact Nat.ne_of_lt (Nat.lt_of_lt_of_le (by have := World.block_lt_of_cell? _ _ hw2; first | rwa [add_block] at this | exact this) GE_gb5.out) | (rw [add_block]; exact Nat.ne_of_lt (Nat.lt_of_lt_of_le (by have := World.block_lt_of_cell? _ _ hw2; first | rwa [add_block] at this | exact this) GE_gb5.out)) | (show (Addr.add _ _).block ≠ _; rw [add_block]; exact Nat.ne_of_lt (Nat.lt_of_lt_of_le (by have := World.block_lt_of_cell? _ _ hw2; first | rwa [add_block] at this | exact this) GE_gb5.out)) | (dsimp only; exact Nat.ne_of_lt (Nat.lt_of_lt_of_le (by have := World.block_lt_of_cell? _ _ hw2; first | rwa [add_block] at this | exact this) GE_gb5.out))) _).trans (((cell_far (p := ⟨gb5, _, none⟩) (by first | exact Nat.ne_of_lt (Nat.lt_of_lt_of_le (by have := World.block_lt_of_cell? _ _ hw2; first | rwa [add_block] at this | exact this) GE_gb5.out) | (rw [add_block]; exact Nat.ne_of_lt (Nat.lt_of_lt_of_le (by have := World.block_lt_of_cell? _ _ hw2; first | rwa [add_block] at this | exact this) GE_gb5.out)) | (show (Addr.add _ _).block ≠ _; rw [add_block]; exact Nat.ne_of_lt (Nat.lt_of_lt_of_le (by have := World.block_lt_of_cell? _ _ hw2; first | rwa [add_block] at this | exact this) GE_gb5.out)) | (dsimp only; exact Nat.ne_of_lt (Nat.lt_of_lt_of_le (by have := World.block_lt_of_cell? _ _ hw2; first | rwa [add_block] at this | exact this) GE_gb5.out))) _).trans (((cell_far (p := ⟨gb5, _, none⟩) (by first | exact Nat.ne_of_lt (Nat.lt_of_lt_of_le (by have := World.block_lt_of_cell? _ _ hw2; first | rwa [add_block] at this | exact this) GE_gb5.out) | (rw [add_block]; exact Nat.ne_of_lt (Nat.lt_of_lt_of_le (by have := World.block_lt_of_cell? _ _ hw2; first | rwa [add_block] at this | exact this) GE_gb5.out)) | (show (Addr.add _ _).block ≠ _; rw [add_block]; exact Nat.ne_of_lt (Nat.lt_of_lt_of_le (by have := World.block_lt_of_cell? _ _ hw2; first | rwa [add_block] at this | exact this) GE_gb5.out)) | (dsimp only; exact Nat.ne_of_lt (Nat.lt_of_lt_of_le (by have := World.block_lt_of_cell? _ _ hw2; first | rwa [add_block] at this | exact this) GE_gb5.out))) _).trans (((cell_far (p := ⟨gb5, _, none⟩) (by first | exact Nat.ne_of_lt (Nat.lt_of_lt_of_le (by have := World.block_lt_of_cell? _ _ hw2; first | rwa [add_block] at this | exact this) GE_gb5.out) | (rw [add_block]; exact Nat.ne_of_lt (Nat.lt_of_lt_of_le (by have := World.block_lt_of_cell? _ _ hw2; first | rwa [add_block] at this | exact this) GE_gb5.out)) | (show (Addr.add _ _).block ≠ _; rw [add_block]; exact Nat.ne_of_lt (Nat.lt_of_lt_of_le (by have := World.block_lt_of_cell? _ _ hw2; first | rwa [add_block] at this | exact this) GE_gb5.out)) | (dsimp only; exact Nat.ne_of_lt (Nat.lt_of_lt_of_le (by have := World.block_lt_of_cell? _ _ hw2; first | rwa [add_block] at this | exact this) GE_gb5.out))) _).trans (hHeld.2.2.2.2.2.2.2.2.1)))))))))))), ((cell_far (p := ⟨gb5, _, none⟩) (by first | exact Nat.ne_of_lt (Nat.lt_of_lt_of_le (by have := World.block_lt_of_cell? _ _ hw3; first | rwa [add_block] at this | exact this) GE_gb5.out) | (rw [add_block]; exact Nat.ne_of_lt (Nat.lt_of_lt_of_le (by have := World.block_lt_of_cell? _ _ hw3; first | rwa [add_block] at this | exact this) GE_gb5.out)) | (show (Addr.add _ _).block ≠ _; rw [add_block]; exact Nat.ne_of_lt (Nat.lt_of_lt_of_le (by have := World.block_lt_of_cell? _ _ hw3; first | rwa [add_block] at this | exact this) GE_gb5.out)) | (dsimp only; exact Nat.ne_of_lt (Nat.lt_of_lt_of_le (by have := World.block_lt_of_cell? _ _ hw3; first | rwa [add_block] at this | exact this) GE_gb5.out))) _).trans (((cell_far (p := ⟨gb5, _, none⟩) (by first | exact Nat.ne_of_lt (Nat.lt_of_lt_of_le (by have := World.block_lt_of_cell? _ _ hw3; first | rwa [add_block] at this | exact this) GE_gb5.out) | (rw [add_block]; exact Nat.ne_of_lt (Nat.lt_of_lt_of_le (by have := World.block_lt_of_cell? _ _ hw3; first | rwa [add_block] at this | exact this) GE_gb5.out)) | (show (Addr.add _ _).block ≠ _; rw [add_block]; exact Nat.ne_of_lt (Nat.lt_of_lt_of_le (by have := World.block_lt_of_cell? _ _ hw3; first | rwa [add_block] at this | exact this) GE_gb5.out)) | (dsimp only; exact Nat.ne_of_lt (Nat.lt_of_lt_of_le (by have := World.block_lt_of_cell? _ _ hw3; first | rwa [add_block] at this | exact this) GE_gb5.out))) _).trans (((cell_far (p := ⟨gb5, _, none⟩) (by first | exact Nat.ne_of_lt (Nat.lt_of_lt_of_le (by have := World.block_lt_of_cell? _ _ hw3; first | rwa [add_block] at this | exact this) GE_gb5.out) | (rw [add_block]; exact Nat.ne_of_lt (Nat.lt_of_lt_of_le (by have := World.block_lt_of_cell? _ _ hw3; first | rwa [add_block] at this | exact this) GE_gb5.out)) | (show (Addr.add _ _).block ≠ _; rw [add_block]; exact Nat.ne_of_lt (Nat.lt_of_lt_of_le (by have := World.block_lt_of_cell? _ _ hw3; first | rwa [add_block] at this | exact this) GE_gb5.out)) | (dsimp only; exact Nat.ne_of_lt (Nat.lt_of_lt_of_le (by have := World.block_lt_of_cell? _ _ hw3; first | rwa [add_block] at this | exact this) GE_gb5.out))) _).trans (((cell_far (p := ⟨gb5, _, none⟩) (by first | exact Nat.ne_of_lt (Nat.lt_of_lt_of_le (by have := World.block_lt_of_cell? _ _ hw3; first | rwa [add_block] at this | exact this) GE_gb5.out) | (rw [add_block]; exact Nat.ne_of_lt (Nat.lt_of_lt_of_le (by have := World.block_lt_of_cell? _ _ hw3; first | rwa [add_block] at this | exact this) GE_gb5.out)) | (show (Addr.add _ _).block ≠ _; rw [add_block]; exact Nat.ne_of_lt (Nat.lt_of_lt_of_le (by have := World.block_lt_of_cell? _ _ hw3; first | rwa [add_block] at this | exact this) GE_gb5.out)) | (dsimp only; exact Nat.ne_of_lt (Nat.lt_of_lt_of_le (by have := World.block_lt_of_cell? _ _ hw3; first | rwa [add_block] at this | exact this) GE_gb5.out))) _).trans (((cell_far (p := ⟨gb5, _, none⟩) (by first | exact Nat.ne_of_lt (Nat.lt_of_lt_of_le (by have := World.block_lt_of_cell? _ _ hw3; first | rwa [add_block] at this | exact this) GE_gb5.out) | (rw [add_block]; exact Nat.ne_of_lt (Nat.lt_of_lt_of_le (by have := World.block_lt_of_cell? _ _ hw3; first | rwa [add_block] at this | exact this) GE_gb5.out)) | (show (Addr.add _ _).block ≠ _; rw [add_block]; exact Nat.ne_of_lt (Nat.lt_of_lt_of_le (by have := World.block_lt_of_cell? _ _ hw3; first | rwa [add_block] at this | exact this) GE_gb5.out)) | (dsimp only; exact Nat.ne_of_lt (Nat.lt_of_lt_of_le (by have := World.block_lt_of_cell? _ _ hw3; first | rwa [add_block] at this | exact this) GE_gb5.out))) _).trans (((cell_far (p := ⟨gb5, _, none⟩) (by first | exact Nat.ne_of_lt (Nat.lt_of_lt_of_le (by have := World.block_lt_of_cell? _ _ hw3; first | rwa [add_block] at this | exact this) GE_gb5.out) | (rw [add_block]; exact Nat.ne_of_lt (Nat.lt_of_lt_of_le (by have := World.block_lt_of_cell? _ _ hw3; first | rwa [add_block] at this | exact this) GE_gb5.out)) | (show (Addr.add _ _).block ≠ _; rw [add_block]; exact Nat.ne_of_lt (Nat.lt_of_lt_of_le (by have := World.block_lt_of_cell? _ _ hw3; first | rwa [add_block] at this | exact this) GE_gb5.out)) | (dsimp only; exact Nat.ne_of_lt (Nat.lt_of_lt_of_le (by have := World.block_lt_of_cell? _ _ hw3; first | rwa [add_block] at this | exact this) GE_gb5.out))) _).trans (hHeld.2.2.2.2.2.2.2.2.2.1)))))))))))), ((cell_far (p := ⟨gb5, _, none⟩) (by first | exact Nat.ne_of_lt (Nat.lt_of_lt_of_le (by have := World.block_lt_of_cell? _ _ hw4; first | rwa [add_block] at this | exact this) GE_gb5.out) | (rw [add_block]; exact Nat.ne_of_lt (Nat.lt_of_lt_of_le (by have := World.block_lt_of_cell? _ _ hw4; first | rwa [add_block] at this | exact this) GE_gb5.out)) | (show (Addr.add _ _).block ≠ _; rw [add_block]; exact Nat.ne_of_lt (Nat.lt_of_lt_of_le (by have := World.block_lt_of_cell? _ _ hw4; first | rwa [add_block] at this | exact this) GE_gb5.out)) | (dsimp only; exact Nat.ne_of_lt (Nat.lt_of_lt_of_le (by have := World.block_lt_of_cell? _ _ hw4; first | rwa [add_block] at this | exact this) GE_gb5.out))) _).trans (((cell_far (p := ⟨gb5, _, none⟩) (by first | exact Nat.ne_of_lt (Nat.lt_of_lt_of_le (by have := World.block_lt_of_cell? _ _ hw4; first | rwa [add_block] at this | exact this) GE_gb5.out) | (rw [add_block]; exact Nat.ne_of_lt (Nat.lt_of_lt_of_le (by have := World.block_lt_of_cell? _ _ hw4; first | rwa [add_block] at this | exact this) GE_gb5.out)) | (show (Addr.add _ _).block ≠ _; rw [add_block]; exact Nat.ne_of_lt (Nat.lt_of_lt_of_le (by have := World.block_lt_of_cell? _ _ hw4; first | rwa [add_block] at this | exact this) GE_gb5.out)) | (dsimp only; exact Nat.ne_of_lt (Nat.lt_of_lt_of_le (by have := World.block_lt_of_cell? _ _ hw4; first | rwa [add_block] at this | exact this) GE_gb5.out))) _).trans (((cell_far (p := ⟨gb5, _, none⟩) (by first | exact Nat.ne_of_lt (Nat.lt_of_lt_of_le (by have := World.block_lt_of_cell? _ _ hw4; first | rwa [add_block] at this | exact this) GE_gb5.out) | (rw [add_block]; exact Nat.ne_of_lt (Nat.lt_of_lt_of_le (by have := World.block_lt_of_cell? _ _ hw4; first | rwa [add_block] at this | exact this) GE_gb5.out)) | (show (Addr.add _ _).block ≠ _; rw [add_block]; exact Nat.ne_of_lt (Nat.lt_of_lt_of_le (by have := World.block_lt_of_cell? _ _ hw4; first | rwa [add_block] at this | exact this) GE_gb5.out)) | (dsimp only; exact Nat.ne_of_lt (Nat.lt_of_lt_of_le (by have := World.block_lt_of_cell? _ _ hw4; first | rwa [add_block] at this | exact this) GE_gb5.out))) _).trans (((cell_far (p := ⟨gb5, _, none⟩) (by first | exact Nat.ne_of_lt (Nat.lt_of_lt_of_le (by have := World.block_lt_of_cell? _ _ hw4; first | rwa [add_block] at this | exact this) GE_gb5.out) | (rw [add_block]; exact Nat.ne_of_lt (Nat.lt_of_lt_of_le (by have := World.block_lt_of_cell? _ _ hw4; first | rwa [add_block] at this | exact this) GE_gb5.out)) | (show (Addr.add _ _).block ≠ _; rw [add_block]; exact Nat.ne_of_lt (Nat.lt_of_lt_of_le (by have := World.block_lt_of_cell? _ _ hw4; first | rwa [add_block] at this | exact this) GE_gb5.out)) | (dsimp only; exact Nat.ne_of_lt (Nat.lt_of_lt_of_le (by have := World.block_lt_of_cell? _ _ hw4; first | rwa [add_block] at this | exact this) GE_gb5.out))) _).trans (((cell_far (p := ⟨gb5, _, none⟩) (by first | exact Nat.ne_of_lt (Nat.lt_of_lt_of_le (by have := World.block_lt_of_cell? _ _ hw4; first | rwa [add_block] at this | exact this) GE_gb5.out) | (rw [add_block]; exact Nat.ne_of_lt (Nat.lt_of_lt_of_le (by have := World.block_lt_of_cell? _ _ hw4; first | rwa [add_block] at this | exact this) GE_gb5.out)) | (show (Addr.add _ _).block ≠ _; rw [add_block]; exact Nat.ne_of_lt (Nat.lt_of_lt_of_le (by have := World.block_lt_of_cell? _ _ hw4; first | rwa [add_block] at this | exact this) GE_gb5.out)) | (dsimp only; exact Nat.ne_of_lt (Nat.lt_of_lt_of_le (by have := World.block_lt_of_cell? _ _ hw4; first | rwa [add_block] at this | exact this) GE_gb5.out))) _).trans (((cell_far (p := ⟨gb5, _, none⟩) (by first | exact Nat.ne_of_lt (Nat.lt_of_lt_of_le (by have := World.block_lt_of_cell? _ _ hw4; first | rwa [add_block] at this | exact this) GE_gb5.out) | (rw [add_block]; exact Nat.ne_of_lt (Nat.lt_of_lt_of_le (by have := World.block_lt_of_cell? _ _ hw4; first | rwa [add_block] at this | exact this) GE_gb5.out)) | (show (Addr.add _ _).block ≠ _; rw [add_block]; exact Nat.ne_of_lt (Nat.lt_of_lt_of_le (by have := World.block_lt_of_cell? _ _ hw4; first | rwa [add_block] at this | exact this) GE_gb5.out)) | (dsimp only; exact Nat.ne_of_lt (Nat.lt_of_lt_of_le (by have := World.block_lt_of_cell? _ _ hw4; first | rwa [add_block] at this | exact this) GE_gb5.out))) _).trans (hHeld.2.2.2.2.2.2.2.2.2.2.1)))))))))))), ((cell_far (p := ⟨gb5, _, none⟩) (by first | exact Nat.ne_of_lt (Nat.lt_of_lt_of_le (by have := World.block_lt_of_cell? _ _ hw5; first | rwa [add_block] at this | exact this) GE_gb5.out) | (rw [add_block]; exact Nat.ne_of_lt (Nat.lt_of_lt_of_le (by have := World.block_lt_of_cell? _ _ hw5; first | rwa [add_block] at this | exact this) GE_gb5.out)) | (show (Addr.add _ _).block ≠ _; rw [add_block]; exact Nat.ne_of_lt (Nat.lt_of_lt_of_le (by have := World.block_lt_of_cell? _ _ hw5; first | rwa [add_block] at this | exact this) GE_gb5.out)) | (dsimp only; exact Nat.ne_of_lt (Nat.lt_of_lt_of_le (by have := World.block_lt_of_cell? _ _ hw5; first | rwa [add_block] at this | exact this) GE_gb5.out))) _).trans (((cell_far (p := ⟨gb5, _, none⟩) (by first | exact Nat.ne_of_lt (Nat.lt_of_lt_of_le (by have := World.block_lt_of_cell? _ _ hw5; first | rwa [add_block] at this | exact this) GE_gb5.out) | (rw [add_block]; exact Nat.ne_of_lt (Nat.lt_of_lt_of_le (by have := World.block_lt_of_cell? _ _ hw5; first | rwa [add_block] at this | exact this) GE_gb5.out)) | (show (Addr.add _ _).block ≠ _; rw [add_block]; exact Nat.ne_of_lt (Nat.lt_of_lt_of_le (by have := World.block_lt_of_cell? _ _ hw5; first | rwa [add_block] at this | exact this) GE_gb5.out)) | (dsimp only; exact Nat.ne_of_lt (Nat.lt_of_lt_of_le (by have := World.block_lt_of_cell? _ _ hw5; first | rwa [add_block] at this | exact this) GE_gb5.out))) _).trans (((cell_far (p := ⟨gb5, _, none⟩) (by first | exact Nat.ne_of_lt (Nat.lt_of_lt_of_le (by have := World.block_lt_of_cell? _ _ hw5; first | rwa [add_block] at this | exact this) GE_gb5.out) | (rw [add_block]; exact Nat.ne_of_lt (Nat.lt_of_lt_of_le (by have := World.block_lt_of_cell? _ _ hw5; first | rwa [add_block] at this | exact this) GE_gb5.out)) | (show (Addr.add _ _).block ≠ _; rw [add_block]; exact Nat.ne_of_lt (Nat.lt_of_lt_of_le (by have := World.block_lt_of_cell? _ _ hw5; first | rwa [add_block] at this | exact this) GE_gb5.out)) | (dsimp only; exact Nat.ne_of_lt (Nat.lt_of_lt_of_le (by have := World.block_lt_of_cell? _ _ hw5; first | rwa [add_block] at this | exact this) GE_gb5.out))) _).trans (((cell_far (p := ⟨gb5, _, none⟩) (by first | exact Nat.ne_of_lt (Nat.lt_of_lt_of_le (by have := World.block_lt_of_cell? _ _ hw5; first | rwa [add_block] at this | exact this) GE_gb5.out) | (rw [add_block]; exact Nat.ne_of_lt (Nat.lt_of_lt_of_le (by have := World.block_lt_of_cell? _ _ hw5; first | rwa [add_block] at this | exact this) GE_gb5.out)) | (show (Addr.add _ _).block ≠ _; rw [add_block]; exact Nat.ne_of_lt (Nat.lt_of_lt_of_le (by have := World.block_lt_of_cell? _ _ hw5; first | rwa [add_block] at this | exact this) GE_gb5.out)) | (dsimp only; exact Nat.ne_of_lt (Nat.lt_of_lt_of_le (by have := World.block_lt_of_cell? _ _ hw5; first | rwa [add_block] at this | exact this) GE_gb5.out))) _).trans (((cell_far (p := ⟨gb5, _, none⟩) (by first | exact Nat.ne_of_lt (Nat.lt_of_lt_of_le (by have := World.block_lt_of_cell? _ _ hw5; first | rwa [add_block] at this | exact this) GE_gb5.out) | (rw [add_block]; exact Nat.ne_of_lt (Nat.lt_of_lt_of_le (by have := World.block_lt_of_cell? _ _ hw5; first | rwa [add_block] at this | exact this) GE_gb5.out)) | (show (Addr.add _ _).block ≠ _; rw [add_block]; exact Nat.ne_of_lt (Nat.lt_of_lt_of_le (by have := World.block_lt_of_cell? _ _ hw5; first | rwa [add_block] at this | exact this) GE_gb5.out)) | (dsimp only; exact Nat.ne_of_lt (Nat.lt_of_lt_of_le (by have := World.block_lt_of_cell? _ _ hw5; first | rwa [add_block] at this | exact this) GE_gb5.out))) _).trans (((cell_far (p := ⟨gb5, _, none⟩) (by first | exact Nat.ne_of_lt (Nat.lt_of_lt_of_le (by have := World.block_lt_of_cell? _ _ hw5; first | rwa [add_block] at this | exact this) GE_gb5.out) | (rw [add_block]; exact Nat.ne_of_lt (Nat.lt_of_lt_of_le (by have := World.block_lt_of_cell? _ _ hw5; first | rwa [add_block] at this | exact this) GE_gb5.out)) | (show (Addr.add _ _).block ≠ _; rw [add_block]; exact Nat.ne_of_lt (Nat.lt_of_lt_of_le (by have := World.block_lt_of_cell? _ _ hw5; first | rwa [add_block] at this | exact this) GE_gb5.out)) | (dsimp only; exact Nat.ne_of_lt (Nat.lt_of_lt_of_le (by have := World.block_lt_of_cell? _ _ hw5; first | rwa [add_block] at this | exact this) GE_gb5.out))) _).trans (hHeld.2.2.2.2.2.2.2.2.2.2.2))))))))))))⟩ (fun hHeld => ?_)
    clear hK K
    refine pure_ (i := 8) (N := some 6) (v := ?_) (a' := ?_) #[true, true, true, true, true, true, true, true, true] rfl rfl (any_of HT_.out (by kernel_rfl)) (fun _ _ _ h => h) (Or.inl ⟨by rfl, ?_⟩) ?_ ?_
    rotate_left
    · intro w'
      go_simp
      with_reducible rfl
    rotate_left
    · simp only [Act.put, List.setIfInBounds_toArray, List.set_cons_zero, List.set_cons_succ, i64_w, i32_w]
      rfl
    refine done_ (done_of HT_.out (by kernel_rfl)) ?_
    have bk2_0 := (blk_cell BK2.out 0).trans (show _ = some (.slice A0_0 l0_0.length c0_0) from rfl); have bk2_1 := (blk_cell BK2.out 1).trans (show _ = some (.slice (some ad) l0_1.length c0_1) from rfl); have bk2_2 := (blk_cell BK2.out 2).trans (show _ = some (.int .i64 a0_2) from rfl); have bk4_0 := (blk_cell BK4.out 0).trans (show _ = some (.slice none 0 0) from rfl); have bk4_1 := (blk_cell BK4.out 1).trans (show _ = some (.slice none 0 0) from rfl); have bk4_2 := (blk_cell BK4.out 2).trans (show _ = some (.int .i64 0) from rfl); have bk5_0 := (blk_cell BK5.out 0).trans (show _ = some (.int .i64 0) from rfl); have bk5_1 := (blk_cell BK5.out 1).trans (show _ = some (.int .i64 0) from rfl); have bk5_2 := (blk_cell BK5.out 2).trans (show _ = some (.int .u64 0) from rfl); have bk5_3 := (blk_cell BK5.out 3).trans (show _ = some (.int .u64 0) from rfl); have bk5_4 := (blk_cell BK5.out 4).trans (show _ = some (.int .u8 0) from rfl); have bk5_5 := (blk_cell BK5.out 5).trans (show _ = some (.int .i64 0) from rfl); have bk7_0 := (blk_cell BK7.out 0).trans (show _ = some (.slice Ax l0_0.length cx) from rfl); have bk7_1 := (blk_cell BK7.out 1).trans (show _ = some (.slice (some ⟨gy, 0, none⟩) l1.length cy) from rfl); have bk7_2 := (blk_cell BK7.out 2).trans (show _ = some (.int .i64 a0_2) from rfl); have bk2_f := fun i => blk_frozen BK2.out i; have bk4_f := fun i => blk_frozen BK4.out i; have bk5_f := fun i => blk_frozen BK5.out i; have bk7_f := fun i => blk_frozen BK7.out i
    go_wp2
    clear bk2_0 bk2_1 bk2_2 bk2_f bk4_0 bk4_1 bk4_2 bk4_f bk5_0 bk5_1 bk5_2 bk5_3 bk5_4 bk5_5 bk5_f bk7_0 bk7_1 bk7_2 bk7_f
    have s0_HO0 := Kd.R_set HO0.out BK4.out (by decide) 0 (.slice Ax l0_0.length cx)
    have s0_HO1 := Kd.R_set HO1.out BK4.out (by decide) 0 (.slice Ax l0_0.length cx)
    have s0_BK2 := blk_far BK2.out (p := ⟨gb4, 0, none⟩) NE_gb2_gb4.out (.slice Ax l0_0.length cx)
    have s0_BK4 := blk_put (cs' := #[.slice Ax l0_0.length cx, .slice none 0 0, .int .i64 0]) BK4.out 0 (.slice Ax l0_0.length cx) rfl
    have s0_BK5 := blk_far BK5.out (p := ⟨gb4, 0, none⟩) (Ne.symm NE_gb4_gb5.out) (.slice Ax l0_0.length cx)
    have s0_BK7 := blk_far BK7.out (p := ⟨gb4, 0, none⟩) (Ne.symm NE_gb4_gb7.out) (.slice Ax l0_0.length cx)
    have s0_HB := below_set (j := 0) (v := .slice Ax l0_0.length cx) HB.out GE_gb4.out
    have s1_HO0 := Kd.R_set s0_HO0 s0_BK4 (by decide) 1 (.slice (some ⟨gy, 0, none⟩) l1.length cy)
    have s1_HO1 := Kd.R_set s0_HO1 s0_BK4 (by decide) 1 (.slice (some ⟨gy, 0, none⟩) l1.length cy)
    have s1_BK2 := blk_far s0_BK2 (p := ⟨gb4, 1, none⟩) NE_gb2_gb4.out (.slice (some ⟨gy, 0, none⟩) l1.length cy)
    have s1_BK4 := blk_put (cs' := #[.slice Ax l0_0.length cx, .slice (some ⟨gy, 0, none⟩) l1.length cy, .int .i64 0]) s0_BK4 1 (.slice (some ⟨gy, 0, none⟩) l1.length cy) rfl
    have s1_BK5 := blk_far s0_BK5 (p := ⟨gb4, 1, none⟩) (Ne.symm NE_gb4_gb5.out) (.slice (some ⟨gy, 0, none⟩) l1.length cy)
    have s1_BK7 := blk_far s0_BK7 (p := ⟨gb4, 1, none⟩) (Ne.symm NE_gb4_gb7.out) (.slice (some ⟨gy, 0, none⟩) l1.length cy)
    have s1_HB := below_set (j := 1) (v := .slice (some ⟨gy, 0, none⟩) l1.length cy) s0_HB GE_gb4.out
    have s2_HO0 := Kd.R_set s1_HO0 s1_BK4 (by decide) 2 (.int .i64 a0_2)
    have s2_HO1 := Kd.R_set s1_HO1 s1_BK4 (by decide) 2 (.int .i64 a0_2)
    have s2_BK2 := blk_far s1_BK2 (p := ⟨gb4, 2, none⟩) NE_gb2_gb4.out (.int .i64 a0_2)
    have s2_BK4 := blk_put (cs' := #[.slice Ax l0_0.length cx, .slice (some ⟨gy, 0, none⟩) l1.length cy, .int .i64 a0_2]) s1_BK4 2 (.int .i64 a0_2) rfl
    have s2_BK5 := blk_far s1_BK5 (p := ⟨gb4, 2, none⟩) (Ne.symm NE_gb4_gb5.out) (.int .i64 a0_2)
    have s2_BK7 := blk_far s1_BK7 (p := ⟨gb4, 2, none⟩) (Ne.symm NE_gb4_gb7.out) (.int .i64 a0_2)
    have s2_HB := below_set (j := 2) (v := .int .i64 a0_2) s1_HB GE_gb4.out
    have s3_HO0 := far_set (p := ⟨gb5, 0, none⟩) s2_HO0 (X5.out) (.int .i64 mm.f0)
    have s3_HO1 := far_set (p := ⟨gb5, 0, none⟩) s2_HO1 (Y5.out) (.int .i64 mm.f0)
    have s3_BK2 := blk_far s2_BK2 (p := ⟨gb5, 0, none⟩) NE_gb2_gb5.out (.int .i64 mm.f0)
    have s3_BK4 := blk_far s2_BK4 (p := ⟨gb5, 0, none⟩) NE_gb4_gb5.out (.int .i64 mm.f0)
    have s3_BK5 := blk_put (cs' := #[.int .i64 mm.f0, .int .i64 0, .int .u64 0, .int .u64 0, .int .u8 0, .int .i64 0]) s2_BK5 0 (.int .i64 mm.f0) rfl
    have s3_BK7 := blk_far s2_BK7 (p := ⟨gb5, 0, none⟩) (Ne.symm NE_gb5_gb7.out) (.int .i64 mm.f0)
    have s3_HB := below_set (j := 0) (v := .int .i64 mm.f0) s2_HB GE_gb5.out
    have s4_HO0 := far_set (p := ⟨gb5, 1, none⟩) s3_HO0 (X5.out) (.int .i64 mm.f1)
    have s4_HO1 := far_set (p := ⟨gb5, 1, none⟩) s3_HO1 (Y5.out) (.int .i64 mm.f1)
    have s4_BK2 := blk_far s3_BK2 (p := ⟨gb5, 1, none⟩) NE_gb2_gb5.out (.int .i64 mm.f1)
    have s4_BK4 := blk_far s3_BK4 (p := ⟨gb5, 1, none⟩) NE_gb4_gb5.out (.int .i64 mm.f1)
    have s4_BK5 := blk_put (cs' := #[.int .i64 mm.f0, .int .i64 mm.f1, .int .u64 0, .int .u64 0, .int .u8 0, .int .i64 0]) s3_BK5 1 (.int .i64 mm.f1) rfl
    have s4_BK7 := blk_far s3_BK7 (p := ⟨gb5, 1, none⟩) (Ne.symm NE_gb5_gb7.out) (.int .i64 mm.f1)
    have s4_HB := below_set (j := 1) (v := .int .i64 mm.f1) s3_HB GE_gb5.out
    have s5_HO0 := far_set (p := ⟨gb5, 2, none⟩) s4_HO0 (X5.out) (.int .u64 mm.f2)
    have s5_HO1 := far_set (p := ⟨gb5, 2, none⟩) s4_HO1 (Y5.out) (.int .u64 mm.f2)
    have s5_BK2 := blk_far s4_BK2 (p := ⟨gb5, 2, none⟩) NE_gb2_gb5.out (.int .u64 mm.f2)
    have s5_BK4 := blk_far s4_BK4 (p := ⟨gb5, 2, none⟩) NE_gb4_gb5.out (.int .u64 mm.f2)
    have s5_BK5 := blk_put (cs' := #[.int .i64 mm.f0, .int .i64 mm.f1, .int .u64 mm.f2, .int .u64 0, .int .u8 0, .int .i64 0]) s4_BK5 2 (.int .u64 mm.f2) rfl
    have s5_BK7 := blk_far s4_BK7 (p := ⟨gb5, 2, none⟩) (Ne.symm NE_gb5_gb7.out) (.int .u64 mm.f2)
    have s5_HB := below_set (j := 2) (v := .int .u64 mm.f2) s4_HB GE_gb5.out
    have s6_HO0 := far_set (p := ⟨gb5, 3, none⟩) s5_HO0 (X5.out) (.int .u64 mm.f3)
    have s6_HO1 := far_set (p := ⟨gb5, 3, none⟩) s5_HO1 (Y5.out) (.int .u64 mm.f3)
    have s6_BK2 := blk_far s5_BK2 (p := ⟨gb5, 3, none⟩) NE_gb2_gb5.out (.int .u64 mm.f3)
    have s6_BK4 := blk_far s5_BK4 (p := ⟨gb5, 3, none⟩) NE_gb4_gb5.out (.int .u64 mm.f3)
    have s6_BK5 := blk_put (cs' := #[.int .i64 mm.f0, .int .i64 mm.f1, .int .u64 mm.f2, .int .u64 mm.f3, .int .u8 0, .int .i64 0]) s5_BK5 3 (.int .u64 mm.f3) rfl
    have s6_BK7 := blk_far s5_BK7 (p := ⟨gb5, 3, none⟩) (Ne.symm NE_gb5_gb7.out) (.int .u64 mm.f3)
    have s6_HB := below_set (j := 3) (v := .int .u64 mm.f3) s5_HB GE_gb5.out
    have s7_HO0 := far_set (p := ⟨gb5, 4, none⟩) s6_HO0 (X5.out) (.int .u8 mm.f4)
    have s7_HO1 := far_set (p := ⟨gb5, 4, none⟩) s6_HO1 (Y5.out) (.int .u8 mm.f4)
    have s7_BK2 := blk_far s6_BK2 (p := ⟨gb5, 4, none⟩) NE_gb2_gb5.out (.int .u8 mm.f4)
    have s7_BK4 := blk_far s6_BK4 (p := ⟨gb5, 4, none⟩) NE_gb4_gb5.out (.int .u8 mm.f4)
    have s7_BK5 := blk_put (cs' := #[.int .i64 mm.f0, .int .i64 mm.f1, .int .u64 mm.f2, .int .u64 mm.f3, .int .u8 mm.f4, .int .i64 0]) s6_BK5 4 (.int .u8 mm.f4) rfl
    have s7_BK7 := blk_far s6_BK7 (p := ⟨gb5, 4, none⟩) (Ne.symm NE_gb5_gb7.out) (.int .u8 mm.f4)
    have s7_HB := below_set (j := 4) (v := .int .u8 mm.f4) s6_HB GE_gb5.out
    have s8_HO0 := far_set (p := ⟨gb5, 5, none⟩) s7_HO0 (X5.out) (.int .i64 mm.f5)
    have s8_HO1 := far_set (p := ⟨gb5, 5, none⟩) s7_HO1 (Y5.out) (.int .i64 mm.f5)
    have s8_BK2 := blk_far s7_BK2 (p := ⟨gb5, 5, none⟩) NE_gb2_gb5.out (.int .i64 mm.f5)
    have s8_BK4 := blk_far s7_BK4 (p := ⟨gb5, 5, none⟩) NE_gb4_gb5.out (.int .i64 mm.f5)
    have s8_BK5 := blk_put (cs' := #[.int .i64 mm.f0, .int .i64 mm.f1, .int .u64 mm.f2, .int .u64 mm.f3, .int .u8 mm.f4, .int .i64 mm.f5]) s7_BK5 5 (.int .i64 mm.f5) rfl
    have s8_BK7 := blk_far s7_BK7 (p := ⟨gb5, 5, none⟩) (Ne.symm NE_gb5_gb7.out) (.int .i64 mm.f5)
    have s8_HB := below_set (j := 5) (v := .int .i64 mm.f5) s7_HB GE_gb5.out
    have n_BK2 := Aside0.mk s8_BK2
    have n_BK4 := Aside0.mk s8_BK4
    have n_BK5 := Aside0.mk s8_BK5
    have n_BK7 := Aside0.mk s8_BK7
    have n_HO0 := Aside0.mk s8_HO0
    have n_HO1 := Aside0.mk s8_HO1
    have n_HB := Aside0.mk s8_HB
    clear s0_BK2 s0_BK4 s0_BK5 s0_BK7 s0_HO0 s0_HO1 s0_HB
    clear s1_BK2 s1_BK4 s1_BK5 s1_BK7 s1_HO0 s1_HO1 s1_HB
    clear s2_BK2 s2_BK4 s2_BK5 s2_BK7 s2_HO0 s2_HO1 s2_HB
    clear s3_BK2 s3_BK4 s3_BK5 s3_BK7 s3_HO0 s3_HO1 s3_HB
    clear s4_BK2 s4_BK4 s4_BK5 s4_BK7 s4_HO0 s4_HO1 s4_HB
    clear s5_BK2 s5_BK4 s5_BK5 s5_BK7 s5_HO0 s5_HO1 s5_HB
    clear s6_BK2 s6_BK4 s6_BK5 s6_BK7 s6_HO0 s6_HO1 s6_HB
    clear s7_BK2 s7_BK4 s7_BK5 s7_BK7 s7_HO0 s7_HO1 s7_HB
    clear s8_BK2 s8_BK4 s8_BK5 s8_BK7 s8_HO0 s8_HO1 s8_HB
    clear BK2 BK4 BK5 BK7 HO0 HO1 HB
    generalize (((((((((w8.setCell ⟨gb4, 0, none⟩ (.slice Ax l0_0.length cx)).setCell ⟨gb4, 1, none⟩ (.slice (some ⟨gy, 0, none⟩) l1.length cy)).setCell ⟨gb4, 2, none⟩ (.int .i64 a0_2)).setCell ⟨gb5, 0, none⟩ (.int .i64 mm.f0)).setCell ⟨gb5, 1, none⟩ (.int .i64 mm.f1)).setCell ⟨gb5, 2, none⟩ (.int .u64 mm.f2)).setCell ⟨gb5, 3, none⟩ (.int .u64 mm.f3)).setCell ⟨gb5, 4, none⟩ (.int .u8 mm.f4)).setCell ⟨gb5, 5, none⟩ (.int .i64 mm.f5)) = w12 at n_BK2 n_BK4 n_BK5 n_BK7 n_HO0 n_HO1 n_HB ⊢
    have BK2 := n_BK2
    have BK4 := n_BK4
    have BK5 := n_BK5
    have BK7 := n_BK7
    have HO0 := n_HO0
    have HO1 := n_HO1
    have HB := n_HB
    clear n_BK2 n_BK4 n_BK5 n_BK7 n_HO0 n_HO1 n_HB
    have bk2_0 := (blk_cell BK2.out 0).trans (show _ = some (.slice A0_0 l0_0.length c0_0) from rfl); have bk2_1 := (blk_cell BK2.out 1).trans (show _ = some (.slice (some ad) l0_1.length c0_1) from rfl); have bk2_2 := (blk_cell BK2.out 2).trans (show _ = some (.int .i64 a0_2) from rfl); have bk4_0 := (blk_cell BK4.out 0).trans (show _ = some (.slice Ax l0_0.length cx) from rfl); have bk4_1 := (blk_cell BK4.out 1).trans (show _ = some (.slice (some ⟨gy, 0, none⟩) l1.length cy) from rfl); have bk4_2 := (blk_cell BK4.out 2).trans (show _ = some (.int .i64 a0_2) from rfl); have bk5_0 := (blk_cell BK5.out 0).trans (show _ = some (.int .i64 mm.f0) from rfl); have bk5_1 := (blk_cell BK5.out 1).trans (show _ = some (.int .i64 mm.f1) from rfl); have bk5_2 := (blk_cell BK5.out 2).trans (show _ = some (.int .u64 mm.f2) from rfl); have bk5_3 := (blk_cell BK5.out 3).trans (show _ = some (.int .u64 mm.f3) from rfl); have bk5_4 := (blk_cell BK5.out 4).trans (show _ = some (.int .u8 mm.f4) from rfl); have bk5_5 := (blk_cell BK5.out 5).trans (show _ = some (.int .i64 mm.f5) from rfl); have bk7_0 := (blk_cell BK7.out 0).trans (show _ = some (.slice Ax l0_0.length cx) from rfl); have bk7_1 := (blk_cell BK7.out 1).trans (show _ = some (.slice (some ⟨gy, 0, none⟩) l1.length cy) from rfl); have bk7_2 := (blk_cell BK7.out 2).trans (show _ = some (.int .i64 a0_2) from rfl); have bk2_f := fun i => blk_frozen BK2.out i; have bk4_f := fun i => blk_frozen BK4.out i; have bk5_f := fun i => blk_frozen BK5.out i; have bk7_f := fun i => blk_frozen BK7.out i
    refine bodyPost_ret (results_list (rs := [.cell 4 58, .cell 5 65, .tmp 6]) rfl (by simp) (.cell gb4 58 #[.slice Ax l0_0.length cx, .slice (some ⟨gy, 0, none⟩) l1.length cy, .int .i64 a0_2] (0, 0) _ rfl BK4.out Try.underlying58 rfl (by kernel_rfl) (.cell gb5 65 #[.int .i64 mm.f0, .int .i64 mm.f1, .int .u64 mm.f2, .int .u64 mm.f3, .int .u8 mm.f4, .int .i64 mm.f5] (0, 0) _ rfl BK5.out Try.underlying65 rfl (by kernel_rfl) (.tmp .nil)))) rfl ?_
    exact ⟨_, _, by rw [HMM.out]; rfl, Kd.R_reok rfl HO0.out (ap0 HAP3.out), by rw [HLL.out]; exact Kd.R_reok rfl HO1.out (ap1 HAP3.out), HB.out⟩

end Go.Proofs.Ythlahhkjoocigaa.XQueue
