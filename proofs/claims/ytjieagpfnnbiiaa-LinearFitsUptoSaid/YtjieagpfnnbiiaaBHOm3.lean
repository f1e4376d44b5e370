/- slices.Delete of a pair. -/
import Derived.Test.YtjieagpfnnbiiaaBHOm2
namespace Go.Proofs.Ytjieagpfnnbiiaa.XLin
open Go Go.RowKit Go.Proofs.YtjieagpfnnbiiaaW.PrintWords Go.Proofs.YtjieagpfnnbiiaaW.PrintLast Go.Proofs.YtjieagpfnnbiiaaW.PrintMore
open Go.Proofs.Ytjieagpfnnbiiaa
set_option linter.unusedVariables false
set_option linter.unusedSimpArgs false
theorem cut_lhm {P : Program} {t e : TypeId} {i : TypeInfo} (ht : P.underlying t = some (.slice e)) (hi : P.info? e = some i) (A : Option Addr) (n c : Nat) (a b m : Int) (h0 : 0 ≤ a) (h1 : a ≤ b) (h2 : b ≤ m) (h3 : m ≤ c) :
    ∃ v, ∀ W : World, (Instr.slice t (.slice A n c) (some (.int .i64 a)) (some (.int .i64 b)) (some (.int .i64 m))).run P W = .ok v W := by
  have hel : P.elem t = e := by simp [Program.elem, ht]
  have hu : P.underlying t = some (.slice (P.elem t)) := by rw [hel]; exact ht
  refine ⟨sliced A a.toNat b.toNat m.toNat i.size, fun W => ?_⟩
  rw [run_slice_lhm W t A n c hu .i64 .i64 .i64 a b m h0 h1 h2 h3, hel]
  simp [sizeOf, typeInfo, hi, Result.andThen]
def zeros25 : List Value := [.string ⟨#[]⟩, .string ⟨#[]⟩]
theorem clear_one {P : Program} (w : World) (t e ty : TypeId) (ht : P.underlying t = some (.slice e)) (hv : ∀ w, (zeroValue e).run P w = .ok (.agg zeros25.toArray) w) (b o c : Nat)
    (hc : ∀ j, j < 2 → (w.cell? ⟨b, o + j, none⟩).isSome = true) (hf : ∀ j, j < 2 → w.frozen? ⟨b, o + j, none⟩ = false) :
    (Builtin.clear_ #[t] ty #[.slice (some ⟨b, o, none⟩) 1 c]).run P w = .ok (.tuple #[]) (w.setCells b o zeros25) := by
  have hzc : (Builtin.zeroCells (Value.agg zeros25.toArray).cells 1).toList = zeros25 := by kernel_rfl
  have hst := run_storeCells_cells (P := P) b o zeros25 0 w (fun j hj => hc j hj) (fun j hj => hf j hj) (by intro v hv; simp only [zeros25, List.mem_cons, List.mem_nil_iff, or_false] at hv; rcases hv with rfl | rfl <;> rfl)
  simp only [Nat.add_zero] at hst
  simp [Builtin.clear_, run_underlying ht, hv, hzc, hst]
/-- Cells behind a row are stored. -/
theorem R_spare {W : World} {base g n c : Nat} {ok : Nat → Prop} {xs : List S25} (h : Kd.R k25 25 W base ok (.slice (some ⟨g, 0, none⟩) n c) xs) (o : Nat) (seg : List Value) (ho : n * 2 ≤ o) (hl : o + seg.length ≤ c * 2) :
    Kd.R k25 25 (W.setCells g o seg) base ok (.slice (some ⟨g, 0, none⟩) n c) xs ∧ W.grownBy (W.setCells g o seg) (some g) := by
  obtain ⟨s1, s2, s3, s4⟩ := setCells_same g seg o W
  refine ⟨?_, ⟨s1, s2, s3, by omega, fun k hk hne => setCells_far seg o k (fun e => hne (by rw [e]))⟩⟩
  obtain ⟨h0, inner, ⟨hil, hown⟩, hrep⟩ := h
  refine ⟨h0, inner, ⟨hil, ?_⟩, ⟨hrep.1, fun j p hj => by have hq := k25_openM (hrep.2 j p hj); rw [hq]; exact k25_mkM _ _ _ p⟩⟩
  rcases hown with ⟨hv, _⟩ | ⟨g', cap, cur, hv, hb, hh, hn, hcm, hcs, ht⟩
  · cases hv
  · simp only [Value.slice.injEq, Option.some.injEq, Addr.mk.injEq, and_true] at hv
    obtain ⟨rfl, hn', rfl⟩ := hv
    have hsz : k25.sz = 2 := rfl
    rw [hsz] at hcs ht ⊢
    obtain ⟨cur', h3, h4, h5⟩ := setCells_row seg o W cur hh (by omega)
    refine .inr ⟨g, c, cur', by rw [hn'], hb, h3, hn, hcm, by rw [h4, hcs], ?_⟩
    show cur'.toList.take (xs.length * 2) = inner
    have ht2 : cur.toList.take (xs.length * 2) = inner := ht
    have e8 : xs.length * 2 ≤ (cur.toList.take o).length := by have e7 : cur.toList.length = cur.size := Array.length_toList; rw [List.length_take]; omega
    rw [h5, List.append_assoc, List.take_append_of_le_length e8, List.take_take, Nat.min_eq_left (by omega), ht2]
theorem spare_cells {W : World} {base g n c : Nat} {ok : Nat → Prop} {xs : List S25} (h : Kd.R k25 25 W base ok (.slice (some ⟨g, 0, none⟩) n c) xs) (o : Nat) (ho : o < c * 2) : (W.cell? ⟨g, o, none⟩).isSome = true ∧ W.frozen? ⟨g, o, none⟩ = false := by
  obtain ⟨h0, inner, ⟨hil, hown⟩, hrep⟩ := h
  rcases hown with ⟨hv, _⟩ | ⟨g', cap, cur, hv, hb, hh, hn, hcm, hcs, ht⟩
  · cases hv
  · simp only [Value.slice.injEq, Option.some.injEq, Addr.mk.injEq, and_true] at hv
    obtain ⟨rfl, hn', rfl⟩ := hv
    have hsz : k25.sz = 2 := rfl
    rw [hsz] at hcs
    refine ⟨?_, blk_frozen hh o⟩
    rw [blk_cell hh o]
    simp
    omega
theorem zero25 (W : World) : (zeroValue 25).run Try.prog W = .ok (.agg zeros25.toArray) W := by kernel_rfl
theorem undrew {W W' : World} {row : Option Nat} (h : W.drew.grownBy W' row) : W.grownBy W' row := ⟨h.os, h.tape, h.output, h.size, h.block⟩
set_option maxHeartbeats 8000000 in
set_option maxRecDepth 100000 in
theorem delete49 (g m c k base : Nat) (xs : List S25) (W : World) (h : Kd.R k25 25 W base (fun _ => True) (.slice (some ⟨g, 0, none⟩) (m + 1) c) xs) (hk : k ≤ m) (hm : m ≤ 4398046511104) :
    Calls Try.prog 49 #[.slice (some ⟨g, 0, none⟩) (m + 1) c, .int .i64 k, .int .i64 ((k : Int) + 1)] W fun e W' => e = .returned (.slice (some ⟨g, 0, none⟩) m c) ∧ Kd.R k25 25 W' base (fun _ => True) (.slice (some ⟨g, 0, none⟩) m c) (xs.eraseIdx k) ∧ W.grownBy W' (some g) := by
  obtain ⟨hn, hnc, _⟩ := Kd.R_reads' h
  obtain ⟨i25, hi25, hs25⟩ := Option.map_eq_some_iff.1 info25
  have hz25 : i25.size = 2 := (Prod.mk.inj (Prod.mk.inj hs25).2).1
  obtain ⟨vd, h3⟩ := cut_lhm (P := Try.prog) Try.underlying22 hi25 (some ⟨g, 0, none⟩) (m + 1) c (k : Int) ((k : Int) + 1) ((m : Int) + 1) (by omega) (by omega) (by omega) (by omega)
  have hL := cut_to (P := Try.prog) 22 25 .i64 Try.underlying22 hi25 (some ⟨g, 0, none⟩) (m + 1) c (k : Int) (by omega) (by omega) (by omega)
  have hRt := cut_from (P := Try.prog) 22 25 .i64 Try.underlying22 hi25 2 hz25 (some ⟨g, 0, none⟩) (m + 1) c ((k : Int) + 1) (by omega) (by omega)
  have e1 : ((k : Int) + 1).toNat = k + 1 := by omega
  rw [e1] at hRt
  rw [Int.toNat_natCast] at hL
  obtain ⟨A2, hA2⟩ : ∃ A2, (if c = k + 1 then some ⟨g, 0, none⟩ else (some (⟨g, 0, none⟩ : Addr)).map (·.add ((k + 1) * 2))) = A2 := ⟨_, rfl⟩
  rw [hA2] at hRt
  have HA2 := Aside0.mk hA2
  have hF := cut_far (P := Try.prog) 22 25 Try.underlying22 hi25 2 hz25 (some ⟨g, 0, none⟩) m c (m : Int) ((m : Int) + 1) (by omega) (by omega) (by omega)
  have e2 : ((m : Int) + 1).toNat - (m : Int).toNat = 1 := by omega
  rw [e2, Int.toNat_natCast, if_neg (by omega), Option.map_some, add_plain] at hF
  have HO := Aside0.mk h
  have hbase : Aside0 (base ≤ W.heap.size) := ⟨by obtain ⟨g', cap, ex, h1, h2, _⟩ := Kd.R_form h (by omega); omega⟩
  have HN := Aside0.mk hn
  clear h hi25 hs25 hz25 hA2 e1 e2
  have hkk : (k : Int) ≠ (k : Int) + 1 := by omega
  have hkb : ((k : Int) == (k : Int) + 1) = false := beq_false_of_ne hkk
  clear hn
  go_enter Try.func49, Try.ntmps49
  go_upto_region 5 with (fail)
  go_region_law (first | (refine Kd.R_delete_step k25 (w0 := W) base rfl (.tmp 22) (.tmp 25) 22 25 rfl Try.underlying22 (by kernel_rfl) (g := g) (n := m + 1) (c := c) (k := k) (m := m + 1 - (k + 1)) (c2 := c - (k + 1)) (A := A2) (xs := xs) (ok := fun _ => True) (by simp [Act.eval, Act.put]) (by simp [Act.eval, Act.put]) HA2.out.symm rfl (Kd.R_drew HO.out) (by omega) (below_drew (Below.refl _ _)) hbase.out ?_; intro w1 ho hb hg; rw [Nat.add_sub_cancel] at *; have HO1 := Aside0.mk ho; have HG1 := Aside0.mk hg; clear ho hb hg))
  have hclr : ∀ ty, (Builtin.clear_ #[22] ty #[.slice (some ⟨g, m * 2, none⟩) 1 (c - m)]).run Try.prog w1 = .ok (.tuple #[]) (w1.setCells g (m * 2) zeros25) := fun ty => clear_one w1 22 25 ty Try.underlying22 zero25 g (m * 2) (c - m) (fun j hj => (spare_cells HO1.out (m * 2 + j) (by omega)).1) (fun j hj => (spare_cells HO1.out (m * 2 + j) (by omega)).2)
  obtain ⟨q1, q2⟩ := R_spare HO1.out (m * 2) zeros25 (by omega) (by show m * 2 + 2 ≤ c * 2; omega)
  have Q1 := Aside0.mk q1
  have Q2 := Aside0.mk (World.grownBy.trans HG1.out q2)
  clear q1 q2
  go_wp2
  go_ret
  exact ⟨rfl, Q1.out, undrew Q2.out⟩
theorem delete49p (g c k base : Nat) (xs : List S25) (W : World) (h : Kd.R k25 25 W base (fun _ => True) (.slice (some ⟨g, 0, none⟩) xs.length c) xs) (hk : k < xs.length) (hm : xs.length ≤ 4398046511104) :
    Calls Try.prog 49 #[.slice (some ⟨g, 0, none⟩) xs.length c, .int .i64 k, .int .i64 ((k : Int) + 1)] W fun e W' => e = .returned (.slice (some ⟨g, 0, none⟩) (xs.eraseIdx k).length c) ∧ Kd.R k25 25 W' base (fun _ => True) (.slice (some ⟨g, 0, none⟩) (xs.eraseIdx k).length c) (xs.eraseIdx k) ∧ W.grownBy W' (some g) := by
  obtain ⟨m, hmm⟩ : ∃ m, xs.length = m + 1 := ⟨xs.length - 1, by omega⟩
  have hl : (xs.eraseIdx k).length = m := by rw [List.length_eraseIdx_of_lt hk]; omega
  rw [hl, hmm]
  rw [hmm] at h
  exact delete49 g m c k base xs W h (by omega) (by omega)

end Go.Proofs.Ytjieagpfnnbiiaa.XLin
