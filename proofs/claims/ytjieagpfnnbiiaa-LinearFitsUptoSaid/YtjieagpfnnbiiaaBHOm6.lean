/- slices.Insert of a pair: at the end, and where there is no room. -/
import Derived.Test.YtjieagpfnnbiiaaBHOm5
namespace Go.Proofs.Ytjieagpfnnbiiaa.XLin
open Go Go.RowKit Go.Proofs.YtjieagpfnnbiiaaW.PrintWords Go.Proofs.YtjieagpfnnbiiaaW.PrintLast Go.Proofs.YtjieagpfnnbiiaaW.PrintMore
open Go.Proofs.Ytjieagpfnnbiiaa
set_option linter.unusedVariables false
set_option linter.unusedSimpArgs false
set_option maxHeartbeats 8000000 in
set_option maxRecDepth 100000 in
theorem insert50_end (base : Nat) (xs : List S25) (A : Option Addr) (c : Nat) (p : S25) (vb : Nat) (W : World) (HO : Kd.R k25 25 W base (fun _ => True) (.slice A xs.length c) xs) (hv : W.heap[vb]? = some (.cells #[.string p.f0, .string p.f1] 25 (0, 0))) (hbase : base ≤ W.heap.size) (hl : xs.length ≤ 4398046511000) :
    Calls Try.prog 50 #[.slice A xs.length c, .int .i64 (xs.length : Int), .slice (some ⟨vb, 0, none⟩) 1 1] W (InsPost W base (Value.slice A xs.length c).ownBlock (xs ++ [p])) := by
  obtain ⟨i25, hi25, hs25⟩ := Option.map_eq_some_iff.1 info25
  have hz25 : i25.size = 2 := (Prod.mk.inj (Prod.mk.inj hs25).2).1
  have hzz : i25.zero = some (.agg #[(.string ⟨#[]⟩), (.string ⟨#[]⟩)]) := (Prod.mk.inj hs25).1
  have hzb : i25.bytes = 32 := (Prod.mk.inj (Prod.mk.inj hs25).2).2
  have hsz : (Try.prog.info? 25).map (·.size) = some 2 := by rw [hi25]; simp [hz25]
  obtain ⟨n, hxn⟩ : ∃ n, xs.length = n := ⟨_, rfl⟩
  have hnc : xs.length ≤ c := (Kd.R_reads' HO).2.1
  rw [hxn] at hl hnc
  have hcut0 : ∃ v, ∀ W : World, (Instr.slice 22 (.slice A n c) (some (.int .i64 (n : Int))) none none).run Try.prog W = .ok v W := ⟨_, cut_from (P := Try.prog) 22 25 .i64 Try.underlying22 hi25 2 hz25 A n c (n : Int) (by omega) (by omega)⟩
  obtain ⟨v0, hcut0⟩ := hcut0
  have HR := Aside0.mk HO
  have HV := Aside0.mk (one_C hv)
  have HXN := Aside0.mk hxn
  have hll : Aside0 ((xs.length + 1) * 32 ≤ 140737488355328) := ⟨by omega⟩
  rw [hxn] at HR ⊢
  have HBS := Aside0.mk hbase
  clear HO hv hxn hs25 hi25 hz25 hzz hzb hsz hbase
  go_enter Try.func50, Try.ntmps50
  go_wp2_with (first | ((with_reducible refine gate_builtin (b := .append) (xs := #[.tmp 23, .tmp 24]) rfl ?_); at_builtin; (refine Kd.R_append_rows k25 (w0 := W) base rfl (.tmp 23) (.tmp 24) 22 25 (.agg #[(.string ⟨#[]⟩), (.string ⟨#[]⟩)]) 32 rfl Try.underlying22 info25 rfl (by decide) (by decide) _ xs [p] _ _ _ (fun _ => True) (fun _ => False) rfl rfl HR.out HV.out (fun x cs h => k25_KM x cs h) (fun _ hk => hk.elim) (fun _ _ => trivial) (Below.refl _ _) HBS.out (by have := hll.out; omega) ?_); intro v7 w7 ho hb hg hat; have n0 := Aside0.mk ho; have n1 := Aside0.mk hg; clear ho hb hg hat))
  go_ret
  obtain ⟨A9, c9, hv9⟩ := R_form n0.out
  subst hv9
  exact ⟨A9, c9, rfl, n0.out, n1.out⟩
set_option maxHeartbeats 8000000 in
set_option maxRecDepth 100000 in
theorem insert50_grow (base : Nat) (xs : List S25) (ad : Addr) (c i : Nat) (p : S25) (vb : Nat) (W : World) (HO : Kd.R k25 25 W base (fun _ => True) (.slice (some ad) xs.length c) xs) (hv : W.heap[vb]? = some (.cells #[.string p.f0, .string p.f1] 25 (0, 0))) (hne : vb ≠ ad.block) (hi : i < xs.length) (hl : xs.length ≤ 4398046511000) (hbase : base ≤ W.heap.size) (hroom0 : ∀ N : Nat, (xs.length : Int) + 1 = (N : Int) → c < N) :
    Calls Try.prog 50 #[.slice (some ad) xs.length c, .int .i64 (i : Int), .slice (some ⟨vb, 0, none⟩) 1 1] W (InsPost W base (some ad.block) (insP xs i p)) := by
  obtain ⟨i25, hi25, hs25⟩ := Option.map_eq_some_iff.1 info25
  have hz25 : i25.size = 2 := (Prod.mk.inj (Prod.mk.inj hs25).2).1
  have hzz : i25.zero = some (.agg #[(.string ⟨#[]⟩), (.string ⟨#[]⟩)]) := (Prod.mk.inj hs25).1
  have hzb : i25.bytes = 32 := (Prod.mk.inj (Prod.mk.inj hs25).2).2
  have hsz : (Try.prog.info? 25).map (·.size) = some 2 := by rw [hi25]; simp [hz25]
  obtain ⟨n, hxn⟩ : ∃ n, xs.length = n := ⟨_, rfl⟩
  rw [hxn] at HO hi hl ⊢
  obtain ⟨g, cur, rfl, hnx, hb, hh, hnc, hc, hcs, ht⟩ := R_blk HO
  simp only at hne
  obtain ⟨N, hN⟩ : ∃ N : Nat, (n : Int) + 1 = (N : Int) := ⟨n + 1, by omega⟩
  obtain ⟨i1, hi1⟩ : ∃ i1 : Nat, (i : Int) + 1 = (i1 : Int) := ⟨i + 1, by omega⟩
  have hroom : c < N := hroom0 N (by rw [hxn]; exact hN)
  have hgw : g < W.heap.size := blk_lt hh
  have hcutI := cut_to (P := Try.prog) 22 25 .i64 Try.underlying22 hi25 (some ⟨g, 0, none⟩) n c (i : Int) (by omega) (by omega) hnc
  rw [Int.toNat_natCast] at hcutI
  obtain ⟨d, hd⟩ : ∃ d : Nat, (N : Int) - (i : Int) = (d : Int) := ⟨N - i, by omega⟩
  have hid : i + d = N := by omega
  have hold : (Builtin.firstCells i25.size i (.slice (some ⟨g, 0, none⟩) i c)).run Try.prog W.drew = .ok (cellsP (xs.take i)).toArray W.drew := by
    rw [hz25]
    exact run_firstCells_some W.drew 2 i ⟨g, 0, none⟩ i c (cellsP (xs.take i)) (by rw [cellsP_len, List.length_take]; omega) (fun j v hj => by
      rw [Addr.add_lit, Nat.zero_add]
      rw [← cellsP_take, List.getElem?_take] at hj
      split at hj
      · exact row_cell hh ht hj
      · cases hj)
  have hrz0 := fun ty => Lib.run_append_grow_zeros W 22 3 ty 25 i25 _ .i64 .i64 Try.underlying22 Try.underlying3 hi25 hzz (some ⟨g, 0, none⟩) i c (cellsP (xs.take i)) hold d (by omega) (by rw [hz25]; decide) (by omega) (by omega) (by rw [hzb]; omega) (by rw [hzb, hid]; exact growslice_fits hroom (by omega))
  rw [hid] at hrz0
  obtain ⟨G, hG⟩ : ∃ G, G = grownCap W N c 25 := ⟨_, rfl⟩
  rw [← hG] at hrz0
  have hGn : N ≤ G := by rw [hG]; exact grownCap_ge W _ _ _
  have hG63 : G ≤ 9223372036854775807 := by
    have := grownCap_le_maxLen W N c 25 (by unfold maxLen; omega)
    rw [← hG] at this
    unfold maxLen at this
    omega
  obtain ⟨ROW, hROW⟩ : ∃ ROW : Array Value, ROW = (cellsP (xs.take i)).toArray ++ Builtin.zeroCells (Value.agg #[(.string ⟨#[]⟩), (.string ⟨#[]⟩)]).cells d ++ Builtin.zeroCells (Value.agg #[(.string ⟨#[]⟩), (.string ⟨#[]⟩)]).cells (G - N) := ⟨_, rfl⟩
  rw [← hROW] at hrz0
  have hRl : ROW.size = G * 2 := by
    rw [hROW]
    simp only [Array.size_append, List.size_toArray, cellsP_len, List.length_take, Builtin.zeroCells, Value.cells]
    simp
    omega
  have hR0 : ROW.toList.take (i * 2) = cellsP (xs.take i) := by
    rw [hROW]
    simp only [Array.toList_append, List.append_assoc]
    rw [List.take_append_of_le_length (by rw [cellsP_len, List.length_take]; omega), List.take_of_length_le (by rw [cellsP_len, List.length_take]; omega)]
  obtain ⟨b, hbN⟩ : ∃ b, b = W.heap.size := ⟨_, rfl⟩
  rw [← hbN] at hrz0
  have hg0 : W.grownBy (W.drew.alloc (.cells ROW 25)) (some g) := undrew (World.grownBy_alloc W.drew _ _)
  have hb0 : (W.drew.alloc (.cells ROW 25)).heap[b]? = some (.cells ROW 25 (0, 0)) := by rw [hbN]; exact Array.getElem?_push_size
  have hrz : ∀ ty, (Builtin.append_ #[22, 3] ty #[.slice (some ⟨g, 0, none⟩) i c, .int .i64 (d : Int)]).run Try.prog W = .ok (.slice (some ⟨b, 0, none⟩) N G) (W.drew.alloc (.cells ROW 25)) := hrz0
  have hv1 := (hg0.block vb (blk_lt hv) (fun e => hne (Option.some.inj e))).trans hv
  have hh1 : (W.drew.alloc (.cells ROW 25)).heap[g]? = some (.cells cur 25 (0, 0)) := ((below_alloc (Below.refl W.drew.heap.size W.drew) (.cells ROW 25)).block g hgw).trans hh
  generalize W.drew.alloc (.cells ROW 25) = W1 at hrz hg0 hb0 hv1 hh1
  clear hrz0
  have hk2 : Nat.min 1 (N - i) = 1 := by simp only [Nat.min_def]; split <;> omega
  have hcpA : ∀ ty, (Builtin.copy_ #[22, 22] ty #[.slice (some ⟨b, i * 2, none⟩) (N - i) (G - i), .slice (some ⟨vb, 0, none⟩) 1 1]).run Try.prog W1 = .ok (goInt (1 : Nat)) (W1.setCells b (i * 2) [.string p.f0, .string p.f1]) := fun ty =>
    run_copy_2 W1 22 22 ty 25 b (i * 2) _ _ ⟨vb, 0, none⟩ _ _ 1 _ Try.underlying22 hsz hk2 rfl
      (fun j v hj => by rw [Addr.add_lit, Nat.zero_add, blk_cell hv1 j, ← Array.getElem?_toList]; exact hj)
      (fun j hj => row_some hb0 (by simp only [List.length_cons, List.length_nil] at hj; rw [hRl]; omega)) (fun j hj => blk_frozen hb0 _) (cellsP_one [p])
  obtain ⟨cur2, hb2, hcs2, ht2⟩ := setCells_row (e := 25) [.string p.f0, .string p.f1] (i * 2) W1 ROW hb0 (by simp only [List.length_cons, List.length_nil]; rw [hRl]; omega)
  have hgb : g ≠ b := by rw [hbN]; omega
  have hh2 : (W1.setCells b (i * 2) [.string p.f0, .string p.f1]).heap[g]? = some (.cells cur 25 (0, 0)) := (setCells_far _ _ g hgb).trans hh1
  have hs2 : ∀ k, k < W.heap.size → (W1.setCells b (i * 2) [.string p.f0, .string p.f1]).heap[k]? = W1.heap[k]? := fun k hk => setCells_far _ _ k (by rw [hbN]; omega)
  obtain ⟨q1, q2, q3, q4⟩ := setCells_same b [.string p.f0, .string p.f1] (i * 2) W1
  have hg2 : W.grownBy (W1.setCells b (i * 2) [.string p.f0, .string p.f1]) (some g) := ⟨q1.trans hg0.os, q2.trans hg0.tape, q3.trans hg0.output, by rw [q4]; exact hg0.size, fun k hk hne => (hs2 k hk).trans (hg0.block k hk hne)⟩
  generalize W1.setCells b (i * 2) [.string p.f0, .string p.f1] = W2 at hcpA hb2 hh2 hg2
  clear hs2 q1 q2 q3 q4
  have hk3 : Nat.min (n - i) (N - i1) = n - i := by simp only [Nat.min_def]; split <;> omega
  have hD : (cellsP (xs.drop i)).length = (n - i) * 2 := by rw [cellsP_len, List.length_drop, hxn]
  have hcpB : ∀ ty, (Builtin.copy_ #[22, 22] ty #[.slice (some ⟨b, i1 * 2, none⟩) (N - i1) (G - i1), .slice (some ⟨g, i * 2, none⟩) (n - i) (c - i)]).run Try.prog W2.drew = .ok (goInt (n - i : Nat)) (W2.drew.setCells b (i1 * 2) (cellsP (xs.drop i))) := fun ty =>
    run_copy_2 W2.drew 22 22 ty 25 b (i1 * 2) _ _ ⟨g, i * 2, none⟩ _ _ (n - i) _ Try.underlying22 hsz hk3 hD
      (fun j v hj => by rw [Addr.add_lit]; rw [← cellsP_drop, List.getElem?_drop] at hj; exact row_cell hh2 ht hj)
      (fun j hj => row_some hb2 (by rw [hD] at hj; rw [hcs2, hRl]; omega)) (fun j hj => blk_frozen hb2 _) (cellsP_one _)
  obtain ⟨cur3, hb3, hcs3, ht3⟩ := setCells_row (e := 25) (cellsP (xs.drop i)) (i1 * 2) W2.drew cur2 hb2 (by rw [hD, hcs2, hRl]; omega)
  have hs3 : ∀ k, k < W.heap.size → (W2.drew.setCells b (i1 * 2) (cellsP (xs.drop i))).heap[k]? = W2.heap[k]? := fun k hk => setCells_far _ _ k (by rw [hbN]; omega)
  obtain ⟨q1, q2, q3, q4⟩ := setCells_same b (cellsP (xs.drop i)) (i1 * 2) W2.drew
  have hg3 : W.grownBy (W2.drew.setCells b (i1 * 2) (cellsP (xs.drop i))) (some g) := ⟨q1.trans hg2.os, q2.trans hg2.tape, q3.trans hg2.output, by rw [q4]; exact hg2.size, fun k hk hne => (hs3 k hk).trans (hg2.block k hk hne)⟩
  generalize W2.drew.setCells b (i1 * 2) (cellsP (xs.drop i)) = W3 at hcpB hb3 hg3
  clear hs3 q1 q2 q3 q4
  have hil : (insP xs i p).length = N := by rw [insP_len p (by omega)]; omega
  have hcon : cur3.toList.take (N * 2) = cellsP (insP xs i p) := by
    have e1 : cur2.toList.take (i1 * 2) = cellsP (xs.take i) ++ [.string p.f0, .string p.f1] := by
      rw [ht2, hR0, List.take_append_of_le_length (by rw [List.length_append, cellsP_len, List.length_take, List.length_cons, List.length_cons, List.length_nil]; omega), List.take_of_length_le (by rw [List.length_append, cellsP_len, List.length_take, List.length_cons, List.length_cons, List.length_nil]; omega)]
    rw [ht3, e1]
    have e3 : cellsP (xs.take i) ++ [.string p.f0, .string p.f1] ++ cellsP (xs.drop i) = cellsP (insP xs i p) := by
      unfold insP
      rw [cellsP_append, cellsP_cons]
      simp only [List.append_assoc, List.cons_append, List.nil_append]
    rw [e3, List.take_append_of_le_length (by rw [cellsP_len, hil]; omega), List.take_of_length_le (by rw [cellsP_len, hil]; omega)]
  have hR : Kd.R k25 25 W3 base (fun _ => True) (.slice (some ⟨b, 0, none⟩) (insP xs i p).length G) (insP xs i p) := R_mk (by omega) hb3 (by omega) hG63 (by rw [hcs3, hcs2, hRl]) (by rw [hil]; exact hcon)
  rw [hil] at hR
  have hcut1 := cut_from (P := Try.prog) 22 25 .i64 Try.underlying22 hi25 2 hz25 (some ⟨b, 0, none⟩) N G (i : Int) (by omega) (by omega)
  simp only [Int.toNat_natCast] at hcut1
  rw [if_neg (by omega), Option.map_some, add_plain] at hcut1
  have hcut2 := cut_from (P := Try.prog) 22 25 .i64 Try.underlying22 hi25 2 hz25 (some ⟨b, 0, none⟩) N G (i1 : Int) (by omega) (by omega)
  simp only [Int.toNat_natCast] at hcut2
  rw [if_neg (by omega), Option.map_some, add_plain] at hcut2
  have hcut3 := cut_from (P := Try.prog) 22 25 .i64 Try.underlying22 hi25 2 hz25 (some ⟨g, 0, none⟩) n c (i : Int) (by omega) (by omega)
  simp only [Int.toNat_natCast] at hcut3
  rw [if_neg (by omega), Option.map_some, add_plain] at hcut3
  have HR := Aside0.mk hR
  have HG := Aside0.mk hg3
  have HIL := Aside0.mk hil
  have HCB := Aside0.mk hcpB
  clear hroom0 hnx hxn
  clear HO hs25 hi25 hz25 hzz hzb hsz ht ht2 ht3 hh hh1 hh2 hb0 hb2 hb3 hcs hcs2 hcs3 hg0 hg2 hg3 hv hv1 hcon hil hR hD hcpB hk2 hk3 hG hROW hRl hR0 hbN hold hgb hgw
  have hwr : IntKind.i64.wrap (i1 : Int) = (i1 : Int) := IntWalk.i64_in _ (by omega)
  have hz1 : ¬ ((i : Int) = (n : Int)) := by omega
  have hz2 : decide ((N : Int) > (c : Int)) = true := decide_eq_true (by omega)
  have hz4 : (c : Int) < (N : Int) := by omega
  have hz3 : ((i : Int) == (n : Int)) = false := beq_false_of_ne hz1
  go_enter Try.func50, Try.ntmps50
  have HRZ := Aside0.mk hrz
  clear hrz
  go_upto_region 11 with (first | ((with_reducible refine gate_builtin (b := .append) (xs := #[.tmp 34, .tmp 39]) rfl ?_); at_builtin; refine Lib.wpList_append_run W rfl (.tmp 34) (.tmp 39) 22 3 rfl _ _ rfl rfl _ _ (HRZ.out _) ?_))
  clear hcpA
  go_region_law (first | (refine step_copy rfl (.tmp 50) (.tmp 53) 22 22 rfl (.slice (some ⟨b, i1 * 2, none⟩) (N - i1) (G - i1)) (.slice (some ⟨g, i * 2, none⟩) (n - i) (c - i)) (by simp [Act.eval, Act.put]) (by simp [Act.eval, Act.put]) HCB.out ?_))
  go_wp2
  go_ret
  exact ⟨some ⟨b, 0, none⟩, G, by rw [HIL.out]; rfl, by rw [HIL.out]; exact HR.out, HG.out⟩
/-- slices.Insert of a pair into a row of one's own. -/
theorem insert50 (base : Nat) (xs : List S25) (A : Option Addr) (c i : Nat) (p : S25) (vb : Nat) (W : World) (HO : Kd.R k25 25 W base (fun _ => True) (.slice A xs.length c) xs) (hv : W.heap[vb]? = some (.cells #[.string p.f0, .string p.f1] 25 (0, 0))) (hne : some vb ≠ (Value.slice A xs.length c).ownBlock) (hi : i ≤ xs.length) (hbase : base ≤ W.heap.size) (hl : xs.length ≤ 4398046511000) :
    Calls Try.prog 50 #[.slice A xs.length c, .int .i64 (i : Int), .slice (some ⟨vb, 0, none⟩) 1 1] W (InsPost W base (Value.slice A xs.length c).ownBlock (insP xs i p)) := by
  rcases Nat.lt_or_ge i xs.length with h | h
  · cases A with
    | none =>
      obtain ⟨g, cap, hv, _⟩ := Kd.R_form HO (by omega)
      cases hv
    | some ad =>
      have hne2 : vb ≠ ad.block := fun e => hne (by rw [e]; rfl)
      rcases Nat.lt_or_ge c (xs.length + 1) with h2 | h2
      · exact insert50_grow base xs ad c i p vb W HO hv hne2 h hl hbase (fun N hN => by omega)
      · exact insert50_shift base xs ad c i p vb W HO hv hne2 h hl (fun N hN => by omega)
  · obtain rfl : i = xs.length := by omega
    have h2 : insP xs xs.length p = xs ++ [p] := by unfold insP; rw [List.take_length, List.drop_length]
    rw [h2]
    exact insert50_end base xs A c p vb W HO hv hbase hl

end Go.Proofs.Ytjieagpfnnbiiaa.XLin
