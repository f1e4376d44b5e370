import Derived.Test.YtjieagpfnnbiiaaBHLin20
import Derived.Test.YtjieagpfnnbiiaaBHLin17
/- LinearAlone: what it asks (plain), and rows. -/
namespace Go.Proofs.Ytjieagpfnnbiiaa.XLin
open Go Go.RowKit Go.Proofs.YtjieagpfnnbiiaaW.PrintWords Go.Proofs.YtjieagpfnnbiiaaW.PrintLast Go.Proofs.YtjieagpfnnbiiaaW.PrintMore
open Go.Proofs.Ytjieagpfnnbiiaa
set_option linter.unusedVariables false
set_option linter.unusedSimpArgs false
theorem rightG_small : ∀ (m : List S25) (k : Option ByteArray), rightG k m = true → Small m
  | [], _, _ => fun p hp => by cases hp
  | p :: m, none, h => by
    rw [rightG_none, Bool.and_eq_true] at h
    intro q hq
    rcases List.mem_cons.1 hq with rfl | hq
    · exact opOk_small h.1
    · exact rightG_small m _ h.2 q hq
  | p :: m, some k, h => by
    rw [rightG_some, Bool.and_eq_true, Bool.and_eq_true] at h
    intro q hq
    rcases List.mem_cons.1 hq with rfl | hq
    · exact opOk_small h.1
    · exact rightG_small m _ h.2.2 q hq
theorem may_facts {base : List S25} {l : List S36} {most : Int} (h : mayAll base l most = true) : Small base ∧ (base.length : Int) ≤ 20 ∧ (l.length : Int) ≤ most ∧ ∀ x ∈ l, x.f0.f0 = 1 → x.f0.f1.length ≤ 32 := by
  unfold mayAll at h
  simp only [Bool.and_eq_true, Bool.not_eq_true', decide_eq_true_eq] at h
  obtain ⟨h1, ⟨h2, h3⟩, h4⟩ := h
  refine ⟨rightG_small _ _ h3, h4, h2, fun x hx h0 => ?_⟩
  have hb := List.any_eq_false.1 h1 x hx
  unfold badOne at hb
  simp only [Bool.or_eq_true, not_or, Bool.and_eq_true, Bool.not_eq_true', not_and] at hb
  have hr := hb.1.1.1.1.1 (by rw [h0]; rfl)
  have hr : rightP x.f0.f1 = true := by simpa using hr
  unfold rightP at hr
  simp only [Bool.and_eq_true, decide_eq_true_eq] at hr
  exact hr.1.2
theorem alone_ops {base : List S25} {calls : List S32} (h : ∀ c ∈ calls, c.f0 = 1 → c.f1.length ≤ 32) : ∀ x ∈ (aloneP 0 base calls).1, opsN x ≤ 1000 := by
  intro x hx
  obtain ⟨j, hj, rfl⟩ := List.getElem_of_mem hx
  have hjc : j < calls.length := by rw [aloneP_len] at hj; exact hj
  have hg := alone_get calls 0 base j hjc
  rw [List.getD_eq_getElem?_getD, List.getElem?_eq_getElem hj] at hg
  have hg : (aloneP 0 base calls).1[j] = _ := hg
  unfold opsN
  split
  · next h0 =>
    rw [hg] at h0 ⊢
    have := h (calls.getD j z32) (by rw [List.getD_eq_getElem?_getD, List.getElem?_eq_getElem hjc]; exact List.getElem_mem hjc) h0
    have h9 : (calls.getD j z32).f1.length ≤ 1000 := by omega
    exact h9
  · exact Nat.zero_le _
def swapP (o : List Int) (k : Nat) : List Int := (o.set k (o.getD (k + 1) 0)).set (k + 1) (o.getD k 0)
theorem swapP_len (o : List Int) (k : Nat) : (swapP o k).length = o.length := by unfold swapP; rw [List.length_set, List.length_set]
section
variable {base : List S25} {calls : List S32}
end
theorem infoI64 : (Try.prog.info? 3).map (fun i => (i.zero, i.size, i.bytes)) = some (some (.int .i64 0), 1, 8) := by kernel_rfl
theorem heap36 : Kd.Heap k36 := Kd.heap_iso _ (Kd.heap_pair (Kd.heap_iso _ (Kd.heap_pair (Kd.heap_int _) (Kd.heap_pair (Kd.heap_slice 71 heap71) (Kd.heap_pair Kd.heap_string (Kd.heap_pair Kd.heap_string (Kd.heap_int _)))))) (Kd.heap_pair (Kd.heap_int _) (Kd.heap_pair (Kd.heap_int _) (Kd.heap_pair (Kd.heap_int _) (Kd.heap_pair (Kd.heap_int _) (Kd.heap_slice 25 heap25))))))
theorem arg_F36 {w W : World} {A : Option Addr} {n : Nat} {xs : List S36} (hC : Kd.C k36 w A n xs) (hb : Below w.heap.size w W) : Kd.F k36 W (fun k => k < w.heap.size) A n xs := fun W' hW =>
  heap36.C (fun q hq => (hW q hq (Nat.lt_of_lt_of_le hq hb.size)).trans (hb.block q hq)) hC
end Go.Proofs.Ytjieagpfnnbiiaa.XLin
/- LinearAlone's walk. -/
namespace Go.Proofs.Ytjieagpfnnbiiaa.XLin
open Go Go.RowKit Go.Proofs.YtjieagpfnnbiiaaW.PrintWords Go.Proofs.YtjieagpfnnbiiaaW.PrintLast Go.Proofs.YtjieagpfnnbiiaaW.PrintMore
open Go.Proofs.Ytjieagpfnnbiiaa
set_option linter.unusedVariables false
set_option linter.unusedSimpArgs false
theorem lit_step {P : Program} {ops : Array Oper} {o : Oper} {a : Act} {Q : Exit → Act → World → Prop} {Kc : Act → World → Prop} {W : World} (hw : Region.wanted o (yielded ops a.tmps) = true) {cs : Array Value} {t : TypeId} {k : Nat}
    (hrun : (execOp a.eval o).run P W = .ok (.value (.slice (some ⟨W.heap.size, 0, none⟩) k k)) (W.alloc (.cells cs t (0, 0))))
    (h : ∀ g, g = W.heap.size → ∀ w1, w1.heap[g]? = some (.cells cs t (0, 0)) → Below W.heap.size W w1 → Kc (a.put o.dst (.slice (some ⟨g, 0, none⟩) k k)) w1) : if Region.wanted o (yielded ops a.tmps) = true then Oper.wp P o a W Kc Q else Kc (a.put o.dst undef) W :=
  event_step hw hrun (h _ rfl _ (blk_new W _) (below_alloc (Below.refl _ _) _))
theorem legalB {A : Option Addr} {c : Nat} {base : List S25} {L : Option Addr} {n cl : Nat} {l : List S36} {b : Bool} {w : World} (hb : legalP base l = b) (hn : n = l.length) (hm : Kd.C k25 w A base.length base) (hmc : base.length ≤ c) (hl : Kd.C k36 w L n l) (hlc : n ≤ cl) (hb0 : base.length ≤ 1000) (hops : ∀ x ∈ l, opsN x ≤ 1000) (hsm : Small base) :
    Calls Try.prog 10 #[.slice A base.length c, .slice L n cl] w fun e w' => e = .returned (.bool b) ∧ Below w.heap.size w w' := by
  subst hn
  subst hb
  exact legal10 A c base L cl l w hm hmc hl hlc (by omega) hops hsm
theorem mayB {A : Option Addr} {c : Nat} {base : List S25} {L : Option Addr} {n cl : Nat} {l : List S36} {most : Int} {b : Bool} {w : World} (hb : mayAll base l most = b) (hn : n = l.length) (hm : Kd.C k25 w A base.length base) (hmc : base.length ≤ c) (hl : Kd.C k36 w L n l) :
    Calls Try.prog 8 #[.slice A base.length c, .slice L n cl, .int .i64 most] w fun e w' => e = .returned (.bool b) ∧ Below w.heap.size w w' := by
  subst hn
  subst hb
  exact may8 A c base L cl l most w hm hmc hl
theorem own_cell {W : World} {base g n cap : Nat} {ok : Nat → Prop} {xs : List Int} (h : Kd.R (Kd.int .i64) 3 W base ok (.slice (some ⟨g, 0, none⟩) n cap) xs) (i : Nat) (hi : i < n) : W.cell? ⟨g, i, none⟩ = some (.int .i64 (xs.getD i 0)) ∧ W.frozen? ⟨g, i, none⟩ = false := by
  obtain ⟨c, hcl, hM, hcc, hfr⟩ := Kd.R_elem h 0 (i : Int) (by omega) (by omega)
  rw [Int.toNat_natCast] at hM hcc hfr
  have hM : c = [.int .i64 (xs.getD i 0)] := hM
  subst hM
  have h1 : (Kd.int IntKind.i64).sz = 1 := rfl
  have h2 := hcc 0 _ rfl
  have h3 := hfr 0
  rw [h1, Nat.mul_one, Nat.add_zero] at h2 h3
  exact ⟨h2, h3⟩
theorem int_cell {W : World} {A : Option Addr} {n : Nat} {xs : List Int} (h : Kd.C (Kd.int .i64) W A n xs) (i : Nat) (hi : i < n) : ∃ ad, A = some ad ∧ W.cell? (ad.add i) = some (.int .i64 (xs.getD i 0)) := by
  obtain ⟨ad, cs, ha, _, hK, hc⟩ := Kd.C_get h 0 (i : Int) (by omega) (by omega)
  rw [Int.toNat_natCast] at hK hc
  have hK : cs = [.int .i64 (xs.getD i 0)] := hK
  subst hK
  have h1 : (Kd.int IntKind.i64).sz = 1 := rfl
  have := hc 0 _ rfl
  rw [h1, Nat.mul_one, Nat.add_zero] at this
  exact ⟨ad, ha, this⟩
end Go.Proofs.Ytjieagpfnnbiiaa.XLin
/- cmp.Compare, cmp.Or. -/
namespace Go.Proofs.Ytjieagpfnnbiiaa.XLin
open Go Go.RowKit Go.Proofs.YtjieagpfnnbiiaaW.PrintWords Go.Proofs.YtjieagpfnnbiiaaW.PrintLast Go.Proofs.YtjieagpfnnbiiaaW.PrintMore
open Go.Proofs.Ytjieagpfnnbiiaa
set_option linter.unusedVariables false
set_option linter.unusedSimpArgs false
def cmpI (a b : Int) : Int := if a < b then -1 else if b < a then 1 else 0
def orP : List Int → Int
  | [] => 0
  | x :: l => if x = 0 then orP l else x
/-- How two calls stand, by sequences. -/
def kindOf (x y : S36) : Int := if (x.f0.f0 == 1) = (y.f0.f0 == 1) then 0 else if (x.f0.f0 == 1) = true then -1 else 1
def byP (x y : S36) : Int := orP [cmpI x.f4 y.f4, kindOf x y, cmpI x.f1 y.f1]
set_option maxHeartbeats 8000000 in
set_option maxRecDepth 100000 in
theorem nan55 (a : Int) (w : World) : Calls Try.prog 55 #[.int .u64 a] w fun e w' => e = .returned (.bool false) ∧ Below w.heap.size w w' := by
  have h : (a != a) = false := by simp
  go_enter Try.func55, Try.ntmps55
  go_wp2
  go_ret
  exact ⟨rfl, Below.refl _ _⟩
set_option maxHeartbeats 8000000 in
set_option maxRecDepth 100000 in
theorem nan56 (a : Int) (w : World) : Calls Try.prog 56 #[.int .i64 a] w fun e w' => e = .returned (.bool false) ∧ Below w.heap.size w w' := by
  have h : (a != a) = false := by simp
  go_enter Try.func56, Try.ntmps56
  go_wp2
  go_ret
  exact ⟨rfl, Below.refl _ _⟩
set_option maxHeartbeats 8000000 in
set_option maxRecDepth 100000 in
theorem compare36 (a b : Int) (w : World) : Calls Try.prog 36 #[.int .u64 a, .int .u64 b] w fun e w' => e = .returned (.int .i64 (cmpI a b)) ∧ Below w.heap.size w w' := by
  have HB := Aside0.mk (Below.refl w.heap.size w)
  unfold cmpI
  by_cases h1 : a < b
  · rw [if_pos h1]
    go_enter Try.func36, Try.ntmps36
    go_wp2_with (first | (go_at_call 55; refine (nan55 _ _).mono ?_; rintro e w5 ⟨rfl, hb⟩; have n_HB := Aside0.mk (below_step HB.out hb); clear HB; have HB := n_HB; clear n_HB; clear hb))
    go_ret
    exact ⟨rfl, HB.out⟩
  rw [if_neg h1]
  by_cases h2 : b < a
  · rw [if_pos h2]
    have h3 : a > b := h2
    go_enter Try.func36, Try.ntmps36
    go_wp2_with (first | (go_at_call 55; refine (nan55 _ _).mono ?_; rintro e w5 ⟨rfl, hb⟩; have n_HB := Aside0.mk (below_step HB.out hb); clear HB; have HB := n_HB; clear n_HB; clear hb))
    go_ret
    exact ⟨rfl, HB.out⟩
  rw [if_neg h2]
  have h3 : ¬ a > b := h2
  go_enter Try.func36, Try.ntmps36
  go_wp2_with (first | (go_at_call 55; refine (nan55 _ _).mono ?_; rintro e w5 ⟨rfl, hb⟩; have n_HB := Aside0.mk (below_step HB.out hb); clear HB; have HB := n_HB; clear n_HB; clear hb))
  go_ret
  exact ⟨rfl, HB.out⟩
set_option maxHeartbeats 8000000 in
set_option maxRecDepth 100000 in
theorem compare37 (a b : Int) (w : World) : Calls Try.prog 37 #[.int .i64 a, .int .i64 b] w fun e w' => e = .returned (.int .i64 (cmpI a b)) ∧ Below w.heap.size w w' := by
  have HB := Aside0.mk (Below.refl w.heap.size w)
  unfold cmpI
  by_cases h1 : a < b
  · rw [if_pos h1]
    go_enter Try.func37, Try.ntmps37
    go_wp2_with (first | (go_at_call 56; refine (nan56 _ _).mono ?_; rintro e w5 ⟨rfl, hb⟩; have n_HB := Aside0.mk (below_step HB.out hb); clear HB; have HB := n_HB; clear n_HB; clear hb))
    go_ret
    exact ⟨rfl, HB.out⟩
  rw [if_neg h1]
  by_cases h2 : b < a
  · rw [if_pos h2]
    have h3 : a > b := h2
    go_enter Try.func37, Try.ntmps37
    go_wp2_with (first | (go_at_call 56; refine (nan56 _ _).mono ?_; rintro e w5 ⟨rfl, hb⟩; have n_HB := Aside0.mk (below_step HB.out hb); clear HB; have HB := n_HB; clear n_HB; clear hb))
    go_ret
    exact ⟨rfl, HB.out⟩
  rw [if_neg h2]
  have h3 : ¬ a > b := h2
  go_enter Try.func37, Try.ntmps37
  go_wp2_with (first | (go_at_call 56; refine (nan56 _ _).mono ?_; rintro e w5 ⟨rfl, hb⟩; have n_HB := Aside0.mk (below_step HB.out hb); clear HB; have HB := n_HB; clear n_HB; clear hb))
  go_ret
  exact ⟨rfl, HB.out⟩
set_option maxHeartbeats 8000000 in
set_option maxRecDepth 100000 in
theorem or35 (A : Option Addr) (c : Nat) (xs : List Int) (w : World) (hr : Kd.C (Kd.int .i64) w A xs.length xs) : Calls Try.prog 35 #[.slice A xs.length c] w fun e w' => e = .returned (.int .i64 (orP xs)) ∧ Below w.heap.size w w' := by
  have HR := Aside0.mk hr
  have hxl : xs.length ≤ 9223372036854775807 := hr.2.1
  clear hr
  obtain ⟨r, hr⟩ : ∃ r, orP xs = r := ⟨_, rfl⟩
  rw [hr]
  have HE := Aside0.mk hr
  clear hr
  go_enter Try.func35, Try.ntmps35
  go_upto_region 3 with (fail)
  go_loopw [8] (fun v8 wr => ∃ i : Nat, i ≤ xs.length ∧ v8 = .int .i64 (i : Int) ∧ Aside0 (orP (xs.drop i) = r) ∧ Aside0 (Below w.heap.size w wr)) (fun v8 _ => xs.length - (intOf v8).toNat)
  case atStart => exact ⟨0, Nat.zero_le _, rfl, ⟨by rw [List.drop_zero]; exact HE.out⟩, ⟨Below.refl _ _⟩⟩
  case round =>
    obtain ⟨i, hi, rfl, HEQ, HB⟩ := hrel
    rename World => wr
    by_cases hlt : i < xs.length
    · obtain ⟨ad, e0, c0⟩ := int_cell HR.out i hlt
      have HE0 := Aside0.mk e0
      subst e0
      have c1 := (HB.out.cell (World.block_lt_of_cell? w _ c0)).trans c0
      clear c0
      have heq := HEQ.out
      rw [List.drop_eq_getElem_cons hlt] at heq
      have hg : xs.getD i 0 = xs[i] := by rw [List.getD_eq_getElem?_getD, List.getElem?_eq_getElem hlt]; rfl
      rw [hg] at c1
      obtain ⟨x, hx⟩ : ∃ x, xs[i] = x := ⟨_, rfl⟩
      rw [hx] at c1 heq
      unfold orP at heq
      have HEQ2 := Aside0.mk heq
      clear heq hg hx HEQ
      have hlt' : (i : Int) < (xs.length : Int) := by omega
      by_cases h0 : x = 0
      · have y0 : (x != 0) = false := by rw [h0]; rfl
        have HZ := Aside0.mk h0
        clear h0
        go_wp2
        go_roundw
        case rel => exact ⟨i + 1, by omega, by go_num, ⟨by have h := HEQ2.out; rw [if_pos HZ.out] at h; exact h⟩, HB⟩
        case measure => simp [intOf]; omega
      have y0 : (x != 0) = true := by simpa using h0
      have HF : Aside0 (r = x) := ⟨by have h := HEQ2.out; rw [if_neg h0] at h; exact h.symm⟩
      clear h0
      go_wp2
      go_ret
      exact ⟨by rw [HF.out]; rfl, HB.out⟩
    · obtain rfl : i = xs.length := by omega
      have HF : Aside0 (r = 0) := ⟨by have h := HEQ.out; rw [List.drop_length] at h; exact h.symm⟩
      go_wp2
      go_ret
      exact ⟨by rw [HF.out]; rfl, HB.out⟩

end Go.Proofs.Ytjieagpfnnbiiaa.XLin
