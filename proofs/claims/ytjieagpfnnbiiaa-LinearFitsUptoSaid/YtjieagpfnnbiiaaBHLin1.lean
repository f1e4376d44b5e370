/- linear: the small questions. -/
import Derived.Test.YtjieagpfnnbiiaaBHBat
namespace Go.Proofs.Ytjieagpfnnbiiaa.XLin
open Go Go.RowKit Go.Proofs.YtjieagpfnnbiiaaW.PrintWords Go.Proofs.YtjieagpfnnbiiaaW.PrintLast Go.Proofs.YtjieagpfnnbiiaaW.PrintMore
open Go.Proofs.Ytjieagpfnnbiiaa
set_option linter.unusedVariables false
set_option linter.unusedSimpArgs false
/-- A call, as a value; what is read of it. -/
abbrev doneV (A1 : Option Addr) (c1 : Nat) (A9 : Option Addr) (c9 : Nat) (x : S36) : Value := .agg #[.int .u8 x.f0.f0, .slice A1 x.f0.f1.length c1, .string x.f0.f2, .string x.f0.f3, .int .i64 x.f0.f4, .int .i64 x.f1, .int .i64 x.f2, .int .i64 x.f3, .int .u64 x.f4, .slice A9 x.f5.length c9]
structure DoneIn (w : World) (A1 : Option Addr) (c1 : Nat) (A9 : Option Addr) (c9 : Nat) (x : S36) : Prop where
  o : Kd.C k71 w A1 x.f0.f1.length x.f0.f1
  oc : x.f0.f1.length ≤ c1
  p : Kd.C k25 w A9 x.f5.length x.f5
  pc : x.f5.length ≤ c9
theorem DoneIn.below {w w' : World} {A1 : Option Addr} {c1 : Nat} {A9 : Option Addr} {c9 : Nat} {x : S36} (h : DoneIn w A1 c1 A9 c9 x) (hb : Below w.heap.size w w') : DoneIn w' A1 c1 A9 c9 x := ⟨Kd.C_below h.o hb, h.oc, Kd.C_below h.p hb, h.pc⟩
def mustP (x : S36) : Bool := if x.f2 < 0 then false else (if x.f3 = 0 then (if x.f0.f0 ≥ 1 then decide (x.f0.f0 ≤ 3) else false) else false)
def mayP (x : S36) : Bool := if x.f2 < 0 then (x.f0.f0 == 1) else mustP x
def aheadP (a b : S36) : Bool := if a.f2 ≥ 0 then decide (a.f2 < b.f1) else false
theorem writes34 (A1 : Option Addr) (c1 : Nat) (A9 : Option Addr) (c9 : Nat) (x : S36) (w : World) (h : DoneIn w A1 c1 A9 c9 x) : Calls Try.prog 34 #[doneV A1 c1 A9 c9 x] w fun e w' => e = .returned (.bool (x.f0.f0 == 1)) ∧ Below w.heap.size w w' :=
  linear_writes.calls _ _ _ _ _ _ _ _ _ _ _ _ _ _ _ w h.o h.oc h.p h.pc rfl
theorem counts26 (A1 : Option Addr) (c1 : Nat) (A9 : Option Addr) (c9 : Nat) (x : S36) (w : World) (h : DoneIn w A1 c1 A9 c9 x) : Calls Try.prog 26 #[doneV A1 c1 A9 c9 x] w fun e w' => e = .returned (.tuple #[.bool (mustP x), .bool (mayP x)]) ∧ Below w.heap.size w w' :=
  linear_counts.calls _ _ _ _ _ _ _ _ _ _ _ _ _ _ _ _ w h.o h.oc h.p h.pc (by
    unfold linear_counts.f mayP mustP linear_writes.f
    by_cases h1 : x.f2 < 0
    · rw [if_pos h1, if_pos h1, if_pos h1]; rfl
    · rw [if_neg h1, if_neg h1, if_neg h1]
      by_cases h2 : x.f3 = 0
      · rw [if_pos h2, if_pos h2]
        by_cases h3 : x.f0.f0 ≥ 1
        · rw [if_pos h3, if_pos h3]
        · rw [if_neg h3, if_neg h3]
      · rw [if_neg h2, if_neg h2])
theorem ahead27 (A1 : Option Addr) (c1 : Nat) (A9 : Option Addr) (c9 : Nat) (x : S36) (B1 : Option Addr) (d1 : Nat) (B9 : Option Addr) (d9 : Nat) (y : S36) (w : World) (h : DoneIn w A1 c1 A9 c9 x) (k : DoneIn w B1 d1 B9 d9 y) : Calls Try.prog 27 #[doneV A1 c1 A9 c9 x, doneV B1 d1 B9 d9 y] w fun e w' => e = .returned (.bool (aheadP x y)) ∧ Below w.heap.size w w' :=
  linear_ahead.calls _ _ _ _ _ _ _ _ _ _ _ _ _ _ _ _ _ _ _ _ _ _ _ _ _ _ _ _ _ w h.o h.oc h.p h.pc k.o k.oc k.p k.pc (by
    unfold linear_ahead.f aheadP
    by_cases h1 : x.f2 ≥ 0
    · rw [if_pos h1, if_pos h1]
    · rw [if_neg h1, if_neg h1])
/-- slices.Equal of pairs. -/
def eqPairs : List S25 → List S25 → Bool
  | [], [] => true
  | p :: a, q :: b => ((p.f0.toList == q.f0.toList) && (p.f1.toList == q.f1.toList)) && eqPairs a b
  | _, _ => false
theorem eq_loop (a b : List S25) (hab : a.length = b.length) (hl : a.length ≤ 9223372036854775807) : ∀ (k i : Nat), k + i = a.length + 1 → 0 < k → api_Pair_67.l0 k a b (a.length : Int) (i : Int) = some (eqPairs (a.drop i) (b.drop i))
  | 0, i, h, h0 => absurd h0 (Nat.lt_irrefl 0)
  | k + 1, i, h, _ => by
    unfold api_Pair_67.l0
    by_cases hi : i < a.length
    · rw [if_pos (by omega), if_pos (by omega), if_pos (by omega), if_pos (by omega), List.drop_eq_getElem_cons hi, List.drop_eq_getElem_cons (by omega : i < b.length)]
      have e1 : rd_T25 a (i : Int) = a[i] := by rw [rd25_nat, List.getD_eq_getElem?_getD, List.getElem?_eq_getElem hi]; rfl
      have e2 : rd_T25 b (i : Int) = b[i] := by rw [rd25_nat, List.getD_eq_getElem?_getD, List.getElem?_eq_getElem (by omega : i < b.length)]; rfl
      rw [e1, e2]
      have hw : wrap64 ((i : Int) + 1) = ((i + 1 : Nat) : Int) := by rw [w64' (by omega) (by omega)]; rfl
      unfold eqPairs
      by_cases h1 : (a[i].f0.toList == b[i].f0.toList) = true
      · by_cases h2 : (a[i].f1.toList == b[i].f1.toList) = true
        · rw [h1, h2, if_neg (by decide), hw, eq_loop a b hab hl k (i + 1) (by omega) (by omega)]
          rfl
        · rw [Bool.eq_false_iff.2 h2, h1, if_pos (by decide)]
          rfl
      · rw [Bool.eq_false_iff.2 h1, if_pos (by rfl)]
        rfl
    · rw [if_neg (by omega), List.drop_eq_nil_of_le (by omega), List.drop_eq_nil_of_le (by omega)]
      rfl
theorem eqPairs_len : ∀ (a b : List S25), eqPairs a b = true → a.length = b.length
  | [], [], _ => rfl
  | p :: a, q :: b, h => by
    unfold eqPairs at h
    rw [Bool.and_eq_true] at h
    rw [List.length_cons, List.length_cons, eqPairs_len a b h.2]
  | [], q :: b, h => by cases h
  | p :: a, [], h => by cases h
theorem equal67 (A : Option Addr) (c : Nat) (a : List S25) (B : Option Addr) (d : Nat) (b : List S25) (w : World) (ha : Kd.C k25 w A a.length a) (hc : a.length ≤ c) (hb : Kd.C k25 w B b.length b) (hd : b.length ≤ d) :
    Calls Try.prog 67 #[.slice A a.length c, .slice B b.length d] w fun e w' => e = .returned (.bool (eqPairs a b)) ∧ Below w.heap.size w w' := by
  refine (api_Pair_67.calls (a.length + 1) A c a B d b (eqPairs a b) w ha hc hb hd ?_).mono (fun e w' h => ⟨h.1, h.2.below⟩)
  unfold api_Pair_67.f
  by_cases h : a.length = b.length
  · rw [if_pos (by omega)]
    have := eq_loop a b h ha.2.1 (a.length + 1) 0 rfl (Nat.succ_pos _)
    rw [List.drop_zero, List.drop_zero] at this
    exact this
  · rw [if_neg (by omega)]
    congr 1
    cases he : eqPairs a b with
    | true => exact absurd (eqPairs_len a b he) h
    | false => rfl

end Go.Proofs.Ytjieagpfnnbiiaa.XLin
