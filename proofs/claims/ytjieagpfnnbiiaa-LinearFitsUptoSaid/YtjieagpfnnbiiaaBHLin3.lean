/- linear.Fits: what it asks. -/
import Derived.Test.YtjieagpfnnbiiaaBHLin2
import Derived.Test.YtjieagpfnnbiiaaBHIntMap
namespace Go.Proofs.Ytjieagpfnnbiiaa.XLin
open Go Go.RowKit Go.Proofs.YtjieagpfnnbiiaaW.PrintWords Go.Proofs.YtjieagpfnnbiiaaW.PrintLast Go.Proofs.YtjieagpfnnbiiaaW.PrintMore
open Go.Proofs.Ytjieagpfnnbiiaa
set_option linter.unusedVariables false
set_option linter.unusedSimpArgs false
theorem owns_move {P : Program} {t : TypeId} {qk qe : IntKind} {M : HIntMap.IM P t qk qe} {w w' : World} {b n : Nat} {f : Int → Option Int} (h : HIntMap.Owns M w b n f) (hg : w'.heap[b]? = w.heap[b]?) : HIntMap.Owns M w' b n f := by
  obtain ⟨D, ⟨es, c, h1, h2⟩, h3⟩ := h
  exact ⟨D, ⟨es, c, hg.trans h1, h2⟩, h3⟩
theorem int_look {P : Program} {t : TypeId} {qk qe : IntKind} (M : HIntMap.IM P t qk qe) {w : World} {b n : Nat} {f : Int → Option Int} (h : HIntMap.Owns M w b n f) {key : Int} (hw : (Lit.int qk key).wf = true) : (Instr.lookup t (.map (some b)) (.int qk key) false).run P w = .ok (.int qe ((f key).getD 0)) w := by
  obtain ⟨D, h1, h2⟩ := h
  obtain ⟨c, hrun, hat, _⟩ := h1.lookup_int (Maps.int_keyed M.hk) M.ht M.he (M.hz w) (Maps.keyOf_int_mk M.hk hw)
  rw [(h2 key hw).2] at hat
  injection hat with hat
  injection hat with _ hat
  rw [hat]
  exact hrun
def m60 : HIntMap.IM Try.prog 60 .i64 .i64 := ⟨3, 3, Try.underlying60, Try.underlying3, Try.underlying3, Try.zeroValue3⟩
theorem heap25 : Kd.Heap k25 := Kd.heap_iso _ (Kd.heap_pair Kd.heap_string Kd.heap_string)
theorem arg_F25 {w W : World} {A : Option Addr} {n : Nat} {xs : List S25} (hC : Kd.C k25 w A n xs) (hb : Below w.heap.size w W) : Kd.F k25 W (fun k => k < w.heap.size) A n xs := fun W' hW =>
  heap25.C (fun q hq => (hW q hq (Nat.lt_of_lt_of_le hq hb.size)).trans (hb.block q hq)) hC
/-- The cells of a call in a row. -/
structure Cells36 (w : World) (a : Addr) (A1 : Option Addr) (c1 : Nat) (A9 : Option Addr) (c9 : Nat) (x : S36) : Prop where
  x0 : w.cell? a = some (.int .u8 x.f0.f0)
  x1 : w.cell? ⟨a.block, a.off + 1, none⟩ = some (.slice A1 x.f0.f1.length c1)
  x2 : w.cell? ⟨a.block, a.off + 2, none⟩ = some (.string x.f0.f2)
  x3 : w.cell? ⟨a.block, a.off + 3, none⟩ = some (.string x.f0.f3)
  x4 : w.cell? ⟨a.block, a.off + 4, none⟩ = some (.int .i64 x.f0.f4)
  x5 : w.cell? ⟨a.block, a.off + 5, none⟩ = some (.int .i64 x.f1)
  x6 : w.cell? ⟨a.block, a.off + 6, none⟩ = some (.int .i64 x.f2)
  x7 : w.cell? ⟨a.block, a.off + 7, none⟩ = some (.int .i64 x.f3)
  x8 : w.cell? ⟨a.block, a.off + 8, none⟩ = some (.int .u64 x.f4)
  x9 : w.cell? ⟨a.block, a.off + 9, none⟩ = some (.slice A9 x.f5.length c9)
theorem Cells36.below {w w' : World} {a : Addr} {A1 : Option Addr} {c1 : Nat} {A9 : Option Addr} {c9 : Nat} {x : S36} (h : Cells36 w a A1 c1 A9 c9 x) (hb : Below w.heap.size w w') : Cells36 w' a A1 c1 A9 c9 x :=
  ⟨(hb.cell (World.block_lt_of_cell? w _ h.x0)).trans h.x0, (hb.cell (World.block_lt_of_cell? w _ h.x1)).trans h.x1, (hb.cell (World.block_lt_of_cell? w _ h.x2)).trans h.x2, (hb.cell (World.block_lt_of_cell? w _ h.x3)).trans h.x3, (hb.cell (World.block_lt_of_cell? w _ h.x4)).trans h.x4, (hb.cell (World.block_lt_of_cell? w _ h.x5)).trans h.x5, (hb.cell (World.block_lt_of_cell? w _ h.x6)).trans h.x6, (hb.cell (World.block_lt_of_cell? w _ h.x7)).trans h.x7, (hb.cell (World.block_lt_of_cell? w _ h.x8)).trans h.x8, (hb.cell (World.block_lt_of_cell? w _ h.x9)).trans h.x9⟩
theorem rd36_nat (xs : List S36) (i : Nat) : rd_T36 xs (i : Int) = xs.getD i z36 := by unfold rd_T36; rw [Int.toNat_natCast]
theorem at36 {w : World} {A : Option Addr} {l : List S36} (h : Kd.C k36 w A l.length l) (n : Nat) (hn : n < l.length) : ∃ ad A1 c1 A9 c9, A = some ad ∧ Cells36 w (ad.add (n * 10)) A1 c1 A9 c9 (l.getD n z36) ∧ DoneIn w A1 c1 A9 c9 (l.getD n z36) := by
  obtain ⟨ad, A1, c1, A9, c9, e0, x0, x1, x2, x3, x4, x5, x6, x7, x8, x9, l1, g1, l9, g9⟩ := at_T36 h (n : Int) (by omega) (by omega)
  rw [rd36_nat] at x0 x1 x2 x3 x4 x5 x6 x7 x8 x9 l1 g1 l9 g9
  simp only [Int.toNat_natCast] at x0 x1 x2 x3 x4 x5 x6 x7 x8 x9
  exact ⟨ad, A1, c1, A9, c9, e0, ⟨x0, x1, x2, x3, x4, x5, x6, x7, x8, x9⟩, ⟨g1, l1, g9, l9⟩⟩
/-- Does what is left of an order fit, behind its front and the map then? -/
def fitsFrom (l : List S36) : List Int → List S25 → List Int → Bool
  | pre, _, [] => (List.range l.length).all (fun n => !(mustP (l.getD n z36)) || decide ((n : Int) ∈ pre))
  | pre, m, n :: rest =>
    if n < 0 ∨ (l.length : Int) ≤ n then false
    else if mayP (l.getD n.toNat z36) = false then false
    else if n ∈ pre then false
    else if pre.any (fun k => aheadP (l.getD n.toNat z36) (l.getD k.toNat z36)) = true then false
    else if (thenP m (l.getD n.toNat z36)).2 = false then false
    else fitsFrom l (pre ++ [n]) (thenP m (l.getD n.toNat z36)).1 rest
def fitsP (base : List S25) (l : List S36) (order : List Int) : Bool := fitsFrom l [] base order
theorem applyP_len : ∀ (l : List S71) (m : List S25), (applyP m l).length ≤ m.length + l.length
  | [], m => by simp [applyP]
  | o :: l, m => by
    have h1 := applyP_len l (applyOne m o)
    have h2 := applyOne_len m o
    have h3 : applyP m (o :: l) = applyP (applyOne m o) l := rfl
    rw [h3, List.length_cons]
    omega
theorem thenP_len (m : List S25) (x : S36) : (thenP m x).1.length ≤ m.length + opsN x := by
  unfold thenP opsN
  split
  · exact applyP_len _ _
  · exact Nat.le_add_right _ _
theorem take_snoc {l : List Int} {i : Nat} (h : i < l.length) : l.take (i + 1) = l.take i ++ [l[i]] := List.take_succ_eq_append_getElem h

end Go.Proofs.Ytjieagpfnnbiiaa.XLin
