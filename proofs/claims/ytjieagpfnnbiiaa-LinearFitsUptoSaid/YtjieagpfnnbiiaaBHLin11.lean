import Derived.Test.YtjieagpfnnbiiaaBHLin9
/- What Legal and alone come to. -/
namespace Go.Proofs.Ytjieagpfnnbiiaa.XLin
open Go Go.RowKit Go.Proofs.YtjieagpfnnbiiaaW.PrintWords Go.Proofs.YtjieagpfnnbiiaaW.PrintLast Go.Proofs.YtjieagpfnnbiiaaW.PrintMore
open Go.Proofs.Ytjieagpfnnbiiaa
set_option linter.unusedVariables false
set_option linter.unusedSimpArgs false
/-- The round of try over the calls: f is try itself, T the keys that were seen. -/
def tryLoop (l : List S36) (f : List Int → List S25 → List ByteArray → Bool × List ByteArray) (done : List Int) (m : List S25) : List Nat → Bool → List ByteArray → Bool × List ByteArray
  | [], left, T => (!left, T)
  | n :: ns, left, T =>
    if mayP (l.getD n z36) = false ∨ done.getD n 0 = 1 ∨ waitsP l done n = true then tryLoop l f done m ns (left || (mustP (l.getD n z36) && decide (done.getD n 0 = 0))) T
    else if (thenP m (l.getD n z36)).2 = false then tryLoop l f done m ns (left || (mustP (l.getD n z36) && decide (done.getD n 0 = 0))) T
    else if (f (done.set n 1) (thenP m (l.getD n z36)).1 T).1 = true then (true, (f (done.set n 1) (thenP m (l.getD n z36)).1 T).2)
    else tryLoop l f done m ns (left || (mustP (l.getD n z36) && decide (done.getD n 0 = 0))) (f (done.set n 1) (thenP m (l.getD n z36)).1 T).2
/-- try, in the code's own words; the number: one more than the calls that are left. -/
def tryP (l : List S36) : Nat → List Int → List S25 → List ByteArray → Bool × List ByteArray
  | 0, _, _, T => (false, T)
  | k + 1, done, m, T => if T.any (fun s => decide (s = keyP done m)) = true then (false, T) else tryLoop l (tryP l k) done m (List.range l.length) false (keyP done m :: T)
/-- linear.Legal. -/
def legalP (base : List S25) (l : List S36) : Bool := if l.length > 12 then false else (tryP l (l.length + 1) (List.replicate l.length 0) base []).1
/-- What a call that reads is told. -/
def tells (m : List S25) (c : S32) : List S25 :=
  if c.f0 = 2 then (match getP m c.f2 with | some v => [⟨c.f2, v⟩] | none => []) else if c.f0 = 3 then scanP m c.f2 c.f3 c.f4 else []
/-- alone: calls one behind the other, from a number on. -/
def aloneP : Nat → List S25 → List S32 → List S36 × List S25
  | _, m, [] => ([], m)
  | i, m, c :: cs => (⟨c, 2 * i, 2 * i + 1, 0, i, tells m c⟩ :: (aloneP (i + 1) (if c.f0 = 1 then applyP m c.f1 else m) cs).1, (aloneP (i + 1) (if c.f0 = 1 then applyP m c.f1 else m) cs).2)

end Go.Proofs.Ytjieagpfnnbiiaa.XLin
/- Keys. -/
namespace Go.Proofs.Ytjieagpfnnbiiaa.XLin
open Go Go.RowKit Go.Proofs.YtjieagpfnnbiiaaW.PrintWords Go.Proofs.YtjieagpfnnbiiaaW.PrintLast Go.Proofs.YtjieagpfnnbiiaaW.PrintMore
open Go.Proofs.Ytjieagpfnnbiiaa
set_option linter.unusedVariables false
set_option linter.unusedSimpArgs false
def Bits (l : List Int) : Prop := ∀ x ∈ l, x = 0 ∨ x = 1
theorem bits_map : ∀ (a b : List Int), Bits a → Bits b → a.map (fun n => UInt8.ofNat n.toNat) = b.map (fun n => UInt8.ofNat n.toNat) → a = b
  | [], [], _, _, _ => rfl
  | [], y :: b, _, _, h => by simp at h
  | x :: a, [], _, _, h => by simp at h
  | x :: a, y :: b, ha, hb, h => by
    rw [List.map_cons, List.map_cons, List.cons.injEq] at h
    have h1 := bits_map a b (fun z hz => ha z (List.mem_cons_of_mem _ hz)) (fun z hz => hb z (List.mem_cons_of_mem _ hz)) h.2
    have hx := ha x List.mem_cons_self
    have hy := hb y List.mem_cons_self
    have h2 : x = y := by
      rcases hx with rfl | rfl <;> rcases hy with rfl | rfl
      · rfl
      · exact absurd h.1 (by decide)
      · exact absurd h.1 (by decide)
      · rfl
    rw [h1, h2]
theorem key_done {a b : List Int} {m m' : List S25} (ha : Bits a) (hb : Bits b) (hl : a.length = b.length) (h : keyP a m = keyP b m') : a = b := by
  unfold keyP strOfNums at h
  have h1 := congrArg (fun s : ByteArray => s.data.toList) h
  simp only [List.map_append] at h1
  have h2 := congrArg (List.take a.length) h1
  rw [List.take_append_of_le_length (by simp), List.take_append_of_le_length (by simp [hl])] at h2
  rw [List.take_of_length_le (by simp), List.take_of_length_le (by simp [hl])] at h2
  exact bits_map a b ha hb h2

end Go.Proofs.Ytjieagpfnnbiiaa.XLin
