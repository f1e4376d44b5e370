/- Keys. -/
import Derived.Test.YtjieagpfnnbiiaaAHLin10
namespace Go.Proofs.Ytjieagpfnnbiiaa.XLin
open Go Go.RowKit Go.Proofs.YtjieagpfnnbiiaaW.PrintWords Go.Proofs.YtjieagpfnnbiiaaW.PrintLast Go.Proofs.YtjieagpfnnbiiaaW.PrintMore
open Go.Proofs.Ytjieagpfnnbiiaa
set_option linter.unusedVariables false
set_option linter.unusedSimpArgs false
def Bits (l : List Int) : Prop := ∀ x ∈ l, x = 0 ∨ x = 1
theorem bits_map : ∀ (a b : List Int), Bits a → Bits b → a.map (fun n => UInt8.ofNat n.toNat) = b.map (fun n => UInt8.ofNat n.toNat) → a = b
  | [], [], _, _, _ => rfl
  | [], y :: b, _, _, h => by simp at h
  | x :: a, [], _, _, h => by simp at h
  | x :: a, y :: b, ha, hb, h => by
    rw [List.map_cons, List.map_cons, List.cons.injEq] at h
    have h1 := bits_map a b (fun z hz => ha z (List.mem_cons_of_mem _ hz)) (fun z hz => hb z (List.mem_cons_of_mem _ hz)) h.2
    have hx := ha x List.mem_cons_self
    have hy := hb y List.mem_cons_self
    have h2 : x = y := by
      rcases hx with rfl | rfl <;> rcases hy with rfl | rfl
      · rfl
      · exact absurd h.1 (by decide)
      · exact absurd h.1 (by decide)
      · rfl
    rw [h1, h2]
theorem key_done {a b : List Int} {m m' : List S25} (ha : Bits a) (hb : Bits b) (hl : a.length = b.length) (h : keyP a m = keyP b m') : a = b := by
  unfold keyP strOfNums at h
  have h1 := congrArg (fun s : ByteArray => s.data.toList) h
  simp only [List.map_append] at h1
  have h2 := congrArg (List.take a.length) h1
  rw [List.take_append_of_le_length (by simp), List.take_append_of_le_length (by simp [hl])] at h2
  rw [List.take_of_length_le (by simp), List.take_of_length_le (by simp [hl])] at h2
  exact bits_map a b ha hb h2

end Go.Proofs.Ytjieagpfnnbiiaa.XLin
