/- What the laws of the disk have in common. -/
import Derived.Test.YteibdmpjlpcgbaaTHAwake
import Derived.Test.YteibdmpjlpcgbaaTXDisk1
namespace Go.Proofs.Yteibdmpjlpcgbaa.XDisk
open Go Go.RowKit Go.Proofs.YteibdmpjlpcgbaaW.PrintWords Go.Proofs.YteibdmpjlpcgbaaW.PrintLast Go.Proofs.YteibdmpjlpcgbaaW.PrintMore
open Go.Proofs.Yteibdmpjlpcgbaa
set_option linter.unusedVariables false
set_option linter.unusedSimpArgs false
/-- Names that a list of them tells. -/
def NamesIn (w : World) (A : Option Addr) (ns : List Nm) : Prop := ∀ i, i < ns.length → ∃ ad, A = some ad ∧ w.cell? (ad.add i) = some (.string (str (ns.getD i [])))
/-- An argument of the law's. -/
theorem Stays.arg {k : IntKind} {w0 w : World} {φ : Nat → Tg} {B gd : Nat} {S : DA} {A : Option Addr} {n : Nat} {xs : List Int} (hC : Kd.C (Kd.int k) w0 A n xs) (hB : Below w0.heap.size w0 w) (hw : w0.heap.size ≤ B) (h : DAt w φ B gd S) : Stays w φ (fun W => Kd.C (Kd.int k) W A n xs) :=
  Stays.of_below hB hw (fun k hk => (h.dom k hk).1) (fun W _ hW => (Kd.heap_int _).C hW hC)
/-! ### Few -/
def fewO (o : S32) : Bool := decide (o.f1.size ≤ 60) && decide (o.f2.size ≤ 60) && decide (o.f3.length ≤ 60) && decide (o.f4.length ≤ 60)
def fewP (l : List S32) (m : Int) : Bool := l.all fewO && decide ((l.length : Int) ≤ m)
theorem rd32 (l : List S32) (i : Nat) (h : i < l.length) : rd_T32 l (i : Int) = l[i] := by
  unfold rd_T32
  rw [Int.toNat_natCast, List.getD_eq_getElem?_getD, List.getElem?_eq_getElem h]
  rfl
theorem few_loop (l : List S32) (m : Int) (hl : l.length ≤ 9223372036854775807) : ∀ (k i : Nat), k + i = l.length + 1 → 0 < k → ratlinelaw01_Few.l0 k l m l (l.length : Int) (i : Int) = some ((l.drop i).all fewO && decide ((l.length : Int) ≤ m))
  | 0, i, h, h0 => absurd h0 (Nat.lt_irrefl 0)
  | k + 1, i, h, _ => by
    unfold ratlinelaw01_Few.l0
    by_cases hi : i < l.length
    · rw [if_pos (by omega), if_pos (by omega), if_pos (by omega), rd32 l i hi, List.drop_eq_getElem_cons hi, List.all_cons]
      have hw : wrap64 ((i : Int) + 1) = ((i + 1 : Nat) : Int) := by rw [w64' (by omega) (by omega)]; rfl
      have ih := few_loop l m hl k (i + 1) (by omega) (by omega)
      rw [hw, ih]
      unfold fewO
      by_cases h1 : l[i].f1.size ≤ 60
      · rw [if_neg (by omega), decide_eq_true h1]
        by_cases h2 : l[i].f2.size ≤ 60
        · rw [if_neg (by omega), decide_eq_true h2]
          by_cases h3 : l[i].f3.length ≤ 60
          · rw [if_neg (by omega), decide_eq_true h3]
            by_cases h4 : l[i].f4.length ≤ 60
            · rw [if_neg (by omega), decide_eq_true h4]
              rfl
            · rw [if_pos (by omega), decide_eq_false h4]
              rfl
          · rw [if_pos (by omega), decide_eq_false h3]
            rfl
        · rw [if_pos (by omega), decide_eq_false h2]
          rfl
      · rw [if_pos (by omega), decide_eq_false h1]
        rfl
    · rw [if_neg (by omega), List.drop_eq_nil_of_le (by omega)]
      rfl
theorem few_at (A : Option Addr) (c : Nat) (l : List S32) (m : Int) (w : World) (hr : Kd.C k32 w A l.length l) (hc : l.length ≤ c) (hl : l.length ≤ 9223372036854775807) :
    Calls Try.prog 10 #[.slice A l.length c, .int .i64 m] w fun e w' => e = .returned (.bool (fewP l m)) ∧ Below w.heap.size w w' := by
  refine ratlinelaw01_Few.calls (l.length + 1) A c l m (fewP l m) w hr hc ?_
  unfold ratlinelaw01_Few.f fewP
  have := few_loop l m hl (l.length + 1) 0 rfl (Nat.succ_pos _)
  exact this
theorem few_all {l : List S32} {m : Int} (h : fewP l m = true) : (∀ o ∈ l, o.f1.size ≤ 60 ∧ o.f2.size ≤ 60 ∧ o.f3.length ≤ 60 ∧ o.f4.length ≤ 60) ∧ (l.length : Int) ≤ m := by
  unfold fewP at h
  simp only [Bool.and_eq_true, decide_eq_true_eq] at h
  refine ⟨fun o ho => ?_, h.2⟩
  have := List.all_eq_true.1 h.1 o ho
  unfold fewO at this
  simp only [Bool.and_eq_true, decide_eq_true_eq] at this
  exact ⟨this.1.1.1, this.1.1.2, this.1.2, this.2⟩
/-- What an Op does, in the law's own terms. -/
def doesO (S : DA) (o : S32) : DA × Int := doesP S o.f0 o.f1.data.toList o.f2.data.toList o.f3 o.f4
/-- An Op that may be done. -/
structure OpOk (o : S32) : Prop where
  a0 : 0 ≤ o.f0
  a1 : o.f0 ≤ 255
  s1 : o.f1.size ≤ 60
  s2 : o.f2.size ≤ 60
  s3 : o.f3.length ≤ 60
  s4 : o.f4.length ≤ 60
theorem does_op (gd B : Nat) (φ : Nat → Tg) (S : DA) (o : S32) (A3 : Option Addr) (c3 : Nat) (A4 : Option Addr) (c4 : Nat) (w : World) (h : DAt w φ B gd S) (hO : Ok S) (ho : OpOk o) (h3 : o.f3.length ≤ c3) (w0 : World) (hB : Below w0.heap.size w0 w) (hw : w0.heap.size ≤ B) (g3 : Kd.C (Kd.int .u8) w0 A3 o.f3.length o.f3) (g4 : Kd.C (Kd.int .i64) w0 A4 o.f4.length o.f4) :
    Calls Try.prog 13 #[.agg #[.int .u8 o.f0, .string o.f1, .string o.f2, .slice A3 o.f3.length c3, .slice A4 o.f4.length c4], .pointer (some ⟨gd, 0, none⟩)] w fun e w' => ∃ φ', e = .returned (.int .i64 (doesO S o).2) ∧ DAt w' φ' B gd (doesO S o).1 ∧ Step w w' φ φ' := by
  have h1 := does_at gd B φ S o.f0 o.f1.data.toList o.f2.data.toList o.f3 o.f4 A3 c3 A4 c4 w h hO ho.a0 ho.a1 (by have := ho.s1; rw [Array.length_toList]; exact Nat.le_trans this (by omega)) (by have := ho.s2; rw [Array.length_toList]; exact Nat.le_trans this (by omega)) (by have := ho.s3; omega) h3 (Stays.arg g3 hB hw h) (Stays.arg g4 hB hw h)
  rw [str_of, str_of] at h1
  refine h1.mono ?_
  rintro e w' ⟨x, rfl, hx, φ', d1, d2⟩
  exact ⟨φ', by rw [hx]; rfl, d1, d2⟩
/-- New, with the place from which its blocks are. -/
theorem new_at2 (cap : Int) (A1 : Option Addr) (c1 : Nat) (fs : List Int) (A2 : Option Addr) (c2 : Nat) (ps : List Int) (w : World) (hr1 : Kd.C (Kd.int .i64) w A1 fs.length fs) (hc1 : fs.length ≤ c1) (hl1 : fs.length ≤ 60) (hr2 : Kd.C (Kd.int .i64) w A2 ps.length ps) (hc2 : ps.length ≤ c2) (hl2 : ps.length ≤ 60) :
    Calls Try.prog 12 #[.int .i64 cap, .agg #[.slice A1 fs.length c1, .slice A2 ps.length c2]] w fun e w' => ∃ gd φ B, e = .returned (.pointer (some ⟨gd, 0, none⟩)) ∧ w.heap.size ≤ B ∧ DAt w' φ B gd (newP cap fs ps) ∧ Below w.heap.size w w' := by
  refine (new_at cap A1 c1 fs A2 c2 ps w hr1 hc1 (by omega) hr2 hc2 (by omega)).mono ?_
  rintro e w' ⟨gd, φ, rfl, hd, hb⟩
  exact ⟨gd, φ, _, rfl, Nat.le_refl _, hd, hb⟩
theorem Good.doesO {k : Nat} {S : DA} (h : Good k S) {o : S32} (ho : OpOk o) : Good (k + 1) (doesO S o).1 := h.does _ _ _ _ ho.s3
end Go.Proofs.Yteibdmpjlpcgbaa.XDisk
