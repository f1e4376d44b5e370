/- batch.Right. -/
import Derived.Test.YtjieagpfnnbiiaaBHOm7
namespace Go.Proofs.Ytjieagpfnnbiiaa.XLin
open Go Go.RowKit Go.Proofs.YtjieagpfnnbiiaaW.PrintWords Go.Proofs.YtjieagpfnnbiiaaW.PrintLast Go.Proofs.YtjieagpfnnbiiaaW.PrintMore
open Go.Proofs.Ytjieagpfnnbiiaa
set_option linter.unusedVariables false
set_option linter.unusedSimpArgs false
def badI : List S71 → Nat → Int
  | [], _ => -1
  | o :: l, i => if opOk o = false then (i : Int) else badI l (i + 1)
theorem badI_cons (o : S71) (l : List S71) (i : Nat) : badI (o :: l) i = if opOk o = false then (i : Int) else badI l (i + 1) := rfl
theorem badI_all : ∀ (l : List S71) (i : Nat), decide (badI l i ≥ 0) = !(l.all opOk)
  | [], i => rfl
  | o :: l, i => by
    rw [badI_cons, List.all_cons]
    by_cases h : opOk o = false
    · rw [if_pos h, h]
      simp
    · rw [if_neg h, badI_all l (i + 1)]
      simp at h
      rw [h]
      rfl
/-- batch.Right. -/
def rightP (l : List S71) : Bool := decide (0 < l.length) && decide (l.length ≤ 32) && l.all opOk
set_option maxHeartbeats 8000000 in
set_option maxRecDepth 100000 in
theorem closure66 (f0 : Int) (f1 f2 : ByteArray) (w : World) : Calls Try.prog 66 #[.agg #[.int .u8 f0, .string f1, .string f2]] w fun e w' => e = .returned (.bool (!opOk ⟨f0, f1, f2⟩)) ∧ Below w.heap.size w w' := by
  obtain ⟨ok, hok⟩ : ∃ ok, opOk ⟨f0, f1, f2⟩ = ok := ⟨_, rfl⟩
  rw [hok]
  have HOK := Aside0.mk hok
  clear hok
  have HB := Aside0.mk (Below.refl w.heap.size w)
  go_enter Try.func66, Try.ntmps66
  go_wp2_with (first | ((with_reducible refine gate_dst (N := 1) rfl ?_); refine box_event ?hg (N := 1) ?hd (cs := #[.int .u8 f0, .string f1, .string f2]) (t := 71) ?hr ?_; (case hd => rfl); (case hg => rfl); (case hr => first | (go_simp; done) | (go_simp; rfl)); intro g1 hg w3 hbox hb; have GE_g1 : Aside0 (w.heap.size ≤ g1) := ⟨by rw [hg]; exact below_size HB.out⟩; have n_HB := Aside0.mk (below_step HB.out hb); clear HB; have HB := n_HB; clear n_HB; have B1 := Aside0.mk hbox; clear hg hbox hb; have bB1_0 := (blk_cell B1.out 0).trans (show _ = some (.int .u8 f0) from rfl); have bB1_1 := (blk_cell B1.out 1).trans (show _ = some (.string f1) from rfl); have bB1_2 := (blk_cell B1.out 2).trans (show _ = some (.string f2) from rfl); have bB1_f := fun j => blk_frozen B1.out j) | (go_at_call 48; refine (op48 ⟨f0, f1, f2⟩ _).mono ?_; rw [HOK.out]; rintro e w5 ⟨rfl, hb⟩; have n_B1 := Aside0.mk (blk_below B1.out hb); have n_HB := Aside0.mk (below_step HB.out hb); clear B1 HB; have B1 := n_B1; have HB := n_HB; clear n_B1 n_HB; clear hb))
  go_ret
  exact ⟨rfl, HB.out⟩
set_option maxHeartbeats 8000000 in
set_option maxRecDepth 100000 in
theorem index74 (A : Option Addr) (c : Nat) (l : List S71) (w : World) (hr : Kd.C k71 w A l.length l) :
    Calls Try.prog 74 #[.slice A l.length c, .func (.func 66) #[] #[]] w fun e w' => e = .returned (.int .i64 (badI l 0)) ∧ Below w.heap.size w w' := by
  have HR := Aside0.mk hr
  have hl0 : l.length ≤ 9223372036854775807 := hr.2.1
  clear hr
  obtain ⟨r, hr⟩ : ∃ r, badI l 0 = r := ⟨_, rfl⟩
  rw [hr]
  have HRR := Aside0.mk hr
  clear hr
  go_enter Try.func74, Try.ntmps74
  go_wp2_with fail
  go_loopw [8] (fun v8 wr => ∃ i : Nat, i ≤ l.length ∧ v8 = .int .i64 (i : Int) ∧ Aside0 (badI (l.drop i) i = r) ∧ Aside0 (Below w.heap.size w wr)) (fun v8 _ => l.length - (intOf v8).toNat)
  case atStart => exact ⟨0, Nat.zero_le _, rfl, ⟨by rw [List.drop_zero]; exact HRR.out⟩, ⟨Below.refl _ _⟩⟩
  case round =>
    obtain ⟨i, hi, rfl, HA, HB⟩ := hrel
    rename World => wr
    by_cases hlt : i < l.length
    · have H := HA.out
      rw [List.drop_eq_getElem_cons hlt, badI_cons] at H
      obtain ⟨ad, e0, x0, x1, x2⟩ := at_T71 (Kd.C_below HR.out HB.out) (i : Int) (by omega) (by omega)
      rw [rd71_nat] at x0 x1 x2
      simp only [Int.toNat_natCast] at x0 x1 x2
      subst e0
      have hgd : l.getD i z71 = l[i] := by rw [List.getD_eq_getElem?_getD, List.getElem?_eq_getElem hlt]; rfl
      rw [hgd] at x0 x1 x2
      obtain ⟨o, ho⟩ : ∃ o, l[i] = o := ⟨_, rfl⟩
      rw [ho] at x0 x1 x2 H
      clear hgd ho
      obtain ⟨f0, f1, f2⟩ := o
      dsimp only at x0 x1 x2
      obtain ⟨ok, hok⟩ : ∃ ok, opOk ⟨f0, f1, f2⟩ = ok := ⟨_, rfl⟩
      rw [hok] at H
      have HOK := Aside0.mk hok
      clear hok HA
      have hli : (i : Int) < (l.length : Int) := by omega
      cases ok with
      | false =>
        rw [if_pos rfl] at H
        have HH := Aside0.mk H
        clear H
        go_wp2_with (go_at_call 66; (refine (closure66 f0 f1 f2 _).mono ?_); rw [HOK.out]; rintro e w5 ⟨rfl, hb⟩; have n0 := Aside0.mk (below_step HB.out hb); clear hb)
        go_ret
        exact ⟨by rw [← HH.out]; rfl, n0.out⟩
      | true =>
        rw [if_neg (by decide)] at H
        have HH := Aside0.mk H
        clear H
        go_wp2_with (go_at_call 66; (refine (closure66 f0 f1 f2 _).mono ?_); rw [HOK.out]; rintro e w5 ⟨rfl, hb⟩; have n0 := Aside0.mk (below_step HB.out hb); clear hb)
        go_roundw
        case rel => exact ⟨i + 1, by omega, by go_num, ⟨HH.out⟩, n0⟩
        case measure => simp [intOf]; omega
    · obtain rfl : i = l.length := by omega
      have H := HA.out
      rw [List.drop_length] at H
      have HH : Aside0 ((-1 : Int) = r) := ⟨H⟩
      clear H HA
      go_wp2
      go_ret
      exact ⟨by rw [← HH.out]; rfl, HB.out⟩
set_option maxHeartbeats 8000000 in
set_option maxRecDepth 100000 in
theorem contains65 (A : Option Addr) (c : Nat) (l : List S71) (w : World) (hr : Kd.C k71 w A l.length l) :
    Calls Try.prog 65 #[.slice A l.length c, .func (.func 66) #[] #[]] w fun e w' => e = .returned (.bool (!(l.all opOk))) ∧ Below w.heap.size w w' := by
  have HR := Aside0.mk hr
  clear hr
  have hb := badI_all l 0
  obtain ⟨r, hr⟩ : ∃ r, badI l 0 = r := ⟨_, rfl⟩
  rw [hr] at hb
  have HRR := Aside0.mk hr
  rw [← hb]
  clear hr hb
  go_enter Try.func65, Try.ntmps65
  go_wp2_with (go_at_call 74; refine (index74 A c l _ HR.out).mono ?_; rw [HRR.out]; rintro e w5 ⟨rfl, hb⟩; have n0 := Aside0.mk hb; clear hb)
  all_goals (go_ret; exact ⟨by first | rfl | (simp [*]; done) | (simp [*]; rfl), n0.out⟩)
set_option maxHeartbeats 8000000 in
set_option maxRecDepth 100000 in
theorem right24 (A : Option Addr) (c : Nat) (l : List S71) (w : World) (hr : Kd.C k71 w A l.length l) :
    Calls Try.prog 24 #[.slice A l.length c] w fun e w' => e = .returned (.bool (rightP l)) ∧ Below w.heap.size w w' := by
  have HR := Aside0.mk hr
  have hl0 : l.length ≤ 9223372036854775807 := hr.2.1
  clear hr
  have H51 : Aside0 (∀ W, Below w.heap.size w W → Calls Try.prog 51 #[.slice A l.length c, .int .i64 32] W fun e w' => e = .returned (.bool (rightP l)) ∧ Below W.heap.size W w') := ⟨fun W hW => by
    have HRW := Aside0.mk (Kd.C_below HR.out hW)
    unfold rightP
    by_cases h0 : 0 < l.length
    · have d0 : decide ((l.length : Int) > 0) = true := decide_eq_true (by omega)
      have d1 : decide (0 < l.length) = true := decide_eq_true h0
      rw [d1, Bool.true_and]
      by_cases h1 : l.length ≤ 32
      · have d2 : decide ((l.length : Int) ≤ 32) = true := decide_eq_true (by omega)
        have d3 : decide (l.length ≤ 32) = true := decide_eq_true h1
        rw [d3, Bool.true_and]
        have HC := Aside0.mk (contains65 A c l W HRW.out)
        obtain ⟨b, hb⟩ : ∃ b, l.all opOk = b := ⟨_, rfl⟩
        rw [hb] at HC ⊢
        clear hb d1 d3
        cases b with
        | true =>
          go_enter Try.func51, Try.ntmps51
          go_wp2_with (go_at_call 65; refine HC.out.mono ?_; rintro e w5 ⟨rfl, hb⟩; have n0 := Aside0.mk hb; clear hb)
          go_ret
          exact ⟨rfl, n0.out⟩
        | false =>
          go_enter Try.func51, Try.ntmps51
          go_wp2_with (go_at_call 65; refine HC.out.mono ?_; rintro e w5 ⟨rfl, hb⟩; have n0 := Aside0.mk hb; clear hb)
          go_ret
          exact ⟨rfl, n0.out⟩
      · have d2 : decide ((l.length : Int) ≤ 32) = false := decide_eq_false (by omega)
        have d3 : decide (l.length ≤ 32) = false := decide_eq_false h1
        rw [d3, Bool.false_and]
        go_enter Try.func51, Try.ntmps51
        go_wp2
        go_ret
        exact ⟨rfl, Below.refl _ _⟩
    · have d0 : decide ((l.length : Int) > 0) = false := decide_eq_false (by omega)
      have d1 : decide (0 < l.length) = false := decide_eq_false h0
      rw [d1, Bool.false_and, Bool.false_and]
      go_enter Try.func51, Try.ntmps51
      go_wp2
      go_ret
      exact ⟨rfl, Below.refl _ _⟩⟩
  go_enter Try.func24, Try.ntmps24
  go_wp2_with (go_at_call 51; refine (H51.out _ (Below.refl _ _)).mono ?_; rintro e w5 ⟨rfl, hb⟩; have n0 := Aside0.mk hb; clear hb)
  go_ret
  exact ⟨rfl, n0.out⟩

end Go.Proofs.Ytjieagpfnnbiiaa.XLin
