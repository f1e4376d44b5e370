/- Bytes of a row of one's own. -/
import Derived.Test.YtjieagpfnnbiiaaBHLin4
namespace Go.Proofs.Ytjieagpfnnbiiaa.XLin
open Go Go.RowKit Go.Proofs.YtjieagpfnnbiiaaW.PrintWords Go.Proofs.YtjieagpfnnbiiaaW.PrintLast Go.Proofs.YtjieagpfnnbiiaaW.PrintMore
open Go.Proofs.Ytjieagpfnnbiiaa
set_option linter.unusedVariables false
set_option linter.unusedSimpArgs false
theorem infoU8 : (Try.prog.info? 5).map (fun i => (i.zero, i.size, i.bytes)) = some (some (.int .u8 0), 1, 1) := by kernel_rfl
theorem nums_reps {W : World} {b : Nat} {ok : Nat → Prop} : ∀ (xs : List Int) (cs : List Value), Reps ((Kd.int .u8).M W b ok) 1 xs cs → cs = nums .u8 xs
  | [], cs, h => by
    have := h.1
    simp only [List.length_nil, Nat.zero_mul] at this
    exact List.eq_nil_of_length_eq_zero this
  | x :: xs, cs, h => by
    have hl := h.1
    rw [List.length_cons] at hl
    have h0 := h.2 0 x rfl
    rw [Nat.zero_mul, List.drop_zero] at h0
    have h1 : cs.take 1 = [.int .u8 x] := h0
    have hr : Reps ((Kd.int .u8).M W b ok) 1 xs (cs.drop 1) := ⟨by rw [List.length_drop]; omega, fun j p hj => by
      have := h.2 (j + 1) p hj
      rw [List.drop_drop, show 1 + j * 1 = (j + 1) * 1 by omega]
      exact this⟩
    have h3 : nums .u8 (x :: xs) = .int .u8 x :: nums .u8 xs := rfl
    rw [h3, ← nums_reps xs _ hr]
    have h2 := List.take_append_drop 1 cs
    rw [h1] at h2
    exact h2.symm
theorem reps_nums {W : World} {b : Nat} {ok : Nat → Prop} (xs : List Int) : Reps ((Kd.int .u8).M W b ok) 1 xs (nums .u8 xs) := by
  refine ⟨by simp [nums], fun j p hj => ?_⟩
  have hjl := (List.getElem?_eq_some_iff.1 hj).1
  have he := (List.getElem?_eq_some_iff.1 hj).2
  show ((nums .u8 xs).drop (j * 1)).take 1 = [.int .u8 p]
  rw [Nat.mul_one]
  have hjn : j < (nums .u8 xs).length := by simpa [nums] using hjl
  rw [List.drop_eq_getElem_cons hjn, List.take_succ_cons, List.take_zero]
  simp [nums, he]
theorem own_of_R {W : World} {base : Nat} {v : Value} {xs : List Int} (h : Kd.R (Kd.int .u8) 5 W base (fun _ => True) v xs) : W.ownsRow base 5 1 v xs.length (nums .u8 xs) := by
  obtain ⟨_, inner, ho, hr⟩ := h
  rw [← nums_reps xs inner hr]
  exact ho
theorem R_of_own {W : World} {base : Nat} {v : Value} {xs : List Int} (h : W.ownsRow base 5 1 v xs.length (nums .u8 xs)) : Kd.R (Kd.int .u8) 5 W base (fun _ => True) v xs :=
  ⟨fun _ _ => trivial, nums .u8 xs, h, reps_nums xs⟩
set_option maxHeartbeats 4000000 in
set_option maxRecDepth 100000 in
theorem clone53_at (A0 : Option Addr) (c0 : Nat) (l0 : List Int) (w : World) (hr0 : Kd.C (Kd.int .u8) w A0 l0.length l0) (hc0 : l0.length ≤ c0) (hl : l0.length ≤ 1000000) :
    Calls Try.prog 53 #[.slice A0 l0.length c0] w fun e w' => ∃ A c, e = .returned (.slice A l0.length c) ∧ Kd.R (Kd.int .u8) 5 w' w.heap.size (fun _ => True) (.slice A l0.length c) l0 ∧ Below w.heap.size w w' := by
  have HR0 := Aside0.mk hr0
  clear hr0
  have hnil : ∀ W : World, (binOp .eql 66 (.slice A0 l0.length c0) (.slice none 0 0)).run Try.prog W = .ok (.bool A0.isNone) W := fun W => eql_nil Try.underlying66 A0 l0.length c0 W
  cases A0 with
  | none =>
    have h0 : l0.length = 0 := by
      rcases Nat.eq_zero_or_pos l0.length with h | h
      · exact h
      · obtain ⟨ad, e, _⟩ := HR0.out.2.2 h
        cases e
    obtain rfl : l0 = [] := List.eq_nil_of_length_eq_zero h0
    clear h0 hl
    simp only [List.length_nil] at hnil ⊢
    go_enter Try.func53, Try.ntmps53
    go_wp2
    go_ret
    exact ⟨none, 0, rfl, Kd.R_nil _ _ _ _ _, Below.refl _ _⟩
  | some ad =>
    go_enter Try.func53, Try.ntmps53
    go_wp2_with (first
      | ((with_reducible refine gate_dst (N := 5) rfl ?_); (refine Kd.R_lit (Kd.int .u8) (w0 := w) w.heap.size 5 rfl rfl (xs := []) (inner := []) (ok := fun _ => True) (okp := fun _ => False) ?hrun ?hrep (fun _ hk => hk.elim) trivial (Below.refl _ _) (Nat.le_refl _) (by simp) ?_); (case hrun => first | (go_simp; done) | (go_simp; rfl)); (case hrep => first | exact Reps.nil | exact ⟨rfl, fun j p hj => by simp at hj⟩); intro v5 w5 ho hb hg hat; have HO := Aside0.mk ho; have HB := Aside0.mk hb; clear ho hb hg hat)
      | ((with_reducible refine gate_builtin (b := .append) (xs := #[.tmp 5, .tmp 6]) rfl ?_); at_builtin; (refine Kd.R_append_row (Value.int .u8) 0 (w0 := w) w.heap.size rfl (.tmp 5) (.tmp 6) 66 5 (.int .u8 0) 1 rfl Try.underlying66 infoU8 rfl (by omega) _ [] l0 _ _ _ (fun _ => True) rfl rfl (fun _ _ => trivial) HO.out (Kd.C_below HR0.out HB.out) HB.out (below_size HB.out) (by simp; omega) ?_); intro v7 w7 ho hb hg hat; have n0 := Aside0.mk ho; have n1 := Aside0.mk hb; clear ho hb hg hat))
    go_ret
    obtain ⟨A, c, hv⟩ := R_form n0.out
    rw [List.nil_append] at hv n0
    subst hv
    exact ⟨A, c, rfl, n0.out, n1.out⟩

end Go.Proofs.Ytjieagpfnnbiiaa.XLin
