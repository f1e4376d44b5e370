/- slices.Clone of numbers, bytes.Clone. -/
import Derived.Test.YteibdmpjlpcgbaaTHFind
namespace Go.Proofs.Yteibdmpjlpcgbaa.XDisk
open Go Go.RowKit Go.Proofs.YteibdmpjlpcgbaaW.PrintWords Go.Proofs.YteibdmpjlpcgbaaW.PrintLast Go.Proofs.YteibdmpjlpcgbaaW.PrintMore
open Go.Proofs.Yteibdmpjlpcgbaa
set_option linter.unusedVariables false
set_option linter.unusedSimpArgs false
theorem eqlIn_nil {P : Program} {t e : TypeId} (h : P.underlying t = some (.slice e)) (d : Nat) (a : Option Addr) (l c : Nat) (w : World) : (Op.equalIn (d + 1) t (.slice a l c) (.slice none 0 0)).run P w = .ok a.isNone w := by
  cases a <;> simp [Op.equalIn, run_underlying h]
theorem eql_nil {P : Program} {t e : TypeId} (h : P.underlying t = some (.slice e)) (a : Option Addr) (l c : Nat) (w : World) : (binOp .eql t (.slice a l c) (.slice none 0 0)).run P w = .ok (.bool a.isNone) w := by
  have h1 : (Op.equal t (.slice a l c) (.slice none 0 0)).run P w = .ok a.isNone w := eqlIn_nil h 9999 a l c w
  simp [binOp, h1]
theorem infoI64 : (Try.prog.info? 3).map (fun i => (i.zero, i.size, i.bytes)) = some (some (.int .i64 0), 1, 8) := by kernel_rfl
set_option maxHeartbeats 4000000 in
set_option maxRecDepth 100000 in
theorem clone33_at (A0 : Option Addr) (c0 : Nat) (l0 : List Int) (w : World) (hr0 : Kd.C (Kd.int .i64) w A0 l0.length l0) (hc0 : l0.length ≤ c0) (hl : l0.length ≤ 1000000) :
    Calls Try.prog 33 #[.slice A0 l0.length c0] w fun e w' => ∃ A c, e = .returned (.slice A l0.length c) ∧ Kd.R (Kd.int .i64) 3 w' w.heap.size (fun _ => True) (.slice A l0.length c) l0 ∧ Below w.heap.size w w' := by
  have HR0 := Aside0.mk hr0
  clear hr0
  have hnil : ∀ W : World, (binOp .eql 22 (.slice A0 l0.length c0) (.slice none 0 0)).run Try.prog W = .ok (.bool A0.isNone) W := fun W => eql_nil Try.underlying22 A0 l0.length c0 W
  cases A0 with
  | none =>
    have h0 : l0.length = 0 := by
      rcases Nat.eq_zero_or_pos l0.length with h | h
      · exact h
      · obtain ⟨ad, e, _⟩ := HR0.out.2.2 h
        cases e
    obtain rfl : l0 = [] := List.eq_nil_of_length_eq_zero h0
    clear h0 hl
    simp only [List.length_nil] at hnil ⊢
    go_enter Try.func33, Try.ntmps33
    go_wp2
    go_ret
    exact ⟨none, 0, rfl, Kd.R_nil _ _ _ _ _, Below.refl _ _⟩
  | some ad =>
    go_enter Try.func33, Try.ntmps33
    go_wp2_with (first
      | ((with_reducible refine gate_dst (N := 5) rfl ?_); (refine Kd.R_lit (Kd.int .i64) (w0 := w) w.heap.size 3 rfl rfl (xs := []) (inner := []) (ok := fun _ => True) (okp := fun _ => False) ?hrun ?hrep (fun _ hk => hk.elim) trivial (Below.refl _ _) (Nat.le_refl _) (by simp) ?_); (case hrun => first | (go_simp; done) | (go_simp; rfl)); (case hrep => first | exact Reps.nil | exact ⟨rfl, fun j p hj => by simp at hj⟩); intro v5 w5 ho hb hg hat; have HO := Aside0.mk ho; have HB := Aside0.mk hb; clear ho hb hg hat)
      | ((with_reducible refine gate_builtin (b := .append) (xs := #[.tmp 5, .tmp 6]) rfl ?_); at_builtin; (refine Kd.R_append_row (Value.int .i64) 0 (w0 := w) w.heap.size rfl (.tmp 5) (.tmp 6) 22 3 (.int .i64 0) 8 rfl Try.underlying22 infoI64 rfl (by omega) _ [] l0 _ _ _ (fun _ => True) rfl rfl (fun _ _ => trivial) HO.out (Kd.C_below HR0.out HB.out) HB.out (below_size HB.out) (by simp; omega) ?_); intro v7 w7 ho hb hg hat; have n0 := Aside0.mk ho; have n1 := Aside0.mk hb; clear ho hb hg hat))
    go_ret
    obtain ⟨A, c, hv⟩ := R_form n0.out
    rw [List.nil_append] at hv n0
    subst hv
    exact ⟨A, c, rfl, n0.out, n1.out⟩
set_option maxHeartbeats 4000000 in
set_option maxRecDepth 100000 in
theorem clone46_at (A0 : Option Addr) (c0 : Nat) (l0 : List Int) (w : World) (hr0 : Kd.C (Kd.int .u8) w A0 l0.length l0) (hc0 : l0.length ≤ c0) (hl : l0.length ≤ 1000000) :
    Calls Try.prog 46 #[.slice A0 l0.length c0] w fun e w' => ∃ A c, e = .returned (.slice A l0.length c) ∧ Kd.R (Kd.int .u8) 5 w' w.heap.size (fun _ => True) (.slice A l0.length c) l0 ∧ Below w.heap.size w w' := by
  have HR0 := Aside0.mk hr0
  clear hr0
  have hnil : ∀ W : World, (binOp .eql 30 (.slice A0 l0.length c0) (.slice none 0 0)).run Try.prog W = .ok (.bool A0.isNone) W := fun W => eql_nil Try.underlying30 A0 l0.length c0 W
  cases A0 with
  | none =>
    have h0 : l0.length = 0 := by
      rcases Nat.eq_zero_or_pos l0.length with h | h
      · exact h
      · obtain ⟨ad, e, _⟩ := HR0.out.2.2 h
        cases e
    obtain rfl : l0 = [] := List.eq_nil_of_length_eq_zero h0
    clear h0 hl
    simp only [List.length_nil] at hnil ⊢
    go_enter Try.func46, Try.ntmps46
    go_wp2
    go_ret
    exact ⟨none, 0, rfl, Kd.R_nil _ _ _ _ _, Below.refl _ _⟩
  | some ad =>
    go_enter Try.func46, Try.ntmps46
    go_wp2_with (first
      | ((with_reducible refine gate_dst (N := 5) rfl ?_); (refine Kd.R_lit (Kd.int .u8) (w0 := w) w.heap.size 5 rfl rfl (xs := []) (inner := []) (ok := fun _ => True) (okp := fun _ => False) ?hrun ?hrep (fun _ hk => hk.elim) trivial (Below.refl _ _) (Nat.le_refl _) (by simp) ?_); (case hrun => first | (go_simp; done) | (go_simp; rfl)); (case hrep => first | exact Reps.nil | exact ⟨rfl, fun j p hj => by simp at hj⟩); intro v5 w5 ho hb hg hat; have HO := Aside0.mk ho; have HB := Aside0.mk hb; clear ho hb hg hat)
      | ((with_reducible refine gate_builtin (b := .append) (xs := #[.tmp 5, .tmp 6]) rfl ?_); at_builtin; (refine Kd.R_append_row (Value.int .u8) 0 (w0 := w) w.heap.size rfl (.tmp 5) (.tmp 6) 30 5 (.int .u8 0) 1 rfl Try.underlying30 infoU8 rfl (by omega) _ [] l0 _ _ _ (fun _ => True) rfl rfl (fun _ _ => trivial) HO.out (Kd.C_below HR0.out HB.out) HB.out (below_size HB.out) (by simp; omega) ?_); intro v7 w7 ho hb hg hat; have n0 := Aside0.mk ho; have n1 := Aside0.mk hb; clear ho hb hg hat))
    go_ret
    obtain ⟨A, c, hv⟩ := R_form n0.out
    rw [List.nil_append] at hv n0
    subst hv
    exact ⟨A, c, rfl, n0.out, n1.out⟩
end Go.Proofs.Yteibdmpjlpcgbaa.XDisk
