/- Bytes are put behind a file's: what append comes to. -/
import Derived.Test.YteibdmpjlpcgbaaTHUsed
namespace Go.Proofs.Yteibdmpjlpcgbaa.XDisk
open Go Go.RowKit Go.Proofs.YteibdmpjlpcgbaaW.PrintWords Go.Proofs.YteibdmpjlpcgbaaW.PrintLast Go.Proofs.YteibdmpjlpcgbaaW.PrintMore
open Go.Proofs.Yteibdmpjlpcgbaa
set_option linter.unusedVariables false
set_option linter.unusedSimpArgs false
theorem infoU8 : (Try.prog.info? 5).map (fun i => (i.zero, i.size, i.bytes)) = some (some (.int .u8 0), 1, 1) := by kernel_rfl
theorem R_form {α : Type} {d : Kd α} {e base : Nat} {W : World} {ok : Nat → Prop} {v : Value} {xs : List α} (h : d.R e W base ok v xs) : ∃ A c, v = .slice A xs.length c := by
  obtain ⟨inner, ho⟩ := Kd.R_own h
  rcases ho.2 with ⟨h1, h2⟩ | ⟨g, cap, cur, h1, _⟩
  · rw [← h2] at h1; exact ⟨none, 0, by rw [h1, h2]⟩
  · exact ⟨_, _, h1⟩
set_option maxRecDepth 100000 in
/-- append(v, d...) of bytes, whether it grows or not. -/
theorem app_run (W : World) (ok : Nat → Prop) (v : Value) (b d : List Int) (Ab : Option Addr) (cb : Nat) (ty : TypeId) (HO : Kd.R (Kd.int .u8) 5 W 0 ok v b) (HR : Kd.C (Kd.int .u8) W Ab d.length d) (hl : b.length + d.length ≤ 100000000) :
    ∃ A1 c1 w1, (Builtin.append_ #[30, 30] ty #[v, .slice Ab d.length cb]).run Try.prog W = .ok (.slice A1 (b ++ d).length c1) w1 ∧ Kd.R (Kd.int .u8) 5 w1 0 (fun k => ok k ∨ W.heap.size ≤ k) (.slice A1 (b ++ d).length c1) (b ++ d) ∧ W.grownBy w1 v.ownBlock := by
  obtain ⟨i0, hi, hzz⟩ := Option.map_eq_some_iff.1 infoU8
  simp only [Prod.mk.injEq] at hzz
  obtain ⟨hz0, hz1, hz2⟩ := hzz
  have hown := Kd.own_of_R HO
  have hR := Kd.reads_of_C (d := (0 : Int)) HR
  have key : ∃ v1 w1, (Builtin.append_ #[30, 30] ty #[v, .slice Ab d.length cb]).run Try.prog W = .ok v1 w1 ∧ Kd.R (Kd.int .u8) 5 w1 0 (fun k => ok k ∨ W.heap.size ≤ k) v1 (b ++ d) ∧ W.grownBy w1 v.ownBlock := by
    rcases Ab with _ | ad
    · have h0 : d.length = 0 := by
        rcases Nat.eq_zero_or_pos d.length with h0 | h0
        · exact h0
        · obtain ⟨ad, h, _⟩ := hR.2.2 h0
          cases h
      obtain rfl : d = [] := List.eq_nil_of_length_eq_zero h0
      refine ⟨v, W, ?_, by rw [List.append_nil]; exact Kd.R_mono HO (fun k hk => .inl hk), World.grownBy.refl W _⟩
      rcases hown.2 with ⟨rfl, hn⟩ | ⟨g, cap, cur, rfl, _, _, hnc, _⟩
      · simp [Builtin.append_, run_underlying Try.underlying30, sizeOf, typeInfo, hi, Builtin.lenOf, Builtin.firstCells]
      · simp [Builtin.append_, run_underlying Try.underlying30, sizeOf, typeInfo, hi, Builtin.lenOf, Builtin.firstCells, hnc, storeCells]
    · have hcells : ∀ j u, (encs (Value.int .u8) d)[j]? = some u → W.cell? (ad.add j) = some u := by
        intro j u hu
        have hj : j < d.length := by
          rcases Nat.lt_or_ge j d.length with h | h
          · exact h
          · simp [encs, List.getElem?_eq_none h] at hu
        rw [encs_get (d := 0) d j hj] at hu
        rw [← hu]
        obtain ⟨ad', h', hc⟩ := hR.2.2 (by omega)
        injection h' with h'
        subst h'
        exact hc j (by omega)
      obtain ⟨v1, w1, hr, h2, h3, _, h5⟩ := run_append_own_at (P := Try.prog) W 0 30 ty 5 i0 (.int .u8 0) 1 1 Try.underlying30 hi hz0 hz1 hz2 rfl (by omega) _ b.length _ hown ad d.length cb (encs (Value.int .u8) d) (by simp [encs]) hcells
        (by intro u hu; simp only [encs, List.mem_map] at hu; obtain ⟨q, _, rfl⟩ := hu; rfl) (by unfold maxLen; omega) (by omega) (Nat.zero_le _)
      refine ⟨v1, w1, hr, Kd.R_of_own (by simpa [encs] using h2) (fun k hk => ?_), h3⟩
      rcases h5 with e1 | e1
      · exact .inl (HO.1 k (by rw [← e1]; exact hk))
      · rw [e1] at hk
        injection hk with hk
        exact .inr (by omega)
  obtain ⟨v1, w1, hr, h2, h3⟩ := key
  obtain ⟨A1, c1, rfl⟩ := R_form h2
  exact ⟨A1, c1, w1, hr, h2, h3⟩
set_option maxRecDepth 100000 in
/-- The same of a file's bytes, cut or not. -/
theorem fapp_run (W : World) (ok : Nat → Prop) (v : Value) (b d : List Int) (Ab : Option Addr) (cb : Nat) (ty : TypeId) (HO : FRow W ok v b) (HR : Kd.C (Kd.int .u8) W Ab d.length d) (hl : b.length + d.length ≤ 100000000) :
    ∃ A1 c1 w1, (Builtin.append_ #[30, 30] ty #[v, .slice Ab d.length cb]).run Try.prog W = .ok (.slice A1 (b ++ d).length c1) w1 ∧ FRow w1 (fun k => ok k ∨ W.heap.size ≤ k) (.slice A1 (b ++ d).length c1) (b ++ d) ∧ W.grownBy w1 v.ownBlock := by
  rcases HO with HO | ⟨g, cur, rfl, h2, h3, h4, h5⟩
  · obtain ⟨A1, c1, w1, hr, h2, h3⟩ := app_run W ok v b d Ab cb ty HO HR hl
    exact ⟨A1, c1, w1, hr, .inl h2, h3⟩
  · obtain ⟨i0, hi, hzz⟩ := Option.map_eq_some_iff.1 infoU8
    simp only [Prod.mk.injEq] at hzz
    obtain ⟨hz0, hz1, hz2⟩ := hzz
    have hR := Kd.reads_of_C (d := (0 : Int)) HR
    rcases Nat.eq_zero_or_pos d.length with h0 | h0
    · obtain rfl : d = [] := List.eq_nil_of_length_eq_zero h0
      rw [List.append_nil]
      refine ⟨some ⟨g, 0, none⟩, b.length, W, ?_, .inr ⟨g, cur, rfl, .inl h2, h3, h4, h5⟩, World.grownBy.refl W _⟩
      cases Ab with
      | none => simp [Builtin.append_, run_underlying Try.underlying30, sizeOf, typeInfo, hi, Builtin.lenOf, Builtin.firstCells, storeCells]
      | some ad =>
        have hlc : (loadCells ad 0).run Try.prog W = .ok #[] W := by
          have := run_loadCells_list (P := Try.prog) W ad [] (fun j v hj => by simp at hj)
          simpa using this
        simp [Builtin.append_, run_underlying Try.underlying30, sizeOf, typeInfo, hi, Builtin.lenOf, Builtin.firstCells, storeCells, hlc, Result.andThen]
    · obtain ⟨ad, rfl, hc⟩ := hR.2.2 h0
      have hnews : ∀ j u, (encs (Value.int .u8) d)[j]? = some u → W.cell? (ad.add j) = some u := by
        intro j u hu
        have hj : j < d.length := by
          rcases Nat.lt_or_ge j d.length with h | h
          · exact h
          · simp [encs, List.getElem?_eq_none h] at hu
        rw [encs_get (d := 0) d j hj] at hu
        rw [← hu]
        exact hc j hj
      have holds : ∀ j u, (encs (Value.int .u8) b)[j]? = some u → W.cell? ((⟨g, 0, none⟩ : Addr).add j) = some u := by
        intro j u hu
        have hj : j < b.length := by
          rcases Nat.lt_or_ge j b.length with h | h
          · exact h
          · simp [encs, List.getElem?_eq_none h] at hu
        rw [encs_get (d := 0) b j hj] at hu
        rw [← hu]
        have e : (⟨g, 0, none⟩ : Addr).add j = ⟨g, j, none⟩ := by simp [Addr.add]; intro h; exact h.symm
        rw [e, blk_cell h3 j]
        exact h4 j hj
      obtain ⟨v1, w1, hr, ho, hg⟩ := run_append_arg_grows (P := Try.prog) W 30 ty 5 i0 (.int .u8 0) 1 1 Try.underlying30 hi hz0 hz1 hz2 rfl (by omega) ⟨g, 0, none⟩ b.length b.length (encs (Value.int .u8) b) (by simp [encs]) holds ad d.length cb (encs (Value.int .u8) d) (by simp [encs]) hnews (by omega) (by unfold maxLen; omega) (by omega)
      have ho2 : w1.ownsRow W.heap.size 5 1 v1 (b ++ d).length (encs (Value.int .u8) (b ++ d)) := by simpa [encs] using ho
      have hR1 : Kd.R (Kd.int .u8) 5 w1 0 (fun k => ok k ∨ W.heap.size ≤ k) v1 (b ++ d) := Kd.R_lower (Kd.R_of_own ho2 (fun k hk => .inr (by
        rcases ho2.2 with ⟨rfl, _⟩ | ⟨g1, cap, cur1, rfl, h6, _⟩
        · cases hk
        · simp only [Value.ownBlock, Option.some.injEq] at hk
          rw [← hk]; exact h6))) (Nat.zero_le _)
      obtain ⟨A1, c1, rfl⟩ := R_form hR1
      exact ⟨A1, c1, w1, hr, .inl hR1, ⟨hg.os, hg.tape, hg.output, hg.size, fun k hk _ => hg.block k hk (by intro e; cases e)⟩⟩
/-- As a step of a region that draws its order. -/
theorem app_step {ops : Array Oper} {o : Oper} {a : Act} {W : World} {Kc : Act → World → Prop} {Q : Exit → Act → World → Prop} (hg : o.guard = none) (s x : Operand) (hop : o.op = Op.call { callee := Callee.builtin Builtin.append, args := #[s, x], argTypes := #[30, 30] })
    (ok : Nat → Prop) (v : Value) (b d : List Int) (Ab : Option Addr) (cb : Nat) (hs : a.eval s = v) (hx : a.eval x = .slice Ab d.length cb) (HO : FRow W ok v b) (HR : Kd.C (Kd.int .u8) W Ab d.length d) (hl : b.length + d.length ≤ 100000000)
    (h : ∀ A1 c1 w1, FRow w1 (fun k => ok k ∨ W.heap.size ≤ k) (.slice A1 (b ++ d).length c1) (b ++ d) → W.grownBy w1 v.ownBlock → Kc (a.put o.dst (.slice A1 (b ++ d).length c1)) w1) :
    if Region.wanted o (yielded ops a.tmps) = true then Oper.wp Try.prog o a W Kc Q else Kc (a.put o.dst undef) W := by
  have hw : Region.wanted o (yielded ops a.tmps) = true := by simp [Region.wanted, hg]
  rw [if_pos hw]
  obtain ⟨A1, c1, w1, hr, h2, h3⟩ := fapp_run W ok v b d Ab cb o.type HO HR hl
  unfold Oper.wp
  have hk := h A1 c1 w1 h2 h3
  have hz : (b ++ d).length = b.length + d.length := List.length_append
  rw [hz] at hr hk
  simp [execOp, hop, resolve, invoke, builtin, hs, hx, hr, Result.andThen]
  exact hk
end Go.Proofs.Yteibdmpjlpcgbaa.XDisk
