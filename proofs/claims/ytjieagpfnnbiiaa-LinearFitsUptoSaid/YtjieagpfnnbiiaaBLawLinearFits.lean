import Derived.Test.YtjieagpfnnbiiaaRows
import Derived.Test.YtjieagpfnnbiiaaBXLinOp
import Derived.ChangeArms
import Derived.Test.YtjieagpfnnbiiaaBHLin28
import Derived.WalkKit
import Derived.ProofKit
import Derived.OpenShut
import Derived.ShutString
import Derived.ChangeOld
import Derived.Below
import Derived.SizedLaws
import Derived.JoinedCond
/- What the bound of a narrowed statement gives: a slice's length, and the lengths of the rows within a slice of calls. The first lemmas began as the seat's how-to for a narrowed statement. -/
namespace Go.Proofs.Ytjieagpfnnbiiaa.bulks
open Go Go.RowKit Go.Proofs.YtjieagpfnnbiiaaW.PrintWords Go.Proofs.Ytjieagpfnnbiiaa.HOpen Go.Proofs.Ytjieagpfnnbiiaa.XLin

theorem one_le {H : Type} (d : DataW H) : 1 ≤ Rows.uptoBulk d := by
  cases d with
  | lit l => cases l <;> simp [Rows.uptoBulk]
  | nil => simp [Rows.uptoBulk]
  | ptr d => simp [Rows.uptoBulk]
  | slice elems spare => simp [Rows.uptoBulk]
  | agg parts => simp [Rows.uptoBulk]
  | iface t d => simp [Rows.uptoBulk]
  | map entries => simp [Rows.uptoBulk]
  | held h => simp [Rows.uptoBulk]
theorem part_le {H : Type} {d : DataW H} {l : List (DataW H)} (h : d ∈ l) : Rows.uptoBulk d ≤ Rows.uptoBulkAll l := by
  induction l with
  | nil => cases h
  | cons x r ih =>
    simp only [Rows.uptoBulkAll]
    cases List.mem_cons.1 h with
    | inl e => subst e; omega
    | inr e => have := ih e; omega
theorem append {H : Type} (l r : List (DataW H)) : Rows.uptoBulkAll (l ++ r) = Rows.uptoBulkAll l + Rows.uptoBulkAll r := by
  induction l with
  | nil => simp [Rows.uptoBulkAll]
  | cons x l ih => simp only [List.cons_append, Rows.uptoBulkAll, ih]; omega
theorem length_le {H : Type} (l : List (DataW H)) : l.length ≤ Rows.uptoBulkAll l := by
  induction l with
  | nil => simp [Rows.uptoBulkAll]
  | cons x r ih => have := one_le x; simp only [Rows.uptoBulkAll, List.length_cons]; omega
theorem bound {H : Type} {l : List (DataW H)} (hk : Rows.uptoSmall H l = true) : Rows.uptoBulkAll l ≤ 1048576 := by
  simpa [Rows.uptoSmall] using hk

/-- A slice is not longer than its bulk. -/
theorem len_le {H : Type} {enc : TypeId × Value → H} {P : Program} {T E : TypeId} (h : P.underlying T = some (.slice E)) {w : World} {base : Nat} {spare : Nat → Bool} {held : Bool} {fuel : Nat} {A : Option Addr} {n c : Nat} {x : DataW H × List MemPlace} (hx : DataW.trod enc P w base spare held fuel T [.slice A n c] = some x) : n ≤ Rows.uptoBulk x.1 := by
  rcases DataW.trod_slice h hx with ⟨h1, _⟩ | ⟨a, len, cap, elems, rest, m, _, h1, rfl, _, _, _, hlen, _⟩
  · simp only [List.cons.injEq, Value.slice.injEq] at h1
    omega
  · simp only [List.cons.injEq, Value.slice.injEq] at h1
    have := length_le (elems.map (·.1))
    rw [List.length_map] at this
    simp only [Rows.uptoBulk]
    omega

/-- What opens at E with a word on its bulk opens so in a slice, each element. -/
theorem opens_slice_upto {P : Program} {α : Type} {k : Kd α} {T E : TypeId} {ok : α → Nat → Prop} (h : P.underlying T = some (.slice E)) (hs : P.cellsOf E = k.sz) (hmono : ∀ a m n, m ≤ n → ok a m → ok a n)
    {H : Type} (enc : TypeId × Value → H) (w : World) (base : Nat) (spare : Nat → Bool) (held : Bool) (fuel : Nat)
    (ho : ∀ (fuel : Nat) (cs : List Value) (x : DataW H × List MemPlace), DataW.trod enc P w base spare held fuel E cs = some x → ∃ a, k.K w a cs ∧ ok a (Rows.uptoBulk x.1))
    (cs : List Value) (x : DataW H × List MemPlace) (hx : DataW.trod enc P w base spare held fuel T cs = some x) : ∃ xs, (Kd.slice E k).K w xs cs ∧ xs.length ≤ 9223372036854775807 ∧ ∀ y ∈ xs, ok y (Rows.uptoBulk x.1) := by
  rcases DataW.trod_slice h hx with ⟨rfl, _⟩ | ⟨a, len, cap, elems, rest, n, rfl, rfl, rfl, hb, hl, hm, hlen, hel, _, _⟩
  · exact ⟨[], ⟨none, 0, rfl, Nat.le_refl _, rfl, by simp, fun hp => absurd hp (by simp)⟩, by simp, fun x hx => by cases hx⟩
  · obtain ⟨l, hll, hq⟩ := all_of (fun i y => ∃ c, c.length = k.sz ∧ k.K w y c ∧ (∀ j u, c[j]? = some u → w.cell? (a.add (i * k.sz + j)) = some u) ∧ ok y (Rows.uptoBulkAll (elems.map (·.1)))) len (fun i hi => by
      have he := hel i hi
      have hi2 : i < elems.length := by omega
      rw [List.getElem?_eq_getElem hi2, Option.bind_eq_some_iff] at he
      obtain ⟨ci, hci, hti⟩ := he
      obtain ⟨y, hy, hoky⟩ := ho n ci _ hti
      obtain ⟨h1, h2⟩ := cells?_get hci
      refine ⟨y, ci, h1.trans hs, hy, fun j u hu => ?_, hmono _ _ _ (part_le (List.mem_map.2 ⟨_, List.getElem_mem hi2, rfl⟩)) hoky⟩
      have h3 := h2 j u hu
      rw [hs] at h3
      have ha : (a.add (i * k.sz)).add j = a.add (i * k.sz + j) := by
        unfold Addr.add
        by_cases e1 : i * k.sz = 0 <;> by_cases e2 : j = 0 <;> simp [e1, e2, Nat.add_assoc]
      rw [← ha]; exact h3)
    refine ⟨l, ⟨some a, cap, by rw [hll], by omega, rfl, ?_, fun hp => ⟨a, rfl, fun j p hp => ?_⟩⟩, ?_, fun y hy => ?_⟩
    · unfold maxLen at hm; omega
    · obtain ⟨c, h1, h2, h3, _⟩ := hq j p hp
      exact ⟨c, h1, h2, h3⟩
    · unfold maxLen at hm; omega
    · obtain ⟨i, hi⟩ := List.getElem?_of_mem hy
      obtain ⟨_, _, _, _, h4⟩ := hq i y hi
      refine hmono _ _ _ ?_ h4
      simp only [Rows.uptoBulk]
      omega

/-- A call, and its operations' number. -/
theorem opens32_upto {H : Type} (enc : TypeId × Value → H) (w : World) (base : Nat) (spare : Nat → Bool) (held : Bool) (fuel : Nat) (cs : List Value) (x : DataW H × List MemPlace) (hx : DataW.trod enc Try.prog w base spare held fuel 32 cs = some x) : ∃ y : S32, k32.K w y cs ∧ y.f1.length ≤ Rows.uptoBulk x.1 := by
  obtain ⟨y, hk, _⟩ := opens32.out enc w base spare held fuel cs x hx
  refine ⟨y, hk, ?_⟩
  obtain ⟨A1, c1, rfl, _⟩ := k32_open hk
  obtain ⟨xs, n, rfl, rfl, hl, hxl, hf⟩ := DataW.trod_struct Try.underlying32 hx
  have hxl : xs.length = 5 := hxl
  have e1 : DataW.trod enc Try.prog w base spare held n 30 ((([.int .u8 y.f0, .slice A1 y.f1.length c1, .string y.f2, .string y.f3, .int .i64 y.f4] : List Value).drop 1).take (Try.prog.cellsOf 30)) = xs[1]? := hf 1 _ rfl
  rw [List.getElem?_eq_getElem (by omega), show Try.prog.cellsOf 30 = 1 by kernel_rfl] at e1
  have := len_le Try.underlying30 e1
  have h2 : Rows.uptoBulk xs[1].1 ≤ Rows.uptoBulkAll (xs.map (·.1)) := part_le (List.mem_map.2 ⟨_, List.getElem_mem _, rfl⟩)
  simp only [Rows.uptoBulk]
  omega
/-- The calls, each with its operations' number. -/
theorem opens23_upto {H : Type} (enc : TypeId × Value → H) (w : World) (base : Nat) (spare : Nat → Bool) (held : Bool) (fuel : Nat) (cs : List Value) (x : DataW H × List MemPlace) (hx : DataW.trod enc Try.prog w base spare held fuel 23 cs = some x) : ∃ xs : List S32, (Kd.slice 32 k32).K w xs cs ∧ xs.length ≤ 9223372036854775807 ∧ ∀ y ∈ xs, y.f1.length ≤ Rows.uptoBulk x.1 :=
  opens_slice_upto (ok := fun (y : S32) n => y.f1.length ≤ n) Try.underlying23 (by kernel_rfl) (fun a m n h1 h2 => Nat.le_trans h2 h1) enc w base spare held fuel (fun f cs x hx => opens32_upto enc w base spare held f cs x hx) cs x hx
end Go.Proofs.Ytjieagpfnnbiiaa.bulks
/- The row, in the second form: LinearFits where what it reads is of bulk at most 1048576. The frame began as the seat's printed row of LinearAlone and its how-to for a narrowed statement. -/
namespace Go.Proofs.Ytjieagpfnnbiiaa.linearFits
open Go.ChangeShapes Go.WideShapes Go.ChangeAt Go.RowKit Go.Proofs.YtjieagpfnnbiiaaW.PrintWords Go.Proofs.Ytjieagpfnnbiiaa.HOpen Go.Proofs.Ytjieagpfnnbiiaa.XLin
open Go.ChangeMaps (open_string shut_string)
set_option linter.unusedVariables false
theorem own : ownKnob Try.prog.godebug = none := by kernel_rfl
theorem laidOut : laidOutB Try.prog = true := by kernel_rfl
set_option maxRecDepth 100000 in
theorem lifted (os : Os) (started : os.Started) (H : Type) (enc : TypeId × Value → H) (F : Stop.Interp) :
    ReturnsInHanded {} Try.checked os 4 .any ((Rows.OpenSpec.upto Rows.linearFitsSpec).pre6 enc Try.prog Try.f4 Rows.linearFitsUptoRow.domain false) (((Rows.OpenSpec.upto Rows.linearFitsSpec).at F).post enc Try.prog Try.f4 false true false false) := by
  refine returnsInHanded_of_cond (C := Try.checked) (s := Rows.OpenSpec.upto Rows.linearFitsSpec) (k := Rows.uptoSmall) rfl own started (by kernel_rfl) Try.func4
    (OpenSpec.witness (enc := enc) (C := Try.checked) (s := Rows.OpenSpec.upto Rows.linearFitsSpec) (k := Rows.uptoSmall) rfl false ⟨#[], #[.slice none 0 0, .slice none 0 0, .int .u8 0, .int .u16 0, .int .i64 0], []⟩ 8 (by kernel_rfl) (by kernel_rfl) (by kernel_rfl)
      (x := ([.nil, .nil, .lit (.int .u8 0), .lit (.int .u16 0), .lit (.int .i64 0)], [], [])) (by kernel_rfl) rfl (by kernel_rfl)) ?_
  intro W base args ds gs before hval0 hW hcnd hk _
  have hval : ∀ (j : Nat) t v, Try.f4.params[j]? = some t → args[j]? = some v → Value.okWide Try.prog W .any base t v := hval0
  have hW' := hW
  obtain ⟨p, q, hA0, hV, rfl, hfz, hnd⟩ := hW
  have hA : DataW.TrodAll enc Try.prog W 0 (fun _ => true) true Try.f4.params.toList args.toList ds p := hA0
  rw [Try.params4] at hA hval
  obtain ⟨v0, vs0, d0, ds0, p0, q0, hargs, rfl, rfl, h0, r0⟩ := trodAll_cons hA
  obtain ⟨v1, vs1, d1, ds1, p1, q1, rfl, rfl, rfl, h1, r1⟩ := trodAll_cons r0
  obtain ⟨v2, vs2, d2, ds2, p2, q2, rfl, rfl, rfl, h2, r2⟩ := trodAll_cons r1
  obtain ⟨v3, vs3, d3, ds3, p3, q3, rfl, rfl, rfl, h3, r3⟩ := trodAll_cons r2
  obtain ⟨v4, vs4, d4, ds4, p4, q4, rfl, rfl, rfl, h4, r4⟩ := trodAll_cons r3
  obtain ⟨rfl, rfl, rfl⟩ := trodAll_nil r4
  obtain rfl : args = #[v0, v1, v2, v3, v4] := by cases args; simp_all
  obtain ⟨rfl, rfl⟩ := trodVars_none hV
  have hsum := bulks.bound hk
  simp only [List.append_nil, Rows.uptoBulkAll] at hsum
  obtain ⟨a0, len0, cap0, rfl⟩ := okWide_slice Try.underlying22 (hval 0 22 v0 rfl rfl)
  have k0 := h0
  have lt0 : ∀ x ∈ p0, x.block < W.heap.size := by obtain ⟨m, hm⟩ := k0; exact DataW.trod_lt m _ _ _ hm
  obtain ⟨fu0, hf0⟩ := h0
  have hb0 := bulks.len_le Try.underlying22 hf0
  obtain ⟨x0, ⟨A0, c0, hcs0, hl0, hr0⟩, ok0⟩ := opens22.out _ _ _ _ _ _ _ _ hf0
  obtain ⟨rfl, rfl, rfl⟩ : a0 = A0 ∧ len0 = x0.length ∧ cap0 = c0 := by simpa [Value.cells] using hcs0
  obtain ⟨a1, len1, cap1, rfl⟩ := okWide_slice Try.underlying23 (hval 1 23 v1 rfl rfl)
  have k1 := h1
  have lt1 : ∀ x ∈ p1, x.block < W.heap.size := by obtain ⟨m, hm⟩ := k1; exact DataW.trod_lt m _ _ _ hm
  obtain ⟨fu1, hf1⟩ := h1
  obtain ⟨x1, ⟨A1, c1, hcs1, hl1, hr1⟩, _, hb1⟩ := bulks.opens23_upto _ _ _ _ _ _ _ _ hf1
  obtain ⟨rfl, rfl, rfl⟩ : a1 = A1 ∧ len1 = x1.length ∧ cap1 = c1 := by simpa [Value.cells] using hcs1
  obtain ⟨a2, rfl, rfl, rfl, w2⟩ := open_int Try.underlying5 (hval 2 5 v2 rfl rfl) h2
  obtain ⟨a3, rfl, rfl, rfl, w3⟩ := open_int Try.underlying42 (hval 3 42 v3 rfl rfl) h3
  obtain ⟨a4, rfl, rfl, rfl, w4⟩ := open_int Try.underlying33 (hval 4 33 v4 rfl rfl) h4
  clear hA0 hval0
  have hb0 : x0.length ≤ Rows.uptoBulk d0 := hb0
  have hb1 : ∀ y ∈ x1, y.f1.length ≤ Rows.uptoBulk d1 := hb1
  refine (fits_walk _ _ x0 _ _ x1 a2 a3 a4 W hr0 hl0 hr1 hl1 (by have h := okInt_u8 w2; omega) (by have h := okInt_u8 w2; omega) (by have h := okInt_u16 w3; omega) (by have h := okInt_u16 w3; omega) (by omega) (fun y hy _ => by have := hb1 y hy; omega)).mono fun e W' ⟨he, bel⟩ => ?_
  subst he
  exact ⟨_, rfl, _, _, _, [], _, [], hW', trodAll_mk1 (shut_bool Try.underlying4 _), (trodAll_cons_mk (Below.trod laidOut (by kernel_rfl) (of_decide_eq_true (by kernel_rfl)) k0 bel lt0) (trodAll_cons_mk (Below.trod laidOut (by kernel_rfl) (of_decide_eq_true (by kernel_rfl)) k1 bel lt1) (trodAll_cons_mk (shut_int Try.underlying5 w2) (trodAll_cons_mk (shut_int Try.underlying42 w3) (trodAll_cons_mk (shut_int Try.underlying33 w4) trodAll_mk0))))), rfl, bel.frame _, fun h => by cases h⟩
theorem over : Rows.linearFitsUptoRow.holds Try.pinned (Rows.OpenSpec.upto Rows.linearFitsSpec) :=
  OpenClaim.holds_of_cond 4 Try.f4 rfl rfl rfl rfl rfl rfl rfl ⟨rfl, rfl, rfl, rfl, rfl⟩ rfl rfl rfl rfl rfl (by kernel_rfl) Try.func4 (by kernel_rfl)
    (of_decide_eq_true (by kernel_rfl)) (by unfold Func.isWrapper; first | (rw [if_pos (by decide +kernel)]; kernel_rfl) | (rw [if_neg (by decide +kernel)]; exact ⟨rfl, rfl⟩))
    (fun os started H enc _ F => lifted os started H enc F)
theorem proved : Rows.LinearFitsUptoSaid := over
end Go.Proofs.Ytjieagpfnnbiiaa.linearFits
namespace Go.Proofs.Ytjieagpfnnbiiaa
/-- The row, under a short name, for the claim. -/
theorem linearFitsUpto_holds : Rows.LinearFitsUptoSaid := linearFits.proved
#print axioms linearFitsUpto_holds
end Go.Proofs.Ytjieagpfnnbiiaa
