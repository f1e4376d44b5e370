-- Written by a program of this session (wip/xprint.py): functions of the given Go program as plain Lean functions, and that the machine's calls come to them.
import Derived.Test.YthlahhkjoocigaaXSched0
import Derived.Test.YthlahhkjoocigaaXSched1
namespace Go.Proofs.Ythlahhkjoocigaa.XSched
open Go.RowKit Go.Proofs.YthlahhkjoocigaaW.PrintWords Go.Proofs.YthlahhkjoocigaaW.PrintLast Go.Proofs.YthlahhkjoocigaaW.PrintMore
attribute [local go_sem] max2_int min2_int max_two min_two max_three min_three max_four min_four   -- for this text's walks alone
set_option linter.unusedVariables false
set_option linter.unusedSimpArgs false

/-! ### sched_Fair: function 37 -/
def waitsN (l : List S51) (n : Int) : Int := maxL (waitL n l 0) 0
theorem waits_eq (l : List S51) (n : Int) : sched_Waits.f l n = some (waitsN l n) := rfl
def cans (l : List S51) : Nat := (l.map fun t => t.f1.length).sum
/-- What is asked of the turns: their tasks are whole numbers of the machine's, and not beyond all bounds many. -/
def sizedL (l : List S51) : Bool := decide (cans l ≤ 4611686018427387904) && l.all fun t => t.f1.all fun n => (Lit.int .i64 n).wf
def sched_Fair.f (l0 : List S51) (a1 : Int) : Option Bool :=
  if sizedL l0 = true then (if a1 < 1 then some false else some (l0.all fun t => t.f1.all fun n => decide (waitsN l0 n < a1))) else none

theorem cans_take (l : List S51) (i : Nat) (hi : i < l.length) : cans (l.take (i + 1)) = cans (l.take i) + l[i].f1.length := by
  unfold cans
  rw [List.take_succ_eq_append_getElem hi, List.map_append, List.sum_append]; simp
theorem cans_le (l : List S51) (i : Nat) : cans (l.take i) ≤ cans l := by
  unfold cans
  have h : ∀ (l : List Nat) (i : Nat), (l.take i).sum ≤ l.sum := fun l i => by
    conv => rhs; rw [← List.take_append_drop i l, List.sum_append]
    omega
  rw [List.map_take]; exact h _ _

theorem zero3 (W : World) : (zeroValue 3).run Try.prog W = .ok (.int .i64 0) W := by kernel_rfl
def im66 : HIntMap.IM Try.prog 66 .i64 .i64 := ⟨3, 3, Try.underlying66, Try.underlying3, Try.underlying3, zero3⟩
/-- Who has been counted. -/
def Seen (f : Int → Option Int) (s : List Int) : Prop := ∀ x, (f x).isSome = decide (x ∈ s)
theorem seen_put {f : Int → Option Int} {s : List Int} (h : Seen f s) (x v : Int) : Seen (fun y => if y = x then some v else f y) (s ++ [x]) := by
  intro y
  by_cases e : y = x
  · subst e; simp
  · simp [e, h y]
def seenOf (l : List S51) : List Int := l.flatMap fun t => t.f1

theorem wf_all {l : List S51} (h : sizedL l = true) : ∀ t ∈ l, ∀ x ∈ t.f1, (Lit.int .i64 x).wf = true := by
  intro t ht
  unfold sizedL at h
  rw [Bool.and_eq_true, List.all_eq_true] at h
  have h2 := h.2 t ht
  rw [List.all_eq_true] at h2
  exact h2

set_option maxHeartbeats 4000000 in
set_option maxRecDepth 100000 in
theorem sched_Fair.calls (A0 : Option Addr) (c0 : Nat) (l0 : List S51) (a1 : Int) (r : Bool) (w : World) (hr0 : Kd.C k51 w A0 l0.length l0) (hc0 : l0.length ≤ c0) (h : sched_Fair.f l0 a1 = some r) :
    Calls Try.prog 37 #[.slice A0 l0.length c0, .int .i64 a1] w fun e w' => e = .returned (.bool r) ∧ Below w.heap.size w w' := by
  unfold sched_Fair.f at h
  by_cases hsz : sizedL l0 = true
  · rw [if_pos hsz] at h
    have HR0 := Aside0.mk hr0
    have HC0 := Aside0.mk hc0
    have hl0 : l0.length ≤ 9223372036854775807 := hr0.2.1
    clear hr0 hc0
    by_cases h1 : a1 < 1
    · rw [if_pos h1] at h
      obtain rfl := Option.some.inj h
      go_enter Try.func37, Try.ntmps37
      go_wp2
      go_ret
      exact ⟨rfl, Below.refl _ _⟩
    · rw [if_neg h1] at h
      have H := Aside0.mk (Option.some.inj h)
      have HS := Aside0.mk hsz
      have h1b : decide (a1 < 1) = false := decide_eq_false h1
      have hmm := @run_makeMap Try.prog
      clear h hsz h1
      go_enter Try.func37, Try.ntmps37
      go_wp2
      go_loopw [16] (fun v16 wr => ∃ (i n : Nat) (f : Int → Option Int), i ≤ l0.length ∧ v16 = .int .i64 i ∧ Aside0 (n ≤ cans (l0.take i)) ∧ Aside0 (Seen f (seenOf (l0.take i))) ∧ Aside0 (HIntMap.Owns im66 wr w.heap.size n f) ∧ Aside0 (Below w.heap.size w wr)) (fun v16 _ => l0.length - (intOf v16).toNat)
      case atStart => exact ⟨0, 0, fun _ => none, Nat.zero_le _, rfl, ⟨Nat.zero_le _⟩, ⟨fun x => rfl⟩, ⟨HIntMap.owns_made im66 w⟩, ⟨below_alloc (Below.refl _ _) _⟩⟩
      case round =>
        obtain ⟨i, n, f, hi, rfl, HN, HSE, OW, HB⟩ := hrel
        by_cases hlt : i < l0.length
        · have hct := Aside0.mk (cans_take l0 i hlt)
          have htk := Aside0.mk (List.take_succ_eq_append_getElem hlt)
          have hal := Aside0.mk (cans_le l0 (i + 1))
          obtain ⟨ad, A1, c1, e0, hx0, hx1, hl1, hi1⟩ := at_T51 HR0.out (i : Int) (by omega) (by omega)
          subst e0
          replace hx0 := (HB.out.cell (World.block_lt_of_cell? w _ hx0)).trans hx0
          replace hx1 := (HB.out.cell (World.block_lt_of_cell? w _ hx1)).trans hx1
          have hgd : l0.getD i z51 = l0[i] := by simp [List.getD_eq_getElem?_getD, hlt]
          have hall : ∀ n ∈ l0[i].f1, (Lit.int .i64 n).wf = true := by
            have hs := HS.out
            unfold sizedL at hs
            rw [Bool.and_eq_true, List.all_eq_true] at hs
            have h2 := hs.2 l0[i] (List.getElem_mem hlt)
            rw [List.all_eq_true] at h2
            exact h2
          have htot : cans l0 ≤ 4611686018427387904 := by
            have hs := HS.out
            unfold sizedL at hs
            rw [Bool.and_eq_true] at hs
            exact of_decide_eq_true hs.1
          simp only [rd_T51, Int.toNat_natCast, hgd] at hx0 hx1 hl1 hi1
          generalize l0[i] = x at hx0 hx1 hl1 hi1 hct htk hall
          have HALL := Aside0.mk hall
          have HTOT := Aside0.mk htot
          have HR1 := Aside0.mk hi1
          have HC1 := Aside0.mk hl1
          have hl1' : x.f1.length ≤ 9223372036854775807 := hi1.2.1
          clear hi1 hl1 hgd hall htot
          go_wp2
          go_loopw [23] (fun v23 wq => ∃ (j n : Nat) (f : Int → Option Int), j ≤ x.f1.length ∧ v23 = .int .i64 j ∧ Aside0 (n ≤ cans (l0.take i) + j) ∧ Aside0 (Seen f (seenOf (l0.take i) ++ x.f1.take j)) ∧ Aside0 (HIntMap.Owns im66 wq w.heap.size n f) ∧ Aside0 (Below w.heap.size w wq)) (fun v23 _ => x.f1.length - (intOf v23).toNat)
          case atStart => exact ⟨0, n, f, Nat.zero_le _, rfl, ⟨HN.out⟩, ⟨by rw [List.take_zero, List.append_nil]; exact HSE.out⟩, ⟨HIntMap.owns_alloc OW.out _⟩, ⟨below_alloc HB.out _⟩⟩
          case round =>
            clear HN HSE OW hx0 hx1
            obtain ⟨j, n, f, hj, rfl, HN0, HSE, OW, HB2⟩ := hrel
            by_cases hlj : j < x.f1.length
            · obtain ⟨ad2, e2, hy⟩ := Kd.at_int HR1.out (j : Int) (by omega) (by omega)
              subst e2
              replace hy := (HB2.out.cell (World.block_lt_of_cell? w _ hy)).trans hy
              have hgd : x.f1.getD j 0 = x.f1[j] := by simp [List.getD_eq_getElem?_getD, hlj]
              simp only [rd, Int.toNat_natCast, hgd] at hy
              have hwf : (Lit.int .i64 x.f1[j]).wf = true := HALL.out _ (List.getElem_mem hlj)
              have htj := Aside0.mk (List.take_succ_eq_append_getElem hlj)
              have HN := Aside0.mk (show n < maxLen by unfold maxLen; have h1 := HN0.out; have h2 := hct.out; have h3 := hal.out; have h4 := HTOT.out; omega)
              generalize x.f1[j] = y at hy hwf htj
              clear hgd
              go_wp2_with (first | (at_lookup; (with_reducible refine HIntMap.wp_look im66 _ rfl (.tmp 27) (.tmp 28) rfl w.heap.size _ f ?h1 OW.out _ ?h2 hwf ?_); (case h1 => rfl); (case h2 => rfl)) | (at_mapUpdate; (with_reducible refine HIntMap.wp_store im66 _ rfl (.tmp 27) (.tmp 28) (.tmp 30) rfl w.heap.size _ f ?g1 OW.out ?g2 _ ?vv ?g3 ?g4 hwf ?g5 ?_); (case g1 => rfl); (case g2 => exact HN.out); (case g3 => rfl); (case g4 => rfl); (case g5 => exact wrap64_wf _); intro w9 ho9 hg9; have OW9 := Aside0.mk ho9; have HG9 := Aside0.mk hg9; clear ho9 hg9))
              go_roundw
              case rel => exact ⟨j + 1, n + 1, _, by omega, by go_num, ⟨by have h1 := HN0.out; omega⟩, ⟨by rw [htj.out, ← List.append_assoc]; exact seen_put HSE.out _ _⟩, ⟨OW9.out⟩, ⟨pw_below_grown HB2.out _ (below_size HB2.out) HG9.out (fun k e => by cases e; exact Nat.le_refl _)⟩⟩
              case measure => simp [intOf]; omega
            · obtain rfl : j = x.f1.length := by omega
              go_wp2
              go_roundw
              case rel => exact ⟨i + 1, n, f, by omega, by go_num, ⟨by have h1 := HN0.out; have h2 := hct.out; omega⟩, ⟨by have h1 := HSE.out; rw [List.take_length] at h1; rw [htk.out]; unfold seenOf at h1 ⊢; rw [List.flatMap_append]; simpa using h1⟩, OW, HB2⟩
              case measure => simp [intOf]; omega
        · obtain rfl : i = l0.length := by omega
          rw [List.take_length] at HSE
          obtain ⟨rr, hrr0⟩ : ∃ rr, rr = wr.heap.size := ⟨_, rfl⟩
          have hrr := Aside0.mk (show w.heap.size ≤ rr by rw [hrr0]; exact below_size HB.out)
          have HRR := Aside0.mk hrr0
          clear hrr0
          go_wp2_with (at_range; (with_reducible refine HIntMap.wp_range im66 _ rfl (.tmp 33) rfl w.heap.size n f ?h1 OW.out ?_); (case h1 => rfl); intro w9 left cnt hr9 hl9 hg9 hs9; have RG := Aside0.mk hr9; have LE := Aside0.mk hl9; have HB9 := Aside0.mk (pw_below_grown HB.out _ (below_size HB.out) hg9 (fun k e => by cases e)); clear hr9 hl9 hg9 hs9)
          rw [← HRR.out]
          rw [← HRR.out] at RG
          go_frame
          go_loopw [10] (fun v10 wq => ∃ (left : Int → Bool) (cnt : Nat), Aside0 (HIntMap.Ranges im66 wq w.heap.size rr n f left cnt) ∧ Aside0 (∀ x, (Lit.int .i64 x).wf = true → (f x).isSome = true → left x = true ∨ waitsN l0 x < a1) ∧ Aside0 (Below w.heap.size w wq)) (fun v10 wq => wq.rangeLeft w.heap.size rr)
          case atStart => exact ⟨left, cnt, RG, ⟨fun x hx hf => .inl (by rw [LE.out x hx]; exact hf)⟩, HB9⟩
          case round =>
            clear RG LE HB9
            obtain ⟨left, cnt, RG, LE, HB2⟩ := hrel
            go_wp2_with (at_next; (with_reducible refine HIntMap.wp_next im66 _ rfl (.tmp 34) rfl w.heap.size rr n cnt f left ?h1 RG.out ?_ ?_); (case h1 => rfl))
            · intro hdone
              have HD := Aside0.mk hdone
              clear hdone
              go_wp2
              go_ret
              refine ⟨?_, HB2.out⟩
              rw [← H.out]
              have ha : (l0.all fun t => t.f1.all fun n => decide (waitsN l0 n < a1)) = true := by
                rw [List.all_eq_true]
                intro t ht
                rw [List.all_eq_true]
                intro x hx
                have hm : (f x).isSome = true := by rw [HSE.out x]; exact decide_eq_true (List.mem_flatMap.2 ⟨t, ht, hx⟩)
                rcases LE.out x (wf_all HS.out t ht x hx) hm with h | h
                · rw [HD.out x] at h; cases h
                · exact decide_eq_true h
              rw [ha]; rfl
            · intro x c w9 cnt9 hwx hwc hfx hlx hr9 hlt9 hg9 hs9 hen
              have HWX := Aside0.mk hwx
              have HFX := Aside0.mk hfx
              have RG9 := Aside0.mk hr9
              have HLT := Aside0.mk hlt9
              have HB9 := Aside0.mk (pw_below_grown HB2.out _ (below_size HB2.out) hg9 (fun k e => by cases e; exact hrr.out))
              clear hwx hwc hfx hlx hr9 hlt9 hg9 hs9
              by_cases hc : a1 ≤ waitsN l0 x
              · have hcb : decide (a1 ≤ waitsN l0 x) = true := decide_eq_true hc
                have HC := Aside0.mk hc
                clear hc
                go_wp2_with (go_at_call 35; (with_reducible refine (sched_Waits.calls _ _ l0 x (waitsN l0 x) _ (Kd.C_below HR0.out HB9.out) HC0.out (waits_eq l0 x)).mono ?_); rintro e w10 ⟨rfl, hb⟩; have RG10 := Aside0.mk (HIntMap.ranges_kept RG9.out (grown_of_below hb none) (by simp) (by simp)); have HB10 := Aside0.mk (below_step HB9.out hb); clear hb)
                go_ret
                refine ⟨?_, HB10.out⟩
                rw [← H.out]
                have ha : (l0.all fun t => t.f1.all fun n => decide (waitsN l0 n < a1)) = false := by
                  have hm : x ∈ seenOf l0 := of_decide_eq_true (by rw [← HSE.out x, HFX.out]; rfl)
                  obtain ⟨t, ht, hx⟩ := List.mem_flatMap.1 hm
                  rw [Bool.eq_false_iff]
                  intro h
                  rw [List.all_eq_true] at h
                  have h2 := h t ht
                  rw [List.all_eq_true] at h2
                  have h3 := of_decide_eq_true (h2 x hx)
                  have h4 := HC.out
                  omega
                rw [ha]; rfl
              · have hcb : decide (a1 ≤ waitsN l0 x) = false := decide_eq_false hc
                have HC := Aside0.mk (show waitsN l0 x < a1 by omega)
                clear hc
                go_wp2_with (go_at_call 35; (with_reducible refine (sched_Waits.calls _ _ l0 x (waitsN l0 x) _ (Kd.C_below HR0.out HB9.out) HC0.out (waits_eq l0 x)).mono ?_); rintro e w10 ⟨rfl, hb⟩; have RG10 := Aside0.mk (HIntMap.ranges_kept RG9.out (grown_of_below hb none) (by simp) (by simp)); have HB10 := Aside0.mk (below_step HB9.out hb); clear hb)
                go_roundw
                case rel =>
                  refine ⟨_, cnt9, RG10, ⟨fun y hy hf => ?_⟩, HB10⟩
                  by_cases e : y = x
                  · subst e; exact .inr HC.out
                  · rcases LE.out y hy hf with h | h
                    · exact .inl (by simp [h, e])
                    · exact .inr h
                case measure => rw [HIntMap.ranges_left RG10.out, HIntMap.ranges_left RG.out]; exact HLT.out
  · rw [if_neg hsz] at h; cases h

/-! ### ratlinelaw16_awake: function 28 -/
def ratlinelaw16_awake.f  : Option (Bool) := some true
theorem fairNil (a1 : Int) (r : Bool) (w : World) (h : sched_Fair.f [] a1 = some r) : Calls Try.prog 37 #[.slice none 0 0, .int .i64 a1] w fun e w' => e = .returned (.bool r) ∧ Below w.heap.size w w' := sched_Fair.calls none 0 [] a1 r w (Kd.C_nil _ _) (Nat.le_refl _) h
set_option maxHeartbeats 8000000 in
set_option maxRecDepth 100000 in
theorem ratlinelaw16_awake.calls  (r : Bool) (w : World) (h : ratlinelaw16_awake.f  = some r) :
    Calls Try.prog 28 #[] w fun e w' => e = .returned (.bool r) ∧ Below w.heap.size w w' := by
  obtain rfl : true = r := Option.some.inj h
  clear h
  have hu51 := Try.underlying51
  have HB := Aside0.mk (Below.refl w.heap.size w)
  obtain ⟨y106, hy106⟩ : ∃ y_ : List Int, y_ = (([2, 5, 7] : List Int)) := ⟨_, rfl⟩
  obtain ⟨y117, hy117⟩ : ∃ y_ : List Int, y_ = (([2, 5] : List Int)) := ⟨_, rfl⟩
  obtain ⟨y120, hy120⟩ : ∃ y_ : List Int, y_ = (([2, 5] : List Int)) := ⟨_, rfl⟩
  obtain ⟨y123, hy123⟩ : ∃ y_ : List Int, y_ = (([2, 5] : List Int)) := ⟨_, rfl⟩
  obtain ⟨y126, hy126⟩ : ∃ y_ : List (S51), y_ = (([(⟨2, y117⟩ : S51), (⟨2, y120⟩ : S51), (⟨5, y123⟩ : S51)] : List (S51))) := ⟨_, rfl⟩
  have A1 : Aside0 (sched_Next.f y106 4 = some (5, true)) := ⟨by rw [hy106]; decide⟩
  have A2 : Aside0 (sched_Next.f ([] : List Int) 4 = some (0, false)) := ⟨by decide⟩
  have A3 : Aside0 (sched_Robin.f y106 5 = some (2, true)) := ⟨by rw [hy106]; decide⟩
  have A4 : Aside0 (sched_Robin.f y106 7 = some (0, true)) := ⟨by rw [hy106]; decide⟩
  have A28 : Aside0 (sched_Waits.f y126 5 = some 2) := ⟨by rw [hy126, hy117, hy120, hy123]; decide⟩
  have A30 : Aside0 (sched_Waits.f y126 2 = some 1) := ⟨by rw [hy126, hy117, hy120, hy123]; decide⟩
  have A32 : Aside0 (sched_Fair.f y126 3 = some true) := ⟨by rw [hy126, hy117, hy120, hy123]; decide⟩
  have A34 : Aside0 (sched_Fair.f y126 2 = some false) := ⟨by rw [hy126, hy117, hy120, hy123]; decide⟩
  have A57 : Aside0 (sched_Fair.f ([] : List (S51)) 1 = some true) := ⟨by decide⟩
  have A59 : Aside0 (sched_Fair.f ([] : List (S51)) 0 = some false) := ⟨by decide⟩
  have Ny106 := Aside0.mk hy106
  have Ny117 := Aside0.mk hy117
  have Ny120 := Aside0.mk hy120
  have Ny123 := Aside0.mk hy123
  have Ny126 := Aside0.mk hy126
  clear hy106 hy117 hy120 hy123 hy126
  go_enter Try.func28, Try.ntmps28
  go_wp2_with (first | ((with_reducible refine gate_dst (N := 11) rfl ?_); refine Kd.R_lit (Kd.int .i64) _ 3 ?hg (N := 11) ?hd (xs := ([2, 5, 7] : List Int)) (inner := [.int .i64 2, .int .i64 5, .int .i64 7]) (ok := fun _ => True) (okp := fun _ => True) ?hr ?hp (fun _ hk => hk) trivial (Below.refl _ _) (Nat.le_refl _) (by simp) ?_; (case hd => rfl); (case hg => rfl); (case hr => first | (go_simp; done) | (go_simp; rfl)); (case hp => exact (Reps.one (show Kd.M (Kd.int .i64) _ _ _ 2 [.int .i64 2] from rfl) (Reps.one (show Kd.M (Kd.int .i64) _ _ _ 5 [.int .i64 5] from rfl) (Reps.one (show Kd.M (Kd.int .i64) _ _ _ 7 [.int .i64 7] from rfl) (Reps.none _ _))))); intro v107 w60 ho61 hb hg_ hnew_; clear hg_ hnew_; (first | rw [← Ny106.out] at ho61 | (simp only [Int.reduceToNat] at ho61; rw [← Ny106.out] at ho61)); have n0_ := Aside0.mk (Kd.R_lower ho61 (below_size (by repeat (first | (with_reducible first | exact HB.out | apply below_alloc | apply pw_below_drewN | apply below_drew1) | exact HB.out)))); have n1_ := Aside0.mk (below_step (by repeat (first | (with_reducible first | exact HB.out | apply below_alloc | apply pw_below_drewN | apply below_drew1) | exact HB.out)) hb); clear HB; have HO108 := n0_; have HB := n1_; clear n0_ n1_; clear hb ho61; obtain ⟨Ao62, co62, eo62⟩ := Kd.R_slice HO108.out; subst eo62) | ((with_reducible refine gate_callee (f := 31) rfl ?_); refine goesL_ (some 14) rfl rfl Try.func31 (by kernel_rfl) rfl #[.slice Ao62 y106.length co62, .int .u32 4] rfl (by (try simp only [List.map_toArray, List.map_cons, List.map_nil]); first | done | rfl | (simp only [List.length_drop, List.length_take]; rfl)) ?_; (with_reducible refine (sched_Next.calls _ _ y106 4 5 true _ ?side1 ?side2 A1.out).mono ?_); (case side1 => repeat (first | exact (Kd.R_reads' HO108.out).2.2 | (with_reducible refine Kd.C_alloc ?_ _) | (with_reducible refine Kd.C_drewN ?_ _) | (with_reducible refine Kd.C_drew ?_))); (case side2 => exact (Kd.R_reads' HO108.out).2.1); rintro e w' ⟨rfl, ⟨nd, rfl⟩⟩; refine ⟨_, rfl, ?_⟩) | ((with_reducible refine gate_callee (f := 31) rfl ?_); refine goesL_ (some 18) rfl rfl Try.func31 (by kernel_rfl) rfl #[.slice none 0 0, .int .u32 4] rfl (by (try simp only [List.map_toArray, List.map_cons, List.map_nil]); first | done | rfl | (simp only [List.length_drop, List.length_take]; rfl)) ?_; (refine (sched_Next.calls _ _ ([] : List Int) 4 0 false _ ?side1 ?side2 A2.out).mono ?_); (case side1 => exact Kd.C_nil _ _); (case side2 => exact Nat.le_refl _); rintro e w' ⟨rfl, ⟨nd, rfl⟩⟩; refine ⟨_, rfl, ?_⟩) | ((with_reducible refine gate_callee (f := 33) rfl ?_); refine goesL_ (some 23) rfl rfl Try.func33 (by kernel_rfl) rfl #[.slice Ao62 y106.length co62, .int .i64 5] rfl (by (try simp only [List.map_toArray, List.map_cons, List.map_nil]); first | done | rfl | (simp only [List.length_drop, List.length_take]; rfl)) ?_; (with_reducible refine (sched_Robin.calls _ _ y106 5 2 true _ ?side1 ?side2 A3.out).mono ?_); (case side1 => repeat (first | exact (Kd.R_reads' HO108.out).2.2 | (with_reducible refine Kd.C_alloc ?_ _) | (with_reducible refine Kd.C_drewN ?_ _) | (with_reducible refine Kd.C_drew ?_))); (case side2 => exact (Kd.R_reads' HO108.out).2.1); rintro e w63 ⟨rfl, hb⟩; refine ⟨_, rfl, ?_⟩; have n0_ := Aside0.mk (Kd.R_below (by (with_reducible repeat (first | apply Kd.R_alloc | apply Kd.R_drewN | apply Kd.R_drew)); exact HO108.out) hb); have n1_ := Aside0.mk (below_step (by repeat (first | (with_reducible first | exact HB.out | apply below_alloc | apply pw_below_drewN | apply below_drew1) | exact HB.out)) hb); clear HO108; clear HB; have HO108 := n0_; have HB := n1_; clear n0_ n1_; (try clear hb); (try clear hb2); (try clear hk); (try clear hi)) | ((with_reducible refine gate_callee (f := 33) rfl ?_); refine goesL_ (some 28) rfl rfl Try.func33 (by kernel_rfl) rfl #[.slice Ao62 y106.length co62, .int .i64 7] rfl (by (try simp only [List.map_toArray, List.map_cons, List.map_nil]); first | done | rfl | (simp only [List.length_drop, List.length_take]; rfl)) ?_; (with_reducible refine (sched_Robin.calls _ _ y106 7 0 true _ ?side1 ?side2 A4.out).mono ?_); (case side1 => repeat (first | exact (Kd.R_reads' HO108.out).2.2 | (with_reducible refine Kd.C_alloc ?_ _) | (with_reducible refine Kd.C_drewN ?_ _) | (with_reducible refine Kd.C_drew ?_))); (case side2 => exact (Kd.R_reads' HO108.out).2.1); rintro e w64 ⟨rfl, hb⟩; refine ⟨_, rfl, ?_⟩; have n0_ := Aside0.mk (Kd.R_below (by (with_reducible repeat (first | apply Kd.R_alloc | apply Kd.R_drewN | apply Kd.R_drew)); exact HO108.out) hb); have n1_ := Aside0.mk (below_step (by repeat (first | (with_reducible first | exact HB.out | apply below_alloc | apply pw_below_drewN | apply below_drew1) | exact HB.out)) hb); clear HO108; clear HB; have HO108 := n0_; have HB := n1_; clear n0_ n1_; (try clear hb); (try clear hb2); (try clear hk); (try clear hi)) | ((with_reducible refine gate_dst (N := 31) rfl ?_); refine Kd.R_lit (Kd.int .i64) _ 3 ?hg (N := 31) ?hd (xs := ([2, 5] : List Int)) (inner := [.int .i64 2, .int .i64 5]) (ok := fun _ => True) (okp := fun _ => True) ?hr ?hp (fun _ hk => hk) trivial (Below.refl _ _) (Nat.le_refl _) (by simp) ?_; (case hd => rfl); (case hg => rfl); (case hr => first | (go_simp; done) | (go_simp; rfl)); (case hp => exact (Reps.one (show Kd.M (Kd.int .i64) _ _ _ 2 [.int .i64 2] from rfl) (Reps.one (show Kd.M (Kd.int .i64) _ _ _ 5 [.int .i64 5] from rfl) (Reps.none _ _)))); intro v118 w65 ho66 hb hg_ hnew_; clear hg_ hnew_; (first | rw [← Ny117.out] at ho66 | (simp only [Int.reduceToNat] at ho66; rw [← Ny117.out] at ho66)); have n0_ := Aside0.mk (Kd.R_elder' (by (with_reducible repeat (first | apply Kd.R_alloc | apply Kd.R_drewN | apply Kd.R_drew)); exact HO108.out) (Kd.R_base ho66) hb); have n1_ := Aside0.mk (Kd.R_lower (Kd.R_new' ho66 (Kd.R_lt (by (with_reducible repeat (first | apply Kd.R_alloc | apply Kd.R_drewN | apply Kd.R_drew)); exact HO108.out))) (below_size (by repeat (first | (with_reducible first | exact HB.out | apply below_alloc | apply pw_below_drewN | apply below_drew1) | exact HB.out)))); have n2_ := Aside0.mk (below_step (by repeat (first | (with_reducible first | exact HB.out | apply below_alloc | apply pw_below_drewN | apply below_drew1) | exact HB.out)) hb); clear HO108; clear HB; have HO108 := n0_; have HO119 := n1_; have HB := n2_; clear n0_ n1_ n2_; clear hb ho66; obtain ⟨Ao67, co67, eo67⟩ := Kd.R_slice HO119.out; subst eo67) | ((with_reducible refine gate_dst (N := 33) rfl ?_); refine Kd.R_lit (Kd.int .i64) _ 3 ?hg (N := 33) ?hd (xs := ([2, 5] : List Int)) (inner := [.int .i64 2, .int .i64 5]) (ok := fun _ => True) (okp := fun _ => True) ?hr ?hp (fun _ hk => hk) trivial (Below.refl _ _) (Nat.le_refl _) (by simp) ?_; (case hd => rfl); (case hg => rfl); (case hr => first | (go_simp; done) | (go_simp; rfl)); (case hp => exact (Reps.one (show Kd.M (Kd.int .i64) _ _ _ 2 [.int .i64 2] from rfl) (Reps.one (show Kd.M (Kd.int .i64) _ _ _ 5 [.int .i64 5] from rfl) (Reps.none _ _)))); intro v121 w68 ho69 hb hg_ hnew_; clear hg_ hnew_; (first | rw [← Ny120.out] at ho69 | (simp only [Int.reduceToNat] at ho69; rw [← Ny120.out] at ho69)); have n0_ := Aside0.mk (Kd.R_elder' (by (with_reducible repeat (first | apply Kd.R_alloc | apply Kd.R_drewN | apply Kd.R_drew)); exact HO108.out) (Kd.R_base ho69) hb); have n1_ := Aside0.mk (Kd.R_elder' (by (with_reducible repeat (first | apply Kd.R_alloc | apply Kd.R_drewN | apply Kd.R_drew)); exact HO119.out) (Kd.R_base ho69) hb); have n2_ := Aside0.mk (Kd.R_lower (Kd.R_new' (Kd.R_new' ho69 (Kd.R_lt (by (with_reducible repeat (first | apply Kd.R_alloc | apply Kd.R_drewN | apply Kd.R_drew)); exact HO108.out))) (Kd.R_lt (by (with_reducible repeat (first | apply Kd.R_alloc | apply Kd.R_drewN | apply Kd.R_drew)); exact HO119.out))) (below_size (by repeat (first | (with_reducible first | exact HB.out | apply below_alloc | apply pw_below_drewN | apply below_drew1) | exact HB.out)))); have n3_ := Aside0.mk (below_step (by repeat (first | (with_reducible first | exact HB.out | apply below_alloc | apply pw_below_drewN | apply below_drew1) | exact HB.out)) hb); clear HO108; clear HO119; clear HB; have HO108 := n0_; have HO119 := n1_; have HO122 := n2_; have HB := n3_; clear n0_ n1_ n2_ n3_; clear hb ho69; obtain ⟨Ao70, co70, eo70⟩ := Kd.R_slice HO122.out; subst eo70) | ((with_reducible refine gate_dst (N := 35) rfl ?_); refine Kd.R_lit (Kd.int .i64) _ 3 ?hg (N := 35) ?hd (xs := ([2, 5] : List Int)) (inner := [.int .i64 2, .int .i64 5]) (ok := fun _ => True) (okp := fun _ => True) ?hr ?hp (fun _ hk => hk) trivial (Below.refl _ _) (Nat.le_refl _) (by simp) ?_; (case hd => rfl); (case hg => rfl); (case hr => first | (go_simp; done) | (go_simp; rfl)); (case hp => exact (Reps.one (show Kd.M (Kd.int .i64) _ _ _ 2 [.int .i64 2] from rfl) (Reps.one (show Kd.M (Kd.int .i64) _ _ _ 5 [.int .i64 5] from rfl) (Reps.none _ _)))); intro v124 w71 ho72 hb hg_ hnew_; clear hg_ hnew_; (first | rw [← Ny123.out] at ho72 | (simp only [Int.reduceToNat] at ho72; rw [← Ny123.out] at ho72)); have n0_ := Aside0.mk (Kd.R_elder' (by (with_reducible repeat (first | apply Kd.R_alloc | apply Kd.R_drewN | apply Kd.R_drew)); exact HO108.out) (Kd.R_base ho72) hb); have n1_ := Aside0.mk (Kd.R_elder' (by (with_reducible repeat (first | apply Kd.R_alloc | apply Kd.R_drewN | apply Kd.R_drew)); exact HO119.out) (Kd.R_base ho72) hb); have n2_ := Aside0.mk (Kd.R_elder' (by (with_reducible repeat (first | apply Kd.R_alloc | apply Kd.R_drewN | apply Kd.R_drew)); exact HO122.out) (Kd.R_base ho72) hb); have n3_ := Aside0.mk (Kd.R_lower (Kd.R_new' (Kd.R_new' (Kd.R_new' ho72 (Kd.R_lt (by (with_reducible repeat (first | apply Kd.R_alloc | apply Kd.R_drewN | apply Kd.R_drew)); exact HO108.out))) (Kd.R_lt (by (with_reducible repeat (first | apply Kd.R_alloc | apply Kd.R_drewN | apply Kd.R_drew)); exact HO119.out))) (Kd.R_lt (by (with_reducible repeat (first | apply Kd.R_alloc | apply Kd.R_drewN | apply Kd.R_drew)); exact HO122.out))) (below_size (by repeat (first | (with_reducible first | exact HB.out | apply below_alloc | apply pw_below_drewN | apply below_drew1) | exact HB.out)))); have n4_ := Aside0.mk (below_step (by repeat (first | (with_reducible first | exact HB.out | apply below_alloc | apply pw_below_drewN | apply below_drew1) | exact HB.out)) hb); clear HO108; clear HO119; clear HO122; clear HB; have HO108 := n0_; have HO119 := n1_; have HO122 := n2_; have HO125 := n3_; have HB := n4_; clear n0_ n1_ n2_ n3_ n4_; clear hb ho72; obtain ⟨Ao73, co73, eo73⟩ := Kd.R_slice HO125.out; subst eo73) | ((with_reducible refine gate_dst (N := 37) rfl ?_); refine Kd.N_lit k51 _ 51 ?hg (N' := 37) ?hd (xs := ([(⟨2, y117⟩ : S51), (⟨2, y120⟩ : S51), (⟨5, y123⟩ : S51)] : List (S51))) (inner := [.int .i64 2, .slice Ao67 y117.length co67, .int .i64 2, .slice Ao70 y120.length co70, .int .i64 5, .slice Ao73 y123.length co73]) (ok := (fun k_ => some k_ ≠ (.slice Ao62 y106.length co62 : Value).ownBlock)) (okp := (fun k_ => some k_ ≠ (.slice Ao62 y106.length co62 : Value).ownBlock)) ?hr ?hp (fun _ hk => hk) ((show ∀ k_, w71.heap.size ≤ k_ → (fun k_ => some k_ ≠ (.slice Ao62 y106.length co62 : Value).ownBlock) k_ from fun k_ hk => Kd.fresh' (Kd.R_lt (by (with_reducible repeat (first | apply Kd.R_alloc | apply Kd.R_drewN | apply Kd.R_drew)); exact HO108.out)) k_ hk) _ (Nat.le_refl _)) (Below.refl _ _) (Nat.le_refl _) (by simp) ?_; (case hd => rfl); (case hg => rfl); (case hr => first | (go_simp; done) | (go_simp; rfl)); (case hp => exact (Reps.c2 (show Kd.FK k51 _ _ (⟨2, y117⟩ : S51) [.int .i64 2, .slice Ao67 y117.length co67] from (k51_mkF _ _ (⟨2, y117⟩ : S51) (Kd.R_reads' (Kd.R_mono (ok' := (fun k_ => some k_ ≠ (.slice Ao62 y106.length co62 : Value).ownBlock)) (HO119.out) (fun k_ hk => hk.1.1.2))).2.1 (Kd.R_F (Kd.R_mono (ok' := (fun k_ => some k_ ≠ (.slice Ao62 y106.length co62 : Value).ownBlock)) (HO119.out) (fun k_ hk => hk.1.1.2))))) (Reps.c2 (show Kd.FK k51 _ _ (⟨2, y120⟩ : S51) [.int .i64 2, .slice Ao70 y120.length co70] from (k51_mkF _ _ (⟨2, y120⟩ : S51) (Kd.R_reads' (Kd.R_mono (ok' := (fun k_ => some k_ ≠ (.slice Ao62 y106.length co62 : Value).ownBlock)) (HO122.out) (fun k_ hk => hk.1.1.2))).2.1 (Kd.R_F (Kd.R_mono (ok' := (fun k_ => some k_ ≠ (.slice Ao62 y106.length co62 : Value).ownBlock)) (HO122.out) (fun k_ hk => hk.1.1.2))))) (Reps.c2 (show Kd.FK k51 _ _ (⟨5, y123⟩ : S51) [.int .i64 5, .slice Ao73 y123.length co73] from (k51_mkF _ _ (⟨5, y123⟩ : S51) (Kd.R_reads' (Kd.R_mono (ok' := (fun k_ => some k_ ≠ (.slice Ao62 y106.length co62 : Value).ownBlock)) (HO125.out) (fun k_ hk => hk.1.1.2))).2.1 (Kd.R_F (Kd.R_mono (ok' := (fun k_ => some k_ ≠ (.slice Ao62 y106.length co62 : Value).ownBlock)) (HO125.out) (fun k_ hk => hk.1.1.2))))) (Reps.none _ _))))); intro v127 w74 ho75 hb hg_ hnew_; clear hg_ hnew_; (first | rw [← Ny126.out] at ho75 | (simp only [Int.reduceToNat] at ho75; rw [← Ny126.out] at ho75)); have n0_ := Aside0.mk (Kd.R_below (by (with_reducible repeat (first | apply Kd.R_alloc | apply Kd.R_drewN | apply Kd.R_drew)); exact HO108.out) hb); have n1_ := Aside0.mk (Kd.N_lower ho75 (below_size (by repeat (first | (with_reducible first | exact HB.out | apply below_alloc | apply pw_below_drewN | apply below_drew1) | exact HB.out)))); have n2_ := Aside0.mk (below_step (by repeat (first | (with_reducible first | exact HB.out | apply below_alloc | apply pw_below_drewN | apply below_drew1) | exact HB.out)) hb); clear HO108; clear HB; clear HO119; clear HO122; clear HO125; have HO108 := n0_; have HO128 := n1_; have HB := n2_; clear n0_ n1_ n2_; clear hb ho75; obtain ⟨Ao76, co76, eo76⟩ := Kd.N_slice HO128.out; subst eo76) | (go_at_call 35; (with_reducible refine (sched_Waits.calls _ _ y126 5 2 _ ?side1 ?side2 A28.out).mono ?_); (case side1 => repeat (first | exact (Kd.N_reads' HO128.out).2.2 | (with_reducible refine Kd.C_alloc ?_ _) | (with_reducible refine Kd.C_drewN ?_ _) | (with_reducible refine Kd.C_drew ?_))); (case side2 => exact (Kd.N_reads' HO128.out).2.1); rintro e w77 ⟨rfl, hb⟩; have n0_ := Aside0.mk (Kd.R_below (by (with_reducible repeat (first | apply Kd.R_alloc | apply Kd.R_drewN | apply Kd.R_drew)); exact HO108.out) hb); have n1_ := Aside0.mk (Kd.N_below (by (with_reducible repeat (first | apply Kd.N_alloc | apply Kd.N_drewN | apply Kd.N_drew)); exact HO128.out) hb); have n2_ := Aside0.mk (below_step (by repeat (first | (with_reducible first | exact HB.out | apply below_alloc | apply pw_below_drewN | apply below_drew1) | exact HB.out)) hb); clear HO108; clear HO128; clear HB; have HO108 := n0_; have HO128 := n1_; have HB := n2_; clear n0_ n1_ n2_; (try clear hb); (try clear hb2); (try clear hk); (try clear hi)) | (go_at_call 35; (with_reducible refine (sched_Waits.calls _ _ y126 2 1 _ ?side1 ?side2 A30.out).mono ?_); (case side1 => repeat (first | exact (Kd.N_reads' HO128.out).2.2 | (with_reducible refine Kd.C_alloc ?_ _) | (with_reducible refine Kd.C_drewN ?_ _) | (with_reducible refine Kd.C_drew ?_))); (case side2 => exact (Kd.N_reads' HO128.out).2.1); rintro e w78 ⟨rfl, hb⟩; have n0_ := Aside0.mk (Kd.R_below (by (with_reducible repeat (first | apply Kd.R_alloc | apply Kd.R_drewN | apply Kd.R_drew)); exact HO108.out) hb); have n1_ := Aside0.mk (Kd.N_below (by (with_reducible repeat (first | apply Kd.N_alloc | apply Kd.N_drewN | apply Kd.N_drew)); exact HO128.out) hb); have n2_ := Aside0.mk (below_step (by repeat (first | (with_reducible first | exact HB.out | apply below_alloc | apply pw_below_drewN | apply below_drew1) | exact HB.out)) hb); clear HO108; clear HO128; clear HB; have HO108 := n0_; have HO128 := n1_; have HB := n2_; clear n0_ n1_ n2_; (try clear hb); (try clear hb2); (try clear hk); (try clear hi)) | (go_at_call 37; (with_reducible refine (sched_Fair.calls _ _ y126 3 true _ ?side1 ?side2 A32.out).mono ?_); (case side1 => repeat (first | exact (Kd.N_reads' HO128.out).2.2 | (with_reducible refine Kd.C_alloc ?_ _) | (with_reducible refine Kd.C_drewN ?_ _) | (with_reducible refine Kd.C_drew ?_))); (case side2 => exact (Kd.N_reads' HO128.out).2.1); rintro e w79 ⟨rfl, hb⟩; have n0_ := Aside0.mk (Kd.R_below (by (with_reducible repeat (first | apply Kd.R_alloc | apply Kd.R_drewN | apply Kd.R_drew)); exact HO108.out) hb); have n1_ := Aside0.mk (Kd.N_below (by (with_reducible repeat (first | apply Kd.N_alloc | apply Kd.N_drewN | apply Kd.N_drew)); exact HO128.out) hb); have n2_ := Aside0.mk (below_step (by repeat (first | (with_reducible first | exact HB.out | apply below_alloc | apply pw_below_drewN | apply below_drew1) | exact HB.out)) hb); clear HO108; clear HO128; clear HB; have HO108 := n0_; have HO128 := n1_; have HB := n2_; clear n0_ n1_ n2_; (try clear hb); (try clear hb2); (try clear hk); (try clear hi)) | (go_at_call 37; (with_reducible refine (sched_Fair.calls _ _ y126 2 false _ ?side1 ?side2 A34.out).mono ?_); (case side1 => repeat (first | exact (Kd.N_reads' HO128.out).2.2 | (with_reducible refine Kd.C_alloc ?_ _) | (with_reducible refine Kd.C_drewN ?_ _) | (with_reducible refine Kd.C_drew ?_))); (case side2 => exact (Kd.N_reads' HO128.out).2.1); rintro e w80 ⟨rfl, hb⟩; have n0_ := Aside0.mk (Kd.R_below (by (with_reducible repeat (first | apply Kd.R_alloc | apply Kd.R_drewN | apply Kd.R_drew)); exact HO108.out) hb); have n1_ := Aside0.mk (Kd.N_below (by (with_reducible repeat (first | apply Kd.N_alloc | apply Kd.N_drewN | apply Kd.N_drew)); exact HO128.out) hb); have n2_ := Aside0.mk (below_step (by repeat (first | (with_reducible first | exact HB.out | apply below_alloc | apply pw_below_drewN | apply below_drew1) | exact HB.out)) hb); clear HO108; clear HO128; clear HB; have HO108 := n0_; have HO128 := n1_; have HB := n2_; clear n0_ n1_ n2_; (try clear hb); (try clear hb2); (try clear hk); (try clear hi)) | (go_at_call 37; (with_reducible refine (fairNil 1 true _ A57.out).mono ?_); rintro e w81 ⟨rfl, hb⟩; have n0_ := Aside0.mk (Kd.R_below (by (with_reducible repeat (first | apply Kd.R_alloc | apply Kd.R_drewN | apply Kd.R_drew)); exact HO108.out) hb); have n1_ := Aside0.mk (Kd.N_below (by (with_reducible repeat (first | apply Kd.N_alloc | apply Kd.N_drewN | apply Kd.N_drew)); exact HO128.out) hb); have n2_ := Aside0.mk (below_step (by repeat (first | (with_reducible first | exact HB.out | apply below_alloc | apply pw_below_drewN | apply below_drew1) | exact HB.out)) hb); clear HO108; clear HO128; clear HB; have HO108 := n0_; have HO128 := n1_; have HB := n2_; clear n0_ n1_ n2_; (try clear hb); (try clear hb2); (try clear hk); (try clear hi)) | (go_at_call 37; (with_reducible refine (fairNil 0 false _ A59.out).mono ?_); rintro e w82 ⟨rfl, hb⟩; have n0_ := Aside0.mk (Kd.R_below (by (with_reducible repeat (first | apply Kd.R_alloc | apply Kd.R_drewN | apply Kd.R_drew)); exact HO108.out) hb); have n1_ := Aside0.mk (Kd.N_below (by (with_reducible repeat (first | apply Kd.N_alloc | apply Kd.N_drewN | apply Kd.N_drew)); exact HO128.out) hb); have n2_ := Aside0.mk (below_step (by repeat (first | (with_reducible first | exact HB.out | apply below_alloc | apply pw_below_drewN | apply below_drew1) | exact HB.out)) hb); clear HO108; clear HO128; clear HB; have HO108 := n0_; have HO128 := n1_; have HB := n2_; clear n0_ n1_ n2_; (try clear hb); (try clear hb2); (try clear hk); (try clear hi)))
  go_ret
  exact ⟨by first | rfl | (simp [errW_none, errW_some] <;> rfl) | (simp [*, errW_none, errW_some] <;> rfl), by repeat (first | (with_reducible first | exact HB.out | apply below_alloc | apply pw_below_drewN | apply below_drew1) | exact HB.out)⟩

/-! ### ratlinelaw16_Rise: function 29 -/
/-- x put into a list that rises, unless it is there. -/
def insUp (x : Int) : List Int → List Int
  | [] => [x]
  | y :: r => if y < x then y :: insUp x r else if y = x then y :: r else x :: y :: r
/-- How many lie ahead of x. -/
def posUp (x : Int) : List Int → Nat
  | [] => 0
  | y :: r => if y < x then posUp x r + 1 else 0
theorem posUp_le (x : Int) : ∀ l : List Int, posUp x l ≤ l.length
  | [] => Nat.le_refl _
  | y :: r => by
    have := posUp_le x r
    simp only [posUp, List.length_cons]
    split <;> omega
theorem posUp_lt (x : Int) : ∀ (l : List Int) (j : Nat), j < posUp x l → l.getD j 0 < x
  | [], j, h => by simp [posUp] at h
  | y :: r, j, h => by
    simp only [posUp] at h
    split at h
    · rename_i hy
      cases j with
      | zero => simpa using hy
      | succ j => simpa using posUp_lt x r j (by omega)
    · omega
theorem posUp_stop (x : Int) : ∀ l : List Int, posUp x l < l.length → ¬ l.getD (posUp x l) 0 < x
  | [], h => by simp at h
  | y :: r, h => by
    simp only [posUp] at h ⊢
    split
    · rename_i hy
      rw [if_pos hy] at h
      simpa using posUp_stop x r (by simpa using h)
    · rename_i hy
      simpa using hy
theorem insUp_put (x : Int) : ∀ l : List Int, (posUp x l = l.length ∨ l.getD (posUp x l) 0 ≠ x) → insUp x l = l.take (posUp x l) ++ (x :: l.drop (posUp x l))
  | [], _ => rfl
  | y :: r, h => by
    simp only [posUp, insUp] at h ⊢
    by_cases hy : y < x
    · simp only [if_pos hy] at h ⊢
      rw [insUp_put x r (by simpa using h)]
      simp
    · simp only [if_neg hy] at h ⊢
      have hne : y ≠ x := by rcases h with h | h <;> simp at h; exact h
      simp [hne]
theorem insUp_stay (x : Int) : ∀ l : List Int, posUp x l < l.length → l.getD (posUp x l) 0 = x → insUp x l = l
  | [], h, _ => by simp at h
  | y :: r, h, e => by
    simp only [posUp, insUp] at h e ⊢
    by_cases hy : y < x
    · simp only [if_pos hy] at h e ⊢
      rw [insUp_stay x r (by simpa using h) (by simpa using e)]
    · simp only [if_neg hy] at h e ⊢
      simp at e
      simp [e]
theorem insUp_len (x : Int) (l : List Int) : (insUp x l).length ≤ l.length + 1 := by
  induction l with
  | nil => simp [insUp]
  | cons y r ih =>
    simp only [insUp]
    split
    · simp; exact ih
    · split <;> simp
def riseL (l : List Int) : List Int := l.foldl (fun o x => insUp x o) []
def ratlinelaw16_Rise.f (l0 : List Int) : Option (List Int) := if l0.length ≤ 1000000 then some (riseL l0) else none

theorem reads_cells {W : World} {ad : Addr} {xs : List Int} (h : ∀ j, j < xs.length → W.cell? (ad.add j) = some (.int .i64 (xs.getD j 0))) : ∀ j u, (encs (Value.int .i64) xs)[j]? = some u → W.cell? (ad.add j) = some u := by
  intro j u hu
  have hj : j < xs.length := by
    rcases Nat.lt_or_ge j xs.length with h | h
    · exact h
    · simp [encs, List.getElem?_eq_none h] at hu
  rw [encs_get (d := 0) xs j hj] at hu
  rw [← hu]
  exact h j hj

theorem infoI : (Try.prog.info? 3).map (fun i => (i.zero, i.size, i.bytes)) = some (some (.int .i64 0), 1, 8) := by kernel_rfl
theorem inner_run {P : Program} (ht : P.underlying 36 = some (.slice 3)) (hinfo : (P.info? 3).map (fun i => (i.zero, i.size, i.bytes)) = some (some (.int .i64 0), 1, 8)) (w0 W : World) (g : Nat) (ty : TypeId) (x : Int) (ys : List Int) (A : Option Addr) (m c : Nat)
    (HR : ReadsOf (Value.int .i64) 0 w0 A m ys) (hW : Below w0.heap.size w0 W) (hgb : W.heap[g]? = some (.cells #[.int .i64 x] 3 (0, 0))) (hg0 : w0.heap.size ≤ g) (hl : m ≤ 1000000) :
    ∃ ad c' w', (Builtin.append_ #[36, 36] ty #[.slice (some ⟨g, 0, none⟩) 1 1, .slice A m c]).run P W = .ok (.slice (some ad) (1 + m) c') w' ∧
      ((∀ j u, (encs (Value.int .i64) (x :: ys))[j]? = some u → w'.cell? (ad.add j) = some u) ∧ Below w0.heap.size w0 w') := by
  obtain ⟨i0, hi, hzz⟩ := Option.map_eq_some_iff.1 hinfo
  simp only [Prod.mk.injEq] at hzz
  obtain ⟨hz0, hz1, hz2⟩ := hzz
  have hown : W.ownsRow w0.heap.size 3 1 (.slice (some ⟨g, 0, none⟩) 1 1) 1 (encs (Value.int .i64) [x]) :=
    ⟨rfl, .inr ⟨g, 1, _, rfl, hg0, hgb, Nat.le_refl _, by simp [maxLen], rfl, rfl⟩⟩
  have hm : ys.length = m := HR.1
  have HB := hW
  have HR1 : ReadsOf (Value.int .i64) 0 W A m ys := HR.below HB
  have hrun : ∃ v1 w1, (Builtin.append_ #[36, 36] ty #[.slice (some ⟨g, 0, none⟩) 1 1, .slice A m c]).run P W = .ok v1 w1 ∧ w1.ownsRow w0.heap.size 3 1 v1 (1 + m) (encs (Value.int .i64) (x :: ys)) ∧ W.grownBy w1 (some g) := by
    rcases A with _ | ad
    · have h0 : m = 0 := by
        rcases Nat.eq_zero_or_pos m with h0 | h0
        · exact h0
        · obtain ⟨ad, h, _⟩ := HR.2.2 h0
          cases h
      subst h0
      obtain rfl : ys = [] := List.eq_nil_of_length_eq_zero hm
      refine ⟨_, _, ?_, hown, World.grownBy.refl _ _⟩
      simp [Builtin.append_, run_underlying ht, sizeOf, typeInfo, hi, Builtin.lenOf, Builtin.firstCells, storeCells]
    · have hcells : ∀ j u, (encs (Value.int .i64) ys)[j]? = some u → W.cell? (ad.add j) = some u := by
        refine reads_cells (fun j hj => ?_)
        obtain ⟨ad', h', hc⟩ := HR1.2.2 (by omega)
        injection h' with h'
        subst h'
        exact hc j (by omega)
      obtain ⟨v1, w1, hr, h2, h3, _, h5⟩ := run_append_own_at (P := P) W w0.heap.size 36 ty 3 i0 (.int .i64 0) 1 8 ht hi hz0 hz1 hz2 rfl (by omega) _ 1 _ hown ad m c (encs (Value.int .i64) ys) (by simp [encs, hm]) hcells
        (by intro u hu; simp only [encs, List.mem_map] at hu; obtain ⟨q, _, rfl⟩ := hu; rfl) (by simp only [maxLen]; omega) (by omega) hW.size
      exact ⟨v1, w1, hr, by simpa [encs] using h2, h3⟩
  obtain ⟨v1, w1, hr, ho, hgr⟩ := hrun
  obtain ⟨g', cap', rfl, hge, _⟩ := ho.form (by omega)
  refine ⟨_, _, _, hr, fun j u hu => ho.cells (g := g') (by rfl) j u hu, ?_⟩
  have hs := hW.size
  exact HB.grown hgr hs (by intro k hk; injection hk; omega)

/-- 'append([]int{x}, tail...)', as a step of a region that draws its order. -/
theorem step_inner {P : Program} (ht : P.underlying 36 = some (.slice 3)) (hinfo : (P.info? 3).map (fun i => (i.zero, i.size, i.bytes)) = some (some (.int .i64 0), 1, 8)) {ops : Array Oper} {o : Oper} {a : Act} {w0 W : World} {K : Act → World → Prop} {Q : Exit → Act → World → Prop} {E : Prop}
    (hg : o.guard = none) (s y : Operand) (hop : o.op = Op.call { callee := Callee.builtin Builtin.append, args := #[s, y], argTypes := #[36, 36] }) (g : Nat) (x : Int) (ys : List Int) (A : Option Addr) (m c : Nat)
    (hs : a.eval s = .slice (some ⟨g, 0, none⟩) 1 1) (hx : a.eval y = .slice A m c) (HR : ReadsOf (Value.int .i64) 0 w0 A m ys) (hW : Below w0.heap.size w0 W) (hgb : W.heap[g]? = some (.cells #[.int .i64 x] 3 (0, 0))) (hg0 : w0.heap.size ≤ g) (hl : m ≤ 1000000)
    (hK : ∀ ad c' w', Aside0 ((∀ j u, (encs (Value.int .i64) (x :: ys))[j]? = some u → w'.cell? (ad.add j) = some u) ∧ Below w0.heap.size w0 w') → K (a.put o.dst (.slice (some ad) (1 + m) c')) w') :
    if Region.wanted o (yielded ops a.tmps) = true then Oper.wp P o a W K Q else E := by
  have hw : Region.wanted o (yielded ops a.tmps) = true := by simp [Region.wanted, hg]
  rw [if_pos hw]
  obtain ⟨ad, c', w', hr, hh⟩ := inner_run ht hinfo w0 W g o.type x ys A m c HR hW hgb hg0 hl
  unfold Oper.wp
  simp [execOp, hop, resolve, invoke, builtin, hs, hx, hr, Result.andThen]
  exact hK _ _ _ ⟨hh⟩

/-- 'append(out[:at:at], those...)', that always grows. -/
theorem step_outer {P : Program} (ht : P.underlying 36 = some (.slice 3)) (hinfo : (P.info? 3).map (fun i => (i.zero, i.size, i.bytes)) = some (some (.int .i64 0), 1, 8)) {ops : Array Oper} {o : Oper} {a : Act} {w w0 W : World} {K : Act → World → Prop} {Q : Exit → Act → World → Prop} {E : Prop}
    (hg : o.guard = none) (s y : Operand) (hop : o.op = Op.call { callee := Callee.builtin Builtin.append, args := #[s, y], argTypes := #[36, 36] }) (xs zs : List Int) (A : Option Addr) (k : Nat) (ad : Addr) (m c : Nat)
    (hs : a.eval s = .slice A k k) (hx : a.eval y = .slice (some ad) (1 + m) c) (HR : ReadsOf (Value.int .i64) 0 w0 A k xs) (hc : (∀ j u, (encs (Value.int .i64) zs)[j]? = some u → W.cell? (ad.add j) = some u) ∧ Below w0.heap.size w0 W) (hz : zs.length = 1 + m) (hl : k ≤ 1000000) (hm : m ≤ 1000000) (hB : Below w.heap.size w w0)
    (hK : ∀ v' w', Aside0 (w'.ownsRow w.heap.size 3 1 v' (xs ++ zs).length (encs (Value.int .i64) (xs ++ zs)) ∧ Below w.heap.size w w') → K (a.put o.dst v') w') :
    if Region.wanted o (yielded ops a.tmps) = true then Oper.wp P o a W K Q else E := by
  obtain ⟨i0, hi, hzz⟩ := Option.map_eq_some_iff.1 hinfo
  simp only [Prod.mk.injEq] at hzz
  obtain ⟨hz0, hz1, hz2⟩ := hzz
  have hB2 : Below w.heap.size w W := below_step hB hc.2
  have HRW : ReadsOf (Value.int .i64) 0 W A k xs := HR.below hc.2
  have hk : xs.length = k := HR.1
  refine step_append_grows hg s y 36 hop 3 i0 (.int .i64 0) 1 8 ht hi hz0 hz1 hz2 rfl (by omega) A k k (encs (Value.int .i64) xs) hs ?_ (by simp [encs, hk]) ?_ ad (1 + m) c (encs (Value.int .i64) zs) hx (by simp [encs, hz]) hc.1 (by intro u hu; simp only [encs, List.mem_map] at hu; obtain ⟨q, _, rfl⟩ := hu; rfl) (by omega) (by simp only [maxLen]; omega) (by omega) ?_
  · rintro rfl
    rcases Nat.eq_zero_or_pos k with h0 | h0
    · exact ⟨h0, h0⟩
    · obtain ⟨ad, h, _⟩ := HRW.2.2 h0
      cases h
  · rintro b rfl
    refine reads_cells (fun j hj => ?_)
    obtain ⟨ad', h', hcc⟩ := HRW.2.2 (by omega)
    injection h' with h'
    subst h'
    exact hcc j (by omega)
  · intro v' w' ho hgr
    refine hK v' w' ⟨?_, hB2.grown hgr hB2.size (by intro k hk; cases hk)⟩
    have e1 : k + (1 + m) = (xs ++ zs).length := by simp [hk, hz]
    have e2 : encs (Value.int .i64) xs ++ encs (Value.int .i64) zs = encs (Value.int .i64) (xs ++ zs) := by simp [encs]
    rw [← e1, ← e2]
    exact own_weaken ho hB2.size

theorem cut_hm {P : Program} (ht : P.underlying 36 = some (.slice 3)) (hinfo : (P.info? 3).map (fun i => (i.zero, i.size, i.bytes)) = some (some (.int .i64 0), 1, 8)) (W : World) (B : Option Addr) (n c k : Nat) (hk : k ≤ c) :
    (Instr.slice 36 (.slice B n c) none (some (.int .i64 (k : Int))) (some (.int .i64 (k : Int)))).run P W = .ok (.slice B k k) W := by
  obtain ⟨i0, hi, hzz⟩ := Option.map_eq_some_iff.1 hinfo
  simp only [Prod.mk.injEq] at hzz
  obtain ⟨hz0, hz1, hz2⟩ := hzz
  have hel : P.elem 36 = 3 := by simp [Program.elem, ht]
  have hu : P.underlying 36 = some (.slice (P.elem 36)) := by rw [hel]; exact ht
  rw [run_slice_hm W 36 B n c hu .i64 .i64 (k : Int) (k : Int) (Int.natCast_nonneg _) (by omega) (by omega), hel]
  simp [sizeOf, typeInfo, hi, hz1, sliced, Result.andThen]
  intro _
  cases B with
  | none => rfl
  | some b => simp [Addr.add]
theorem own_cap {w : World} {base n n' c e : Nat} {B : Option Addr} {xs : List Value} (h : w.ownsRow base e 1 (.slice B n c) n' xs) : n ≤ c := by
  rcases h.2 with ⟨h1, h2⟩ | ⟨g, cap, cur, h1, _, _, hnc, _⟩
  · injection h1 with _ e2 e3
    omega
  · injection h1 with _ e2 e3
    omega
theorem rise_take (l : List Int) (i : Nat) (h : i < l.length) : riseL (l.take (i + 1)) = insUp (l.getD i 0) (riseL (l.take i)) := by
  unfold riseL
  rw [List.take_succ_eq_append_getElem h, List.foldl_append, List.getD_eq_getElem?_getD, List.getElem?_eq_getElem h]
  rfl
theorem rise_len (l : List Int) : (riseL l).length ≤ l.length := by
  have key : ∀ (r : List Int) (o : List Int), (r.foldl (fun o x => insUp x o) o).length ≤ o.length + r.length := by
    intro r
    induction r with
    | nil => intro o; simp
    | cons x r ih =>
      intro o
      have h1 := ih (insUp x o)
      have h2 := insUp_len x o
      simp only [List.foldl_cons, List.length_cons] at h1 ⊢
      omega
  simpa [riseL] using key l []

set_option maxHeartbeats 8000000 in
set_option maxRecDepth 100000 in
theorem ratlinelaw16_Rise.calls (A0 : Option Addr) (c0 : Nat) (l0 : List Int) (r : List Int) (w : World) (hr0 : Kd.C (Kd.int .i64) w A0 l0.length l0) (hc0 : l0.length ≤ c0) (h : ratlinelaw16_Rise.f l0 = some r) :
    Calls Try.prog 29 #[.slice A0 l0.length c0] w fun e w' => ∃ v0_ : Value, e = .returned v0_ ∧ Kd.R (Kd.int .i64) 3 w' w.heap.size (fun _ => True) v0_ r ∧ Below w.heap.size w w' := by
  unfold ratlinelaw16_Rise.f at h
  by_cases hbig : l0.length ≤ 1000000
  case neg => rw [if_neg hbig] at h; cases h
  rw [if_pos hbig] at h
  obtain rfl : riseL l0 = r := Option.some.inj h
  have HR0 := Aside0.mk hr0
  obtain ⟨i0, hi0, hzz⟩ := Option.map_eq_some_iff.1 infoI
  simp only [Prod.mk.injEq] at hzz
  obtain ⟨hz0, hz1, hz2⟩ := hzz
  clear hr0 h hz0 hz2
  go_enter Try.func29, Try.ntmps29
  go_wp2_with fail
  go_loopw [3, 9] (fun v3 v9 wr => ∃ (i : Nat) (B : Option Addr) (c : Nat), i ≤ l0.length ∧ v9 = .int .i64 i ∧ v3 = .slice B (riseL (l0.take i)).length c ∧
    Aside0 (wr.ownsRow w.heap.size 3 1 (.slice B (riseL (l0.take i)).length c) (riseL (l0.take i)).length (encs (Value.int .i64) (riseL (l0.take i))) ∧ Below w.heap.size w wr)) (fun v3 v9 _ => l0.length - (intOf v9).toNat)
  case atStart => exact ⟨0, none, 0, Nat.zero_le _, rfl, rfl, ⟨World.ownsRow_nil w _ 3 1, Below.refl _ _⟩⟩
  case round =>
    obtain ⟨i, B, c, hi, rfl, rfl, HO⟩ := hrel
    by_cases hlt : i < l0.length
    · have hnext := rise_take l0 i hlt
      have hol : (riseL (l0.take i)).length ≤ i := by have := rise_len (l0.take i); rw [List.length_take] at this; omega
      generalize hout : riseL (l0.take i) = out at HO hnext hol
      clear hout
      obtain ⟨ad, e0, hx⟩ := Kd.at_int (Kd.C_below HR0.out HO.out.2) (i : Int) (by omega) (by omega)
      subst e0
      simp only [rd, Int.toNat_natCast] at hx
      generalize l0.getD i 0 = x at hx hnext
      have HN := Aside0.mk hnext
      have HD : ReadsOf (Value.int .i64) 0 wr B out.length out := by
        obtain ⟨A', c', he, hh⟩ := own_reads_of (d := 0) HO.out.1
        injection he with e1 e2 e3
        subst e1
        exact hh
      have HD2 := Aside0.mk HD
      have hpl := posUp_le x out
      clear hnext HD
      go_wp2_with fail
      go_loop [6] (fun v6 => ∃ j : Nat, j ≤ posUp x out ∧ v6 = .int .i64 j) (fun v6 => out.length - (intOf v6).toNat)
      case atStart => exact ⟨0, Nat.zero_le _, rfl⟩
      case round =>
        obtain ⟨j, hj, rfl⟩ := hrel
        by_cases hjl : j < out.length
        · obtain ⟨ad2, e2, hy⟩ := HD2.out.at_ (j : Int) (by omega) (by omega)
          subst e2
          simp only [rdOf, Int.toNat_natCast] at hy
          by_cases hlt2 : out.getD j 0 < x
          · have hj2 : j < posUp x out := by
              rcases Nat.lt_or_ge j (posUp x out) with h | h
              · exact h
              · have hs := posUp_stop x out (by omega)
                obtain rfl : j = posUp x out := by omega
                exact absurd hlt2 hs
            have hcb : decide (out.getD j 0 < x) = true := decide_eq_true hlt2
            generalize out.getD j 0 = y at hy hlt2 hcb
            clear hlt2 hx
            go_wp2_with fail
            go_round
            case rel => exact ⟨j + 1, by omega, by go_num⟩
            case measure => simp [intOf]; omega
          · have hcb : decide (out.getD j 0 < x) = false := decide_eq_false hlt2
            have hjp : posUp x out = j := by
              rcases Nat.lt_or_ge j (posUp x out) with h | h
              · exact absurd (posUp_lt x out j h) hlt2
              · omega
            by_cases heq : out.getD j 0 = x
            · have hst := insUp_stay x out (by omega) (by rw [hjp]; exact heq)
              have HS := Aside0.mk hst
              have hne : decide (x = x) = true := decide_eq_true rfl
              clear hst hlt2
              rw [heq] at hy hcb
              clear heq hx
              go_wp2_with fail
              go_round
              case rel =>
                have e1 : riseL (l0.take (i + 1)) = out := HN.out.trans HS.out
                refine ⟨i + 1, some ad2, c, by omega, by go_num, by rw [e1], ?_⟩
                rw [e1]
                exact HO
              case measure => simp [intOf]; omega
            · have hne : decide (out.getD j 0 = x) = false := decide_eq_false heq
              have hput := insUp_put x out (.inr (by rw [hjp]; exact heq))
              rw [hjp] at hput
              have HP := Aside0.mk hput
              have hb1 : ((j : Int) == (out.length : Int)) = false := by simp; omega
              have hb2 : (out.getD j 0 != x) = true := by simpa using heq
              generalize out.getD j 0 = y at hy hcb hne hb2
              clear hput heq hlt2 hx
              have hk1 : j ≤ out.length := by omega
              have hoc : out.length ≤ c := own_cap HO.out.1
              have hA : ∀ W : World, (Instr.slice 36 (.slice (some ad2) out.length c) none (some (.int .i64 (j : Int))) (some (.int .i64 (j : Int)))).run Try.prog W = .ok (.slice (some ad2) j j) W := fun W => cut_hm Try.underlying36 infoI W (some ad2) out.length c j (by omega)
              obtain ⟨A2, hcut, hA2⟩ := print_cut_of (P := Try.prog) (Value.int .i64) (0 : Int) 36 3 .i64 Try.underlying36 hi0 hz1 (some ad2) out.length c j hk1
              have HT := Aside0.mk (HD2.out.take_ j hk1)
              have HR := Aside0.mk (hA2 wr out hoc HD2.out)
              clear hA2
              go_wp2_with fail
              go_region_law (first
                | (refine step_inner Try.underlying36 infoI (w0 := wr) rfl (.tmp 44) (.tmp 47) rfl wr.heap.size x (out.drop j) A2 (out.length - j) (c - j) (by simp [Act.eval, Act.put]) (by simp [Act.eval, Act.put]) HR.out (below_drew (below_alloc (Below.refl _ _) _)) (heap_alloc_new wr _) (Nat.le_refl _) (by omega) ?_; intro ad3 c3 w3 h3)
                | (refine step_outer Try.underlying36 infoI (w := w) (w0 := wr) rfl (.tmp 42) (.tmp 48) rfl (out.take j) (x :: out.drop j) (some ad2) j ad3 (out.length - j) c3 (by simp [Act.eval, Act.put]) (by simp [Act.eval, Act.put]) HT.out h3.out (by simp; omega) (by omega) (by omega) HO.out.2 ?_; intro v4 w4 h4))
              obtain ⟨B4, c4, rfl⟩ := own_slice h4.out.1
              go_wp2_with fail
              go_round
              case rel =>
                have e1 : riseL (l0.take (i + 1)) = out.take j ++ (x :: out.drop j) := HN.out.trans HP.out
                have el : (out.take j ++ (x :: out.drop j)).length = out.length + 1 := by simp only [List.length_append, List.length_take, List.length_cons, List.length_drop]; omega
                refine ⟨i + 1, B4, c4, by omega, by go_num, by rw [e1, el]; congr 1; omega, ?_⟩
                rw [e1]
                exact h4
              case measure => simp [intOf]; omega
        · obtain rfl : j = out.length := by omega
          have hjp : posUp x out = out.length := by omega
          have hput := insUp_put x out (.inl hjp)
          rw [hjp] at hput
          have HP := Aside0.mk hput
          clear hput hx
          have hk1 : out.length ≤ out.length := Nat.le_refl _
          have hoc : out.length ≤ c := own_cap HO.out.1
          have hA : ∀ W : World, (Instr.slice 36 (.slice B out.length c) none (some (.int .i64 (out.length : Int))) (some (.int .i64 (out.length : Int)))).run Try.prog W = .ok (.slice B out.length out.length) W := fun W => cut_hm Try.underlying36 infoI W B out.length c out.length (by omega)
          obtain ⟨A2, hcut, hA2⟩ := print_cut_of (P := Try.prog) (Value.int .i64) (0 : Int) 36 3 .i64 Try.underlying36 hi0 hz1 B out.length c out.length hk1
          have HT := Aside0.mk (HD2.out.take_ out.length hk1)
          have HR := Aside0.mk (hA2 wr out hoc HD2.out)
          rw [Nat.sub_self] at hcut
          clear hA2 hjp hpl hj hjl
          go_wp2_with fail
          go_region_law (first
            | (refine step_inner Try.underlying36 infoI (w0 := wr) rfl (.tmp 44) (.tmp 47) rfl wr.heap.size x (out.drop out.length) A2 0 (c - out.length) (by simp [Act.eval, Act.put]) (by simp [Act.eval, Act.put]) (by have := HR.out; rwa [Nat.sub_self] at this) (below_drew (below_alloc (Below.refl _ _) _)) (heap_alloc_new wr _) (Nat.le_refl _) (by omega) ?_; intro ad3 c3 w3 h3)
            | (refine step_outer Try.underlying36 infoI (w := w) (w0 := wr) rfl (.tmp 42) (.tmp 48) rfl (out.take out.length) (x :: out.drop out.length) B out.length ad3 0 c3 (by simp [Act.eval, Act.put]) (by simp [Act.eval, Act.put]) HT.out h3.out (by simp) (by omega) (by omega) HO.out.2 ?_; intro v4 w4 h4))
          obtain ⟨B4, c4, rfl⟩ := own_slice h4.out.1
          go_wp2_with fail
          go_round
          case rel =>
            have e1 : riseL (l0.take (i + 1)) = out.take out.length ++ (x :: out.drop out.length) := HN.out.trans HP.out
            have el : (out.take out.length ++ (x :: out.drop out.length)).length = out.length + 1 := by simp only [List.length_append, List.length_take, List.length_cons, List.length_drop]; omega
            refine ⟨i + 1, B4, c4, by omega, by go_num, by rw [e1]; first | rw [el] | rfl, ?_⟩
            rw [e1]
            exact h4
          case measure => simp [intOf]; omega
    · obtain rfl : i = l0.length := by omega
      go_wp2
      go_ret
      rw [List.take_length] at HO ⊢
      exact ⟨_, rfl, Kd.R_of_own HO.out.1 (fun _ _ => trivial), HO.out.2⟩

/-! ### ratlinelaw16_Turns: function 30 -/
def ratlinelaw16_Turns.l0 : Nat → List (S51) → List (S51) → Int → Int → Option ((List (S51)))
  | 0, _, _, _, _ => none
  | k + 1, x3, x6, x7, x8 => if x8 < x7 then (if 0 ≤ x8 then (if x8 < (x6.length : Int) then ((ratlinelaw16_Rise.f ((rd_T51 x6 x8).f1)).bind fun t108 => (if x3.length < 4398046511104 then (ratlinelaw16_Turns.l0 k (x3 ++ [(⟨(rd_T51 x6 x8).f0, t108⟩ : S51)]) x6 x7 (wrap64 (x8 + 1))) else (none))) else (none)) else (none)) else (some x3)
def ratlinelaw16_Turns.f (k : Nat) (l0 : List (S51)) : Option ((List (S51))) := ratlinelaw16_Turns.l0 k ([] : List (S51)) l0 (l0.length : Int) 0
theorem ratlinelaw16_Turns.mono_l : ∀ k, (∀ y0 y1 y2 y3, LeO (ratlinelaw16_Turns.l0 k y0 y1 y2 y3) (ratlinelaw16_Turns.l0 (k + 1) y0 y1 y2 y3))
  | 0 => fun _ _ _ _ r h => by simp [ratlinelaw16_Turns.l0] at h
  | k + 1 => by
    have ih0 := ratlinelaw16_Turns.mono_l k
    · intro y0 y1 y2 y3
      unfold ratlinelaw16_Turns.l0
      repeat' first
      | (with_reducible exact ih0 _ _ _ _)
      | (with_reducible exact LeO.refl _)
      | (with_reducible exact LeO.none _)
      | (with_reducible refine LeO.ite ?_ ?_)
      | (with_reducible refine LeO.bind ?_ (fun _ => ?_))
      | exact ih0 _ _ _ _
      | exact LeO.none _
      | refine LeO.ite ?_ ?_
      | refine LeO.bind ?_ (fun _ => ?_)
theorem ratlinelaw16_Turns.mono : ∀ a0 k, LeO (ratlinelaw16_Turns.f k a0) (ratlinelaw16_Turns.f (k + 1) a0) := by
  intro a0 k
  have ih0 := ratlinelaw16_Turns.mono_l k
  unfold ratlinelaw16_Turns.f
  repeat' first
      | (with_reducible exact ih0 _ _ _ _)
      | (with_reducible exact LeO.refl _)
      | (with_reducible exact LeO.none _)
      | (with_reducible refine LeO.ite ?_ ?_)
      | (with_reducible refine LeO.bind ?_ (fun _ => ?_))
      | exact ih0 _ _ _ _
      | exact LeO.none _
      | refine LeO.ite ?_ ?_
      | refine LeO.bind ?_ (fun _ => ?_)
def ratlinelaw16_Turns.T5 : Bool × List (List Nat × List Nat) := (true, [([], []), ([], []), ([1], [1]), ([], []), ([3], [3]), ([4], [4]), ([2, 5], [2, 5]), ([6], [6]), ([0, 7, 5], [0, 7]), ([8, 8, 0, 1, 2, 3, 4, 5, 6, 7, 8], [0, 8])])
def ratlinelaw16_Turns.B5 : List Nat := [0, 0, 2, 0, 8, 24, 62, 126, 255, 511]
theorem ratlinelaw16_Turns.tab5 : rtab .any (opsOf Try.f30 5) = ratlinelaw16_Turns.T5 := by kernel_rfl
theorem ratlinelaw16_Turns.bits5 : waitsOk ratlinelaw16_Turns.T5.2 ratlinelaw16_Turns.B5 = true := by kernel_rfl
set_option maxHeartbeats 8000000 in
set_option maxRecDepth 100000 in
theorem ratlinelaw16_Turns.calls (k : Nat) (A0 : Option Addr) (c0 : Nat) (l0 : List (S51)) (r : List (S51)) (w : World) (hr0 : Kd.C k51 w A0 l0.length l0) (hc0 : l0.length ≤ c0) (h : ratlinelaw16_Turns.f k l0 = some r) :
    Calls Try.prog 30 #[.slice A0 l0.length c0] w fun e w' => ∃ v0_ : Value, e = .returned (v0_) ∧ Kd.S k51 51 w' w.heap.size (fun _ => True) v0_ r ∧ Below w.heap.size w w' := by
  have hu51 := Try.underlying51
  have HR0 := Aside0.mk hr0
  have HC0 := Aside0.mk hc0
  clear hr0 hc0
  have HB := Aside0.mk (Below.refl w.heap.size w)
  have H : (ratlinelaw16_Turns.l0 k ([] : List (S51)) l0 (l0.length : Int) 0) = some r := h
  clear h
  have H' := Aside0.mk H
  clear H
  go_enter Try.func30, Try.ntmps30
  go_wp2
  go_loopg [3, 8] k (fun kq v3 v8 w' => ∃ (x3_1 : List (S51)) (x8_1 : Int), v8 = .int .i64 x8_1 ∧ Aside0 (ratlinelaw16_Turns.l0 kq x3_1 l0 (l0.length : Int) x8_1 = some r) ∧ Aside0 (kq ≤ k) ∧ Aside0 (Kd.S k51 51 w' w.heap.size (fun _ => True) v3 x3_1) ∧ Aside0 (Below w.heap.size w w'))
  case atStart => exact ⟨(([] : List (S51))), (0), (by first | rfl | (simp; done) | (simp [*]; done)), H', ⟨Nat.le_refl _⟩, ⟨by first | exact Kd.S_nil _ _ _ _ _ | exact Kd.N_nil _ _ _ _ _ | exact Kd.V_nil _ _ _ _ _ | exact Kd.Q_nil _ _ _ _ _ | exact Kd.R_nil _ _ _ _ _⟩, ⟨by repeat (first | (with_reducible first | exact HB.out | apply below_alloc | apply pw_below_drewN | apply below_drew1) | exact HB.out)⟩⟩
  case round =>
    clear H'
    obtain ⟨x3_1, x8_1, rfl, HA, HK1, HO_3, HB⟩ := hrel
    cases gk with
    | zero => exact absurd HA.out (by simp [ratlinelaw16_Turns.l0])
    | succ k1 =>
      have H := HA.out
      clear HA
      simp only [ratlinelaw16_Turns.l0] at H
      by_cases c2 : x8_1 < (l0.length : Int)
      · rw [if_pos c2] at H
        have c2b0 : decide (x8_1 < (l0.length : Int)) = true := decide_eq_true c2
        clear c2
        by_cases c3 : 0 ≤ x8_1
        · rw [if_pos c3] at H
          have c3b0 : decide (0 ≤ x8_1) = true := decide_eq_true c3
          clear c3
          by_cases c4 : x8_1 < (l0.length : Int)
          · rw [if_pos c4] at H
            have c4b0 : decide (x8_1 < (l0.length : Int)) = true := decide_eq_true c4
            clear c4
            replace H := Option.bind_eq_some_iff.mp H
            obtain ⟨t108, A50, H⟩ := H
            replace H : (if x3_1.length < 4398046511104 then (ratlinelaw16_Turns.l0 k1 (x3_1 ++ [(⟨(rd_T51 l0 x8_1).f0, t108⟩ : S51)]) l0 (l0.length : Int) (wrap64 (x8_1 + 1))) else (none)) = some r := H
            have A5 := Aside0.mk A50
            clear A50
            by_cases c6 : x3_1.length < 4398046511104
            · rw [if_pos c6] at H
              have LMc6 := Aside0.mk c6
              clear c6
              obtain ⟨y111, hy111⟩ : ∃ y_ : List (S51), y_ = (x3_1 ++ [(⟨(rd_T51 l0 x8_1).f0, t108⟩ : S51)]) := ⟨_, rfl⟩
              replace H : (ratlinelaw16_Turns.l0 k1 y111 l0 (l0.length : Int) (wrap64 (x8_1 + 1))) = some r := by first | (rw [hy111]; with_reducible exact H) | (have H2_ := (Option.bind_some _ _).symm.trans H; rw [hy111]; with_reducible exact H2_) | (have H2_ := (Option.bind_some _ _).symm.trans H; with_reducible exact H2_) | with_reducible exact H | (rw [hy111]; exact H) | exact H
              have Ny111 := Aside0.mk hy111
              clear hy111
              have H' := Aside0.mk H
              clear H
              have p106 : 0 ≤ (x8_1 : Int) := of_decide_eq_true (by first | (with_reducible assumption) | assumption)
              have q106 : x8_1 < (l0.length : Int) := of_decide_eq_true (by first | (with_reducible assumption) | assumption)
              obtain ⟨ad106, A106_1, c106_1, e106, hx106_0, hx106_1, hl106_1, hi106_1⟩ := at_T51 HR0.out x8_1 p106 q106
              cases e106
              replace hx106_0 := (HB.out.cell (World.block_lt_of_cell? w _ hx106_0)).trans hx106_0
              replace hx106_1 := (HB.out.cell (World.block_lt_of_cell? w _ hx106_1)).trans hx106_1
              have HR106_1 := Aside0.mk hi106_1
              have HC106_1 := Aside0.mk hl106_1
              clear hi106_1 hl106_1
              replace p106 := eq_true p106
              replace q106 := eq_true q106
              try go_wp2_with (first | ((with_reducible refine gate_dst (N := 5) rfl ?_); refine box_event ?hg (N := 5) ?hd (cs := #[.int .i64 0, .slice none 0 0]) (t := 51) ?hr ?_; (case hd => rfl); (case hg => rfl); (case hr => first | (go_simp; done) | (go_simp; rfl)); intro gb107 hg w7 hbox hb; have n0_ := Aside0.mk (Kd.S_below (Kd.S_elderB (by (with_reducible repeat (first | apply Kd.S_alloc | apply Kd.S_drewN | apply Kd.S_drew)); exact HO_3.out) gb107 (Nat.le_of_eq hg.symm)) hb); have n1_ := Aside0.mk (below_step (by repeat (first | (with_reducible first | exact HB.out | apply below_alloc | apply pw_below_drewN | apply below_drew1) | exact HB.out)) hb); have n2_ := Aside0.mk (hbox); have n3_ := Aside0.mk ((by rw [hg]; exact (below_size (by repeat (first | (with_reducible first | exact HB.out | apply below_alloc | apply pw_below_drewN | apply below_drew1) | exact HB.out))) : w.heap.size ≤ gb107)); have n4_ := Aside0.mk ((by rw [hg]; exact (below_size (by repeat (first | (with_reducible first | exact HB.out | apply below_alloc | apply pw_below_drewN | apply below_drew1) | exact HB.out))) : w.heap.size ≤ gb107)); clear HO_3; clear HB; have HO_3 := n0_; have HB := n1_; have BK107 := n2_; have GW107 := n3_; have GE107 := n4_; clear n0_ n1_ n2_ n3_ n4_; clear hb hbox hg; have hcz8_0 : w7.cell? ⟨gb107, 0, none⟩ = some (.int .i64 0) := (blk_cell BK107.out 0).trans rfl; have hcz8_1 : w7.cell? ⟨gb107, 1, none⟩ = some (.slice none 0 0) := (blk_cell BK107.out 1).trans rfl; have hfz8_0 := blk_frozen BK107.out 0; have hfz8_1 := blk_frozen BK107.out 1))
              have n0_ : Aside0 (Kd.S k51 51 ((w7.setCell ⟨gb107, 0, none⟩ (.int .i64 ((rd_T51 l0 x8_1).f0))).setCell ⟨gb107, 1, none⟩ (.slice A106_1 ((rd_T51 l0 x8_1).f1).length c106_1)) w.heap.size (fun k_ => k_ ≠ gb107) u3 x3_1) := ⟨by (with_reducible repeat (first | apply Kd.S_alloc | apply Kd.S_drewN | apply Kd.S_drew)); exact Kd.S_mono (Kd.S_far (p := ⟨gb107, 1, none⟩) (Kd.S_far (p := ⟨gb107, 0, none⟩) (Kd.S_mono HO_3.out (fun k_ hk => (⟨hk, hk.2⟩ : _ ∧ k_ ≠ gb107))) (fun _ hk => hk.2) (.int .i64 ((rd_T51 l0 x8_1).f0))) (fun _ hk => hk.2) (.slice A106_1 ((rd_T51 l0 x8_1).f1).length c106_1)) (fun _ hk => hk.1.2)⟩
              have n1_ : Aside0 (((w7.setCell ⟨gb107, 0, none⟩ (.int .i64 ((rd_T51 l0 x8_1).f0))).setCell ⟨gb107, 1, none⟩ (.slice A106_1 ((rd_T51 l0 x8_1).f1).length c106_1)).heap[gb107]? = some (.cells #[.int .i64 ((rd_T51 l0 x8_1).f0), .slice A106_1 ((rd_T51 l0 x8_1).f1).length c106_1] 51 (0, 0))) := ⟨by (with_reducible repeat (first | refine blk_drewN ?_ _ | refine blk_drew ?_ | refine blk_alloc ?_ _)); refine blk_put (cs := #[.int .i64 ((rd_T51 l0 x8_1).f0), .slice none 0 0]) ?_ 1 _ rfl; (with_reducible repeat (first | refine blk_drewN ?_ _ | refine blk_drew ?_ | refine blk_alloc ?_ _)); refine blk_put (cs := #[.int .i64 0, .slice none 0 0]) ?_ 0 _ rfl; (with_reducible repeat (first | refine blk_drewN ?_ _ | refine blk_drew ?_ | refine blk_alloc ?_ _)); exact BK107.out⟩
              have n2_ : Aside0 (Below w.heap.size w ((w7.setCell ⟨gb107, 0, none⟩ (.int .i64 ((rd_T51 l0 x8_1).f0))).setCell ⟨gb107, 1, none⟩ (.slice A106_1 ((rd_T51 l0 x8_1).f1).length c106_1))) := ⟨by repeat (first | (with_reducible first | exact HB.out | apply below_alloc | apply pw_below_drewN | apply below_drew1 | refine below_set ?_ GE107.out) | exact HB.out)⟩
              (try clear HO_3)
              (try clear BK107)
              (try clear HB)
              generalize ((w7.setCell ⟨gb107, 0, none⟩ (.int .i64 ((rd_T51 l0 x8_1).f0))).setCell ⟨gb107, 1, none⟩ (.slice A106_1 ((rd_T51 l0 x8_1).f1).length c106_1)) = w9 at n0_ n1_ n2_ ⊢
              have HO_3 := n0_
              have BK107 := n1_
              have HB := n2_
              clear n0_ n1_ n2_
              have n0_ := Aside0.mk (Kd.S_drew HO_3.out)
              have n1_ := Aside0.mk (blk_drew BK107.out)
              have n2_ := Aside0.mk (below_drew1 HB.out)
              clear HO_3
              clear BK107
              clear HB
              have HO_3 := n0_
              have BK107 := n1_
              have HB := n2_
              clear n0_ n1_ n2_
              refine start_ (n := 10) (S := fun w' => w'.cell? ⟨gb107, 0, none⟩ = some (.int .i64 ((rd_T51 l0 x8_1).f0)) ∧ w'.cell? ⟨gb107, 1, none⟩ = some (.slice A106_1 ((rd_T51 l0 x8_1).f1).length c106_1)) (ds := []) #[false, false, false, false, false, false, false, false, false, false] (by kernel_rfl) rfl rfl ⟨(blk_cell BK107.out 0).trans rfl, (blk_cell BK107.out 1).trans rfl⟩ (fun hHeld => ?_); refine with_tabW ratlinelaw16_Turns.tab5 ratlinelaw16_Turns.bits5 (fun HT_ HW_ => ?_)
              generalize w9.drew = w10 at HO_3 BK107 HB hHeld ⊢
              refine pure_ (i := 0) (N := some 12) (v := ?_) (a' := ?_) #[true, false, false, false, false, false, false, false, false, false] rfl rfl (any_of HT_.out (by kernel_rfl)) (fun _ _ _ h => h) (Or.inl ⟨by rfl, ?_⟩) ?_ ?_
              rotate_left
              · intro w'
                go_simp
                with_reducible rfl
              rotate_left
              · simp only [Act.put, List.setIfInBounds_toArray, List.set_cons_zero, List.set_cons_succ, i64_w, i32_w]
                rfl
              refine pure_ (i := 1) (N := some 13) (v := ?_) (a' := ?_) #[true, true, false, false, false, false, false, false, false, false] rfl rfl (any_of HT_.out (by kernel_rfl)) (fun _ _ _ h => h) (Or.inl ⟨by rfl, ?_⟩) ?_ ?_
              rotate_left
              · intro w'
                go_simp
                with_reducible rfl
              rotate_left
              · simp only [Act.put, List.setIfInBounds_toArray, List.set_cons_zero, List.set_cons_succ, i64_w, i32_w]
                rfl
              refine pure_ (i := 3) (N := some 15) (v := ?_) (a' := ?_) #[true, true, false, true, false, false, false, false, false, false] rfl rfl (any_of HT_.out (by kernel_rfl)) (fun _ _ _ h => h) (Or.inl ⟨by rfl, ?_⟩) ?_ ?_
              rotate_left
              · intro w'
                go_simp
                with_reducible rfl
              rotate_left
              · simp only [Act.put, List.setIfInBounds_toArray, List.set_cons_zero, List.set_cons_succ, i64_w, i32_w]
                rfl
              refine take_ (i := 2) (N := some 14) (v := ?_) (a' := ?_) #[true, true, true, true, false, false, false, false, false, false] rfl rfl (take_ofW HT_.out HW_.out (by kernel_rfl)) (fun _ _ _ h => h) (Or.inl ⟨by rfl, ?_⟩) hHeld ?_ ?_
              rotate_left
              · rintro w' ⟨s0, s1⟩
                go_simp
                with_reducible rfl
              rotate_left
              · simp only [Act.put, List.setIfInBounds_toArray, List.set_cons_zero, List.set_cons_succ, i64_w, i32_w]
                rfl
              refine take_ (i := 4) (N := some 16) (v := ?_) (a' := ?_) #[true, true, true, true, true, false, false, false, false, false] rfl rfl (take_ofW HT_.out HW_.out (by kernel_rfl)) (fun _ _ _ h => h) (Or.inl ⟨by rfl, ?_⟩) hHeld ?_ ?_
              rotate_left
              · rintro w' ⟨s0, s1⟩
                go_simp
                with_reducible rfl
              rotate_left
              · simp only [Act.put, List.setIfInBounds_toArray, List.set_cons_zero, List.set_cons_succ, i64_w, i32_w]
                rfl
              refine one_ (i := 5) (N := some 17) #[true, true, true, true, true, true, false, false, false, false] rfl rfl (one_of HT_.out (by kernel_rfl)) (by decide) (fun K hK => ?_)
              refine goes_ Try.func29 (by kernel_rfl) rfl #[.slice A106_1 ((rd_T51 l0 x8_1).f1).length c106_1] (by rfl) rfl rfl (by (try simp only [List.map_toArray, List.map_cons, List.map_nil]); first | done | rfl | (simp only [List.length_drop, List.length_take]; rfl)) ?_
              with_reducible refine (ratlinelaw16_Rise.calls _ _ ((rd_T51 l0 x8_1).f1) t108 _ ?side1 ?side2 A5.out).mono ?_
              (case side1 => repeat (first | exact (Kd.C_below HR106_1.out HB.out) | (with_reducible refine Kd.C_alloc ?_ _) | (with_reducible refine Kd.C_drewN ?_ _) | (with_reducible refine Kd.C_drew ?_)))
              (case side2 => exact HC106_1.out)
              rintro e w11 ⟨v109, rfl, ho0, hb⟩
              refine ⟨_, rfl, ?_⟩
              have n0_ := Aside0.mk (Kd.S_elder' (by (with_reducible repeat (first | apply Kd.S_alloc | apply Kd.S_drewN | apply Kd.S_drew)); exact HO_3.out) (Kd.R_base ho0) hb)
              have n1_ := Aside0.mk (Kd.R_lower ho0 (below_size (by repeat (first | (with_reducible first | exact HB.out | apply below_alloc | apply pw_below_drewN | apply below_drew1 | refine below_set ?_ GE107.out) | exact HB.out))))
              have n2_ := Aside0.mk (blk_below (g := gb107) (o := .cells #[.int .i64 ((rd_T51 l0 x8_1).f0), .slice A106_1 ((rd_T51 l0 x8_1).f1).length c106_1] 51 (0, 0)) (by (with_reducible repeat (first | refine blk_drewN ?_ _ | refine blk_drew ?_ | refine blk_alloc ?_ _)); exact BK107.out) hb)
              have n3_ := Aside0.mk (below_step (by repeat (first | (with_reducible first | exact HB.out | apply below_alloc | apply pw_below_drewN | apply below_drew1 | refine below_set ?_ GE107.out) | exact HB.out)) hb)
              clear HO_3
              clear BK107
              clear HB
              have HO_3 := n0_
              have HO110 := n1_
              have BK107 := n2_
              have HB := n3_
              clear n0_ n1_ n2_ n3_
              (try clear hb)
              (try clear hb2)
              (try clear hk)
              (try clear hi)
              (try clear ho0)
              obtain ⟨Ao12, co12, eo12⟩ := Kd.R_slice HO110.out
              (first | subst eo12 | (injection eo12 with f1_ f2_ f3_; have f4_ := f1_.symm; have f5_ := f3_.symm; clear f1_ f2_ f3_; subst f4_; subst f5_))
              refine hK.out _ _ ⟨(blk_cell BK107.out 0).trans rfl, (blk_cell BK107.out 1).trans rfl⟩ (fun hHeld => ?_)
              clear hK K
              refine norm_ (a' := ?_) ?_ ?_
              rotate_left
              · show Act.put _ (some 17) _ = _
                simp only [Act.put, List.setIfInBounds_toArray, List.set_cons_zero, List.set_cons_succ, i64_w, i32_w]
                rfl
              refine pure_ (i := 6) (N := some 18) (v := ?_) (a' := ?_) #[true, true, true, true, true, true, true, false, false, false] rfl rfl (any_of HT_.out (by kernel_rfl)) (fun _ _ _ h => h) (Or.inl ⟨by rfl, ?_⟩) ?_ ?_
              rotate_left
              · intro w'
                go_simp
                with_reducible rfl
              rotate_left
              · simp only [Act.put, List.setIfInBounds_toArray, List.set_cons_zero, List.set_cons_succ, i64_w, i32_w]
                rfl
              refine one_ (i := 7) (N := some 19) #[true, true, true, true, true, true, true, true, false, false] rfl rfl (one_of HT_.out (by kernel_rfl)) (by decide) (fun K hK => ?_)
              refine value_ (w1 := ?_) (v := ?_) (by rfl) rfl ?_ ?_
              rotate_left 2
              · go_simp
                constructor
                · rfl
                · rfl
              refine hK.out _ _ ⟨(blk_cell (blk_alloc BK107.out _) 0).trans rfl, (blk_cell (blk_alloc BK107.out _) 1).trans rfl⟩ (fun hHeld => ?_)
              clear hK K
              refine norm_ (a' := ?_) ?_ ?_
              rotate_left
              · show Act.put _ (some 19) _ = _
                simp only [Act.put, List.setIfInBounds_toArray, List.set_cons_zero, List.set_cons_succ, i64_w, i32_w]
                rfl
              refine one_ (i := 8) (N := some 20) #[true, true, true, true, true, true, true, true, true, false] rfl rfl (one_of HT_.out (by kernel_rfl)) (by decide) (fun K hK => ?_)
              refine Kd.S_append_step k51 (w0 := w) w.heap.size (by rfl) (.tmp 12) (.tmp 19) 38 51 (.agg #[(.int .i64 0), (.slice none 0 0)]) 32 rfl Try.underlying38 info51 rfl (by decide) (by omega) u3 x3_1 (⟨(rd_T51 l0 x8_1).f0, t108⟩ : S51) [.int .i64 ((rd_T51 l0 x8_1).f0), .slice Ao12 t108.length co12] (fun k_ => k_ ≠ gb107) (fun k_ => some k_ = (.slice Ao12 t108.length co12 : Value).ownBlock) rfl rfl ?aP (fun k_ hk_ => ((Kd.R_mono (ok' := fun k_ => ((fun k_ => k_ ≠ gb107)) k_ ∧ some k_ ≠ (u3 : Value).ownBlock) (Kd.R_types (Kd.R_apart' (HO110.out) (Kd.S_typed HO_3.out) (by decide)) BK107.out (by decide)) (fun k_ hk => ⟨hk.2, hk.1.2⟩))).1 k_ hk_.symm) ?aF ?aO ?aB ?aS ?aL ?_
              (case aP => exact k51_mkM _ _ _ (⟨(rd_T51 l0 x8_1).f0, t108⟩ : S51) (Kd.R_mono (Kd.R_tight rfl (Kd.R_mono (ok' := fun k_ => ((fun k_ => k_ ≠ gb107)) k_ ∧ some k_ ≠ (u3 : Value).ownBlock) (Kd.R_types (Kd.R_apart' (HO110.out) (Kd.S_typed HO_3.out) (by decide)) BK107.out (by decide)) (fun k_ hk => ⟨hk.2, hk.1.2⟩))) (fun _ h_ => h_)))
              (case aB => exact (by repeat (first | (with_reducible first | exact HB.out | apply below_alloc | apply pw_below_drewN | apply below_drew1 | refine below_set ?_ GE107.out) | exact HB.out)))
              (case aF => exact (fun k_ hk => Kd.freshB (g := gb107) (o := .cells #[.int .i64 ((rd_T51 l0 x8_1).f0), .slice A106_1 ((rd_T51 l0 x8_1).f1).length c106_1] 51 (0, 0)) (by (with_reducible repeat (first | refine blk_drewN ?_ _ | refine blk_drew ?_ | refine blk_alloc ?_ _)); exact BK107.out) k_ hk))
              (case aO => exact (by (with_reducible repeat (first | apply Kd.S_alloc | apply Kd.S_drewN | apply Kd.S_drew)); exact Kd.S_mono HO_3.out (fun k_ hk => ⟨hk.1, fun e_ => hk.2 e_⟩)))
              (case aS => exact (below_size (by repeat (first | (with_reducible first | exact HB.out | apply below_alloc | apply pw_below_drewN | apply below_drew1 | refine below_set ?_ GE107.out) | exact HB.out))))
              (case aL => have := LMc6.out; omega)
              intro v112 w13 ho hb hg hat
              rw [← Ny111.out] at ho
              have n0_ := Aside0.mk (blk_grown (g := gb107) (o := .cells #[.int .i64 ((rd_T51 l0 x8_1).f0), .slice A106_1 ((rd_T51 l0 x8_1).f1).length c106_1] 51 (0, 0)) (by (with_reducible repeat (first | refine blk_drewN ?_ _ | refine blk_drew ?_ | refine blk_alloc ?_ _)); exact BK107.out) hg (Kd.S_away HO_3.out (fun _ hk => hk.1)))
              have n1_ := Aside0.mk (hb)
              have n2_ := Aside0.mk (ho)
              clear BK107
              clear HB
              clear HO_3
              clear HO110
              have BK107 := n0_
              have HB := n1_
              have HO113 := n2_
              clear n0_ n1_ n2_
              clear ho hb hg hat
              refine hK.out _ _ ⟨(blk_cell BK107.out 0).trans rfl, (blk_cell BK107.out 1).trans rfl⟩ (fun hHeld => ?_)
              clear hK K
              refine norm_ (a' := ?_) ?_ ?_
              rotate_left
              · show Act.put _ (some 20) _ = _
                simp only [Act.put, List.setIfInBounds_toArray, List.set_cons_zero, List.set_cons_succ, i64_w, i32_w]
                rfl
              refine pure_ (i := 9) (N := some 3) (v := ?_) (a' := ?_) #[true, true, true, true, true, true, true, true, true, true] rfl rfl (any_of HT_.out (by kernel_rfl)) (fun _ _ _ h => h) (Or.inl ⟨by rfl, ?_⟩) ?_ ?_
              rotate_left
              · intro w'
                go_simp
                with_reducible rfl
              rotate_left
              · simp only [Act.put, List.setIfInBounds_toArray, List.set_cons_zero, List.set_cons_succ, i64_w, i32_w]
                rfl
              refine done_ (done_of HT_.out (by kernel_rfl)) ?_
              try go_wp2
              go_roundg k1
              case measure => have := HK1.out; omega
              case rel => exact ⟨(y111), (wrap64 (x8_1 + 1)), (by first | rfl | (simp; done) | (simp [*]; done)), H', ⟨by have := HK1.out; omega⟩, ⟨by (with_reducible repeat (first | apply Kd.S_alloc | apply Kd.S_drewN | apply Kd.S_drew)); exact Kd.S_mono HO113.out (fun _ hk => trivial)⟩, ⟨by repeat (first | (with_reducible first | exact HB.out | apply below_alloc | apply pw_below_drewN | apply below_drew1 | refine below_set ?_ GE107.out) | exact HB.out)⟩⟩
            · rw [if_neg c6] at H
              exact absurd H (by simp)
          · rw [if_neg c4] at H
            exact absurd H (by simp)
        · rw [if_neg c3] at H
          exact absurd H (by simp)
      · rw [if_neg c2] at H
        have c2b0 : decide (x8_1 < (l0.length : Int)) = false := decide_eq_false c2
        clear c2
        obtain rfl := Option.some.inj H
        go_wp2
        go_ret
        exact ⟨_, by first | rfl | (simp [errW_none, errW_some] <;> rfl) | (simp [*, errW_none, errW_some] <;> rfl), by (with_reducible repeat (first | apply Kd.S_alloc | apply Kd.S_drewN | apply Kd.S_drew)); exact HO_3.out, by repeat (first | (with_reducible first | exact HB.out | apply below_alloc | apply pw_below_drewN | apply below_drew1) | exact HB.out)⟩

end Go.Proofs.Ythlahhkjoocigaa.XSched
