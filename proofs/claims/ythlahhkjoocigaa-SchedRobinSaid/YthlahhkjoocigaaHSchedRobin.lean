/- SchedRobin's walk. -/
import Derived.Test.YthlahhkjoocigaaHRobin
import Derived.Test.YthlahhkjoocigaaHOpen
import Derived.BigQuiet
namespace Go.Proofs.Ythlahhkjoocigaa.XSched
open Go Go.RowKit Go.Proofs.YthlahhkjoocigaaW.PrintWords Go.Proofs.YthlahhkjoocigaaW.PrintLast Go.Proofs.YthlahhkjoocigaaW.PrintMore
attribute [local go_sem] max2_int min2_int max_two min_two max_three min_three max_four min_four
set_option linter.unusedVariables false
set_option linter.unusedSimpArgs false

theorem inf49 : (Try.prog.info? 49).map (fun i => i.size) = some 1 := by kernel_rfl
theorem rise_snoc {c : List Int} {j : Int} (h : c.Pairwise (· < ·)) (hb : ∀ x ∈ c, 0 ≤ x ∧ x < j) : (c ++ [j]).Pairwise (· < ·) := by
  rw [List.pairwise_append]
  exact ⟨h, List.pairwise_singleton _ _, fun x hx y hy => by rw [List.mem_singleton.1 hy]; exact (hb x hx).2⟩
theorem mem_snoc {c : List Int} {j : Int} (h0 : 0 ≤ j) (hb : ∀ x ∈ c, 0 ≤ x ∧ x < j) : ∀ x ∈ c ++ [j], 0 ≤ x ∧ x < j + 1 := by
  intro x hx
  rcases List.mem_append.1 hx with hx | hx
  · have := hb x hx; omega
  · rw [List.mem_singleton.1 hx]; omega

theorem next0 (A : Option Addr) (cc : Nat) (a : Int) (w : World) (hr : Kd.C (Kd.int .i64) w A 0 []) : Calls Try.prog 31 #[.slice A 0 cc, .int .u32 a] w fun e w' => e = .returned (.tuple #[.int .i64 0, .bool false]) ∧ Drawn0 w w' :=
  sched_Next.calls A cc [] a 0 false w hr (Nat.zero_le _) (next_nil a)
theorem robin0 (A : Option Addr) (cc : Nat) (a : Int) (w : World) (hr : Kd.C (Kd.int .i64) w A 0 []) : Calls Try.prog 33 #[.slice A 0 cc, .int .i64 a] w fun e w' => e = .returned (.tuple #[.int .u32 0, .bool false]) ∧ Below w.heap.size w w' :=
  sched_Robin.calls A cc [] a 0 false w hr (Nat.zero_le _) (robin_nil a)
theorem drawn_below {w w' : World} (h : Drawn0 w w') : Below w.heap.size w w' := h.below

set_option maxHeartbeats 16000000 in
set_option maxRecDepth 100000 in
theorem robin_walk (a0 : Int) (A1 : Option Addr) (c1 : Nat) (l1 : List Int) (w : World) (hr1 : Kd.C (Kd.int .u16) w A1 l1.length l1) (hc1 : l1.length ≤ c1) (h1 : l1.length ≤ 9223372036854775807) (hp0 : 0 ≤ a0) (hp1 : a0 ≤ 255) (hu : ∀ x ∈ l1, 0 ≤ x ∧ x ≤ 65535) :
    Calls Try.prog 6 #[.int .u8 a0, .slice A1 l1.length c1] w fun e w' => e = .returned (.bool true) ∧ Below w.heap.size w w' := by
  obtain ⟨n, hn⟩ : ∃ n : Nat, 1 + a0 % 12 = (n : Int) := ⟨(1 + a0 % 12).toNat, by omega⟩
  have hn1 : 1 ≤ n := by omega
  have hn12 : n ≤ 12 := by omega
  obtain ⟨M, hM⟩ : ∃ M : Nat, (if (60 : Int) < (l1.length : Int) then (60 : Int) else (l1.length : Int)) = (M : Int) := ⟨_, (Int.toNat_of_nonneg (by split <;> omega)).symm⟩
  have hM1 : M ≤ l1.length := by split at hM <;> omega
  have hM60 : M ≤ 60 := by split at hM <;> omega
  obtain ⟨i49, hi49, hs49⟩ := Option.map_eq_some_iff.1 inf49
  have hcut := cut_to (P := Try.prog) 48 49 .i64 Try.underlying48 hi49 A1 l1.length c1 (M : Int) (by omega) (by omega) hc1
  rw [Int.toNat_natCast] at hcut
  have hr2 := Kd.C_take hr1 hM1
  have hu2 : ∀ x ∈ l1.take M, 0 ≤ x ∧ x ≤ 65535 := fun x hx => hu x (List.mem_of_mem_take hx)
  have hl2 : (l1.take M).length = M := by rw [List.length_take]; omega
  have HR0 := Aside0.mk hr1
  have HC1 := Aside0.mk hc1
  generalize l1.take M = l2 at hr2 hu2 hl2
  rw [← hl2] at hM hM1 hM60 hcut
  clear hl2 hi49 hs49
  have HR1 := Aside0.mk hr2
  have HU := Aside0.mk hu2
  clear hr1 hc1 hu hr2 hu2
  go_enter Try.func6, Try.ntmps6
  go_wp2
  clear hM hcut
  go_loopw [6, 7, 31] (fun v6 v7 v31 wr => ∃ (i : Nat) (T : List S51), i ≤ l2.length ∧ T.length ≤ i ∧ v31 = .int .i64 i ∧ v6 = .int .i64 (lastOf (-1) T) ∧ Aside0 (Made n T) ∧ Aside0 (Kd.R k51 51 wr w.heap.size (fun _ => True) v7 T) ∧ Aside0 (Below w.heap.size w wr)) (fun v6 v7 v31 _ => l2.length - (intOf v31).toNat)
  case atStart => exact ⟨0, [], Nat.zero_le _, Nat.zero_le _, rfl, rfl, ⟨made_nil n (by omega)⟩, ⟨Kd.R_nil _ _ _ _ _⟩, ⟨Below.refl _ _⟩⟩
  case round =>
    obtain ⟨i, T, hi, hTi, rfl, rfl, HM, HT, HB⟩ := hrel
    rename World => wo
    have HWO : w.heap.size ≤ wo.heap.size := below_size HB.out
    by_cases hlt : i < l2.length
    · obtain ⟨ad, e0, hx⟩ := Kd.at_int HR1.out (i : Int) (by omega) (by omega)
      subst e0
      replace hx := (HB.out.cell (World.block_lt_of_cell? w _ hx)).trans hx
      simp only [rd_nat, Int.toNat_natCast] at hx
      generalize l2.getD i 0 = bits at hx
      generalize hlast : lastOf (-1) T = last
      have HL := Aside0.mk hlast
      clear hlast
      go_wp2
      clear hx
      go_loopw [10, 36] (fun v10 v36 wq => ∃ (j : Nat) (c : List Int), j ≤ n ∧ c.length ≤ j ∧ v36 = .int .i64 j ∧ Aside0 (c.Pairwise (· < ·)) ∧ Aside0 (∀ x ∈ c, 0 ≤ x ∧ x < (j : Int)) ∧ Aside0 (Kd.R (Kd.int .i64) 3 wq wo.heap.size (fun _ => True) v10 c) ∧ Aside0 (Below wo.heap.size wo wq)) (fun v10 v36 _ => n - (intOf v36).toNat)
      case atStart => exact ⟨0, [], Nat.zero_le _, Nat.zero_le _, rfl, ⟨List.Pairwise.nil⟩, ⟨fun x hx => by cases hx⟩, ⟨Kd.R_nil _ _ _ _ _⟩, ⟨Below.refl _ _⟩⟩
      case round =>
        obtain ⟨j, c, hj, hcj, rfl, HP, HI, HO, HB2⟩ := hrel
        by_cases hlj : j < n
        · go_wp2_with (first | ((with_reducible refine gate_builtin (b := .append) (xs := #[.tmp 44, .tmp 46]) rfl ?_); at_builtin; go_loud (refine Kd.R_append (Kd.int .i64) (w0 := wo) wo.heap.size rfl (.tmp 44) (.tmp 46) 36 3 (.int .i64 0) 8 rfl Try.underlying36 info3 rfl (by decide) (by omega) _ c (j : Int) [.int .i64 j] (fun _ => True) (fun _ => False) rfl rfl rfl (fun _ hk => hk.elim) (fun _ _ => trivial) HO.out HB2.out (below_size HB2.out) (by omega) ?_); intro v13 w13 ho hb hg hat; have n0 := Aside0.mk ho; have n1 := Aside0.mk hb; clear ho hb hg hat))
          all_goals go_roundw
          · exact ⟨j + 1, c ++ [(j : Int)], by omega, by simp; omega, by go_num, ⟨rise_snoc HP.out HI.out⟩, ⟨mem_snoc (by omega) HI.out⟩, n0, n1⟩
          · simp [intOf]; omega
          · exact ⟨j + 1, c, by omega, by omega, by go_num, HP, ⟨fun x hx => by have := HI.out x hx; omega⟩, HO, HB2⟩
          · simp [intOf]; omega
        · obtain rfl : n = j := by omega
          rename World => wq
          obtain ⟨Ac, cc, hv⟩ := Kd.R_slice HO.out
          subst hv
          have HCr := Aside0.mk (Kd.R_reads' HO.out).2.2
          have HCc := Aside0.mk (Kd.R_reads' HO.out).2.1
          have HTq := Aside0.mk (Kd.R_below HT.out HB2.out)
          have HBq := Aside0.mk (below_step HB.out HB2.out)
          clear HT HB HB2
          by_cases hc0 : c.length = 0
          · obtain rfl : c = [] := List.eq_nil_of_length_eq_zero hc0
            clear HP HI HO HCc
            have HCn : Aside0 (Kd.C (Kd.int .i64) wq Ac 0 []) := ⟨HCr.out⟩
            have HZ := Aside0.mk (Below.refl wq.heap.size wq)
            clear HCr hc0 hcj
            simp only [List.length_nil]
            go_wp2_with (first
              | (go_at_call 33; (with_reducible refine (robin0 _ _ _ _ (Kd.C_below HCn.out HZ.out)).mono ?_); rintro e w20 ⟨rfl, hbb⟩; have n0 := Aside0.mk (below_step HZ.out hbb); clear HZ; have HZ := n0; clear n0 hbb)
              | (go_at_call 31; (with_reducible refine (next0 _ _ _ _ (Kd.C_below HCn.out HZ.out)).mono ?_); rintro e w20 ⟨rfl, hbb⟩; have n0 := Aside0.mk (below_step HZ.out (drawn_below hbb)); clear HZ; have HZ := n0; clear n0 hbb))
            go_loopw [81] (fun v81 wy => v81 = .int .i64 0 ∧ Aside0 (Below wq.heap.size wq wy)) (fun v81 _ => 0)
            case atStart => exact ⟨rfl, HZ⟩
            case round =>
              clear HZ
              obtain ⟨rfl, HZ⟩ := hrel
              go_wp2
              go_roundw
              case rel => exact ⟨i + 1, T, by omega, by omega, by go_num, by rw [HL.out], HM, ⟨Kd.R_below HTq.out HZ.out⟩, ⟨below_step HBq.out HZ.out⟩⟩
              case measure => simp [intOf]; omega
          · have hpos : 0 < c.length := by omega
            have hc12 : c.length ≤ 12 := by omega
            obtain ⟨r1, r2, r3⟩ := rob_pick c n last HP.out HI.out (by rw [← HL.out]; exact HM.out.2.1) hpos hc12
            have RB : Aside0 (sched_Robin.f c last = some ((robPick c last : Int), true)) := ⟨by unfold sched_Robin.f; rw [r1, decide_eq_true (by omega)]⟩
            have NX : Aside0 (sched_Next.f c (robPick c last : Int) = some (c.getD (robPick c last) 0, true)) := ⟨by rw [next_val c _ hc12 hpos (by omega) (by omega), Int.toNat_natCast, Nat.mod_eq_of_lt r2]⟩
            have ms := made_snoc n T c (by omega) HM.out HP.out HI.out hpos hc12
            rw [HL.out] at ms
            have MS1 := Aside0.mk ms.1
            have MS2 := Aside0.mk ms.2
            clear ms r1 r3 hc0 HP HI HM
            generalize robPick c last = p at r2 RB NX MS1 MS2
            generalize c.getD p 0 = task at NX MS1 MS2
            have hcp : decide (c.length ≤ p) = false := decide_eq_false (by omega)
            have hcp2 : decide ((c.length : Int) ≤ (p : Int)) = false := decide_eq_false (by omega)
            have HZ := Aside0.mk (Below.refl wq.heap.size wq)
            go_wp2_with (first
              | (go_at_call 33; (with_reducible refine (sched_Robin.calls _ _ c _ _ _ _ (Kd.C_below HCr.out HZ.out) HCc.out RB.out).mono ?_); rintro e w20 ⟨rfl, hbb⟩; have n0 := Aside0.mk (below_step HZ.out hbb); clear HZ; have HZ := n0; clear n0 hbb)
              | (go_at_call 31; (with_reducible refine (sched_Next.calls _ _ c _ _ _ _ (Kd.C_below HCr.out HZ.out) HCc.out NX.out).mono ?_); rintro e w20 ⟨rfl, hbb⟩; have n0 := Aside0.mk (below_step HZ.out (drawn_below hbb)); clear HZ; have HZ := n0; clear n0 hbb))
            go_loopw [81] (fun v81 wy => ∃ q : Nat, q ≤ c.length ∧ v81 = .int .i64 q ∧ Aside0 (Below wq.heap.size wq wy)) (fun v81 _ => c.length - (intOf v81).toNat)
            case atStart => exact ⟨0, Nat.zero_le _, rfl, HZ⟩
            case round =>
              clear HZ
              obtain ⟨q, hq, rfl, HZ⟩ := hrel
              by_cases hlq : q < c.length
              · obtain ⟨ad2, e2, hy⟩ := Kd.at_int HCr.out (q : Int) (by omega) (by omega)
                subst e2
                replace hy := (HZ.out.cell (World.block_lt_of_cell? wq _ hy)).trans hy
                simp only [rd_nat, Int.toNat_natCast] at hy
                have NE := Aside0.mk (next_each c q hc12 hlq)
                generalize c.getD q 0 = y at hy NE
                go_wp2_with (first
                  | (go_at_call 31; (with_reducible refine (sched_Next.calls _ _ c _ y true _ (Kd.C_below HCr.out HZ.out) HCc.out NE.out).mono ?_); rintro e w20 ⟨rfl, hbb⟩; have n0 := Aside0.mk (below_step HZ.out (drawn_below hbb)); clear HZ; have HZ := n0; clear n0 hbb))
                go_roundw
                case rel => exact ⟨q + 1, by omega, by go_num, HZ⟩
                case measure => simp [intOf]; omega
              · obtain rfl : q = c.length := by omega
                have HTy := Aside0.mk (Kd.R_below HTq.out HZ.out)
                have HOy := Aside0.mk (Kd.R_lower (Kd.R_below HO.out HZ.out) HWO)
                have HBy := Aside0.mk (below_step HBq.out HZ.out)
                clear HTq HO HBq HZ
                go_wp2_with (first | ((with_reducible refine gate_builtin (b := .append) (xs := #[.tmp 106, .tmp 110]) rfl ?_); at_builtin; go_loud (refine Kd.R_append k51 (w0 := w) w.heap.size rfl (.tmp 106) (.tmp 110) 38 51 (.agg #[(.int .i64 0), (.slice none 0 0)]) 32 rfl Try.underlying38 info51 rfl (by decide) (by omega) _ T (⟨task, c⟩ : S51) [.int .i64 task, .slice Ac c.length cc] (fun _ => True) _ rfl rfl (k51_mkM _ _ _ (⟨task, c⟩ : S51) (Kd.R_apart' HOy.out (Kd.R_typed HTy.out) (by decide))) (fun _ hk => hk) (fun _ _ => trivial) HTy.out HBy.out (below_size HBy.out) (by omega) ?_); intro v13 w13 ho hb hg hat; have n0 := Aside0.mk ho; have n1 := Aside0.mk hb; clear ho hb hg hat))
                go_roundw
                case rel => exact ⟨i + 1, T ++ [⟨task, c⟩], by omega, by simp; omega, by go_num, by rw [MS2.out], MS1, n0, n1⟩
                case measure => simp [intOf]; omega
    · obtain rfl : i = l2.length := by omega
      obtain ⟨At, ct, hv⟩ := Kd.R_slice HT.out
      subst hv
      have HTr := Aside0.mk (Kd.R_reads' HT.out).2.2
      have HTc := Aside0.mk (Kd.R_reads' HT.out).2.1
      have HF := Aside0.mk (made_fair n T (by omega) HM.out (by omega))
      have HN := Aside0.mk (fun m => rob_best n (by omega) m T (-1) HM.out.1)
      clear HT HM
      rename World => wz
      go_wp2
      go_loopw [115] (fun v115 wy => ∃ q : Nat, q ≤ n ∧ v115 = .int .i64 q ∧ Aside0 (Below wz.heap.size wz wy)) (fun v115 _ => n - (intOf v115).toNat)
      case atStart => exact ⟨0, Nat.zero_le _, rfl, ⟨Below.refl _ _⟩⟩
      case round =>
        obtain ⟨q, hq, rfl, HZ⟩ := hrel
        by_cases hlq : q < n
        · have hbest := HN.out (q : Int)
          have hb0 := best_le (q : Int) T
          have WB := Aside0.mk (waits_best T (q : Int))
          generalize bestN (q : Int) T = b at hbest WB hb0
          go_wp2_with (first
            | (go_at_call 35; (with_reducible refine (sched_Waits.calls _ _ T _ _ _ (Kd.C_below HTr.out HZ.out) HTc.out WB.out).mono ?_); rintro e w20 ⟨rfl, hbb⟩; have n0 := Aside0.mk (below_step HZ.out hbb); clear HZ; have HZ := n0; clear n0 hbb))
          go_roundw
          case rel => exact ⟨q + 1, by omega, by go_num, HZ⟩
          case measure => simp [intOf]; omega
        · obtain rfl : q = n := by omega
          go_wp2_with (first
            | (go_at_call 37; (with_reducible refine (sched_Fair.calls _ _ T _ true _ (Kd.C_below HTr.out HZ.out) HTc.out HF.out).mono ?_); rintro e w20 ⟨rfl, hbb⟩; have n0 := Aside0.mk (below_step HZ.out hbb); clear HZ; have HZ := n0; clear n0 hbb)
            | (go_at_call 28; (with_reducible refine (ratlinelaw16_awake.calls true _ rfl).mono ?_); rintro e w20 ⟨rfl, hbb⟩; have n0 := Aside0.mk (below_step HZ.out hbb); clear HZ; have HZ := n0; clear n0 hbb))
          go_ret
          exact ⟨rfl, below_step HB.out HZ.out⟩
#print axioms robin_walk
end Go.Proofs.Ythlahhkjoocigaa.XSched
