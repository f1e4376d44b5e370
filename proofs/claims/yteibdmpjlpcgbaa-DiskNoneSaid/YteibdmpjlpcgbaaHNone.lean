/- DiskNone: a disk that is none answers nothing. -/
import Derived.Test.YteibdmpjlpcgbaaHNone0
namespace Go.Proofs.Yteibdmpjlpcgbaa.XDisk
open Go Go.RowKit Go.Proofs.YteibdmpjlpcgbaaW.PrintWords Go.Proofs.YteibdmpjlpcgbaaW.PrintLast Go.Proofs.YteibdmpjlpcgbaaW.PrintMore
open Go.Proofs.Yteibdmpjlpcgbaa
set_option linter.unusedVariables false
set_option linter.unusedSimpArgs false
set_option maxHeartbeats 16000000 in
set_option maxRecDepth 100000 in
theorem none_walk (nm : Nm) (A1 : Option Addr) (c1 : Nat) (b : List Int) (w : World) (hr1 : Kd.C (Kd.int .u8) w A1 b.length b) :
    Calls Try.prog 9 #[.string (str nm), .slice A1 b.length c1] w fun e w' => e = .returned (.bool true) ∧ Below w.heap.size w w' := by
  have HB0 := Aside0.mk hr1
  have HW := Aside0.mk (Below.refl w.heap.size w)
  have hbm : b.length ≤ 9223372036854775807 := hr1.2.1
  clear hr1
  by_cases h0 : b.length ≤ 60
  rotate_left
  · have d0 : decide ((b.length : Int) > 60) = true := decide_eq_true (by omega)
    have e0 : decide ((60 : Int) < (b.length : Int)) = true := decide_eq_true (by omega)
    go_enter Try.func9, Try.ntmps9
    go_wp2_with (first | (go_at_call 11; refine (awake_at _).mono ?_; rintro e w5 ⟨rfl, hb⟩; have n_HW := Aside0.mk (below_step HW.out hb); clear HW; have HW := n_HW; clear n_HW; clear hb))
    go_ret
    exact ⟨rfl, HW.out⟩
  have d0 : decide ((b.length : Int) > 60) = false := decide_eq_false (by omega)
  have e0 : decide ((60 : Int) < (b.length : Int)) = false := decide_eq_false (by omega)
  go_enter Try.func9, Try.ntmps9
  go_upto_region 4 with (first | ((with_reducible refine gate_dst (N := 18) rfl ?_); refine box_event ?hg (N := 18) ?hd (cs := #[.bool false, .int .i64 0, .slice none 0 0, .slice none 0 0, .map none, .int .i64 0]) (t := 71) ?hr ?_; (case hd => rfl); (case hg => rfl); (case hr => first | (go_simp; done) | (go_simp; rfl)); intro gz hg w3 hbox hb; have BZ := Aside0.mk hbox; have n_HW := Aside0.mk (below_step HW.out hb); clear HW hg hbox hb; have HW := n_HW; clear n_HW) | ((with_reducible refine gate_dst (N := 19) rfl ?_); refine lit_event ?hg (cs := #[.pointer none, .pointer (some ⟨gz, 0, none⟩)]) (t := 28) (k := 2) ?hr ?_; (case hg => rfl); (case hr => first | (go_simp; done) | (go_simp; rfl)); intro gr hg w4 hbox hb; have BR := Aside0.mk hbox; have n_HW := Aside0.mk (below_step HW.out hb); have n_BZ := Aside0.mk (blk_below BZ.out hb); clear HW BZ hg hbox hb; have HW := n_HW; have BZ := n_BZ; clear n_HW n_BZ))
  rename World => w4
  clear d0 e0
  have HPS : Aside0 (∀ (i : Nat), i < 2 → ∃ p, w4.cell? ⟨gr, i, none⟩ = some (.pointer p) ∧ NoDisk w4 p) := ⟨fun i hi => by
    have h : i = 0 ∨ i = 1 := by omega
    rcases h with rfl | rfl
    · exact ⟨none, (blk_cell BR.out 0).trans rfl, .inl rfl⟩
    · exact ⟨_, (blk_cell BR.out 1).trans rfl, .inr ⟨gz, rfl, (blk_cell BZ.out 0).trans rfl⟩⟩⟩
  go_loopw [21] (fun v21 wr => ∃ i : Nat, i ≤ 2 ∧ v21 = .int .i64 i ∧ Aside0 (Below w4.heap.size w4 wr)) (fun v21 _ => 2 - (intOf v21).toNat)
  case atStart => exact ⟨0, Nat.zero_le _, rfl, ⟨Below.refl _ _⟩⟩
  case round =>
    obtain ⟨i, hi, rfl, HQ⟩ := hrel
    rename World => wr
    by_cases hlt : i < 2
    · obtain ⟨p, hp, hn⟩ := HPS.out i hlt
      have HN := Aside0.mk hn
      replace hp := (HQ.out.cell (World.block_lt_of_cell? w4 _ hp)).trans hp
      have hadd : (⟨gr, 0, none⟩ : Addr).add i = ⟨gr, i, none⟩ := by simp [Addr.add]; intro h; exact h.symm
      have hp2 : wr.cell? ((⟨gr, 0, none⟩ : Addr).add i) = some (.pointer p) := by rw [hadd]; exact hp
      clear hn
      go_upto_region 6 with (fail)
      clear hp hp2 hadd
      go_upto_region 7 with (first | ((with_reducible refine gate_dst (N := 26) rfl ?_); refine lit_event ?hg (cs := #[.int .i64 1]) (t := 3) (k := 1) ?hr ?_; (case hg => rfl); (case hr => first | (go_simp; done) | (go_simp; rfl)); intro gk hg w5 hbox hb; clear hg hbox; have n_HQ := Aside0.mk (below_step HQ.out hb); clear HQ; have HQ := n_HQ; clear n_HQ hb) | (go_at_call 17; refine (crash_no p _ _ (HN.out.below HQ.out)).mono ?_; rintro e w6 ⟨rfl, rfl⟩))
      go_upto_region 8 with (first | (go_at_call 23; refine (read_no p nm _ (HN.out.below HQ.out)).mono ?_; rintro e w6 ⟨AR, cR, rfl, hb⟩; have n_HQ := Aside0.mk (below_step HQ.out hb); clear HQ; have HQ := n_HQ; clear n_HQ hb))
      go_upto_region 9 with (first | (go_at_call 25; refine (size_no p nm _ (HN.out.below HQ.out)).mono ?_; rintro e w6 ⟨rfl, hb⟩; have n_HQ := Aside0.mk (below_step HQ.out hb); clear HQ; have HQ := n_HQ; clear n_HQ hb))
      go_upto_region 10 with (first | (go_at_call 30; refine (loose_no p nm _ (HN.out.below HQ.out)).mono ?_; rintro e w6 ⟨rfl, hb⟩; have n_HQ := Aside0.mk (below_step HQ.out hb); clear HQ; have HQ := n_HQ; clear n_HQ hb))
      go_upto_region 12 with (first | (go_at_call 28; refine (create_no p nm _ (HN.out.below HQ.out)).mono ?_; rintro e w6 ⟨rfl, hb⟩; have n_HQ := Aside0.mk (below_step HQ.out hb); clear HQ; have HQ := n_HQ; clear n_HQ hb) | (go_at_call 31; refine (append_no p nm b A1 c1 _ (HN.out.below HQ.out)).mono ?_; rintro e w6 ⟨rfl, hb⟩; have n_HQ := Aside0.mk (below_step HQ.out hb); clear HQ; have HQ := n_HQ; clear n_HQ hb) | (go_at_call 32; refine (sync_no p nm _ (HN.out.below HQ.out)).mono ?_; rintro e w6 ⟨rfl, hb⟩; have n_HQ := Aside0.mk (below_step HQ.out hb); clear HQ; have HQ := n_HQ; clear n_HQ hb) | (go_at_call 26; refine (rename_no p nm nm _ (HN.out.below HQ.out)).mono ?_; rintro e w6 ⟨rfl, hb⟩; have n_HQ := Aside0.mk (below_step HQ.out hb); clear HQ; have HQ := n_HQ; clear n_HQ hb) | (go_at_call 27; refine (remove_no p nm _ (HN.out.below HQ.out)).mono ?_; rintro e w6 ⟨rfl, hb⟩; have n_HQ := Aside0.mk (below_step HQ.out hb); clear HQ; have HQ := n_HQ; clear n_HQ hb))
      go_wp2_with (first | (go_at_call 19; refine (used_no p _ (HN.out.below HQ.out)).mono ?_; rintro e w6 ⟨rfl, rfl⟩) | (go_at_call 15; refine (calls_no p _ (HN.out.below HQ.out)).mono ?_; rintro e w6 ⟨rfl, rfl⟩) | (go_at_call 16; refine (list_no p _ (HN.out.below HQ.out)).mono ?_; rintro e w6 ⟨rfl, rfl⟩) | (go_at_call 29; refine (copy_no p _ (HN.out.below HQ.out)).mono ?_; rintro e w6 ⟨rfl, rfl⟩))
      go_roundw
      case rel => exact ⟨i + 1, by omega, by go_num, HQ⟩
      case measure => simp [intOf]; omega
    · obtain rfl : i = 2 := by omega
      go_wp2_with (first | (go_at_call 11; refine (awake_at _).mono ?_; rintro e w6 ⟨rfl, hb⟩; have n_HQ := Aside0.mk (below_step HQ.out hb); clear HQ; have HQ := n_HQ; clear n_HQ hb))
      go_ret
      exact ⟨rfl, below_step HW.out HQ.out⟩
theorem none_walk2 (s : ByteArray) (A1 : Option Addr) (c1 : Nat) (b : List Int) (w : World) (hr1 : Kd.C (Kd.int .u8) w A1 b.length b) :
    Calls Try.prog 9 #[.string s, .slice A1 b.length c1] w fun e w' => e = .returned (.bool true) ∧ Below w.heap.size w w' := by
  have h := none_walk s.data.toList A1 c1 b w hr1
  rw [str_of] at h
  exact h
end Go.Proofs.Yteibdmpjlpcgbaa.XDisk
