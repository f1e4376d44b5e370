/- What counts as a call of a disk: call, there, unless, walked. -/
import Derived.Test.YteibdmpjlpcgbaaTHEff
namespace Go.Proofs.Yteibdmpjlpcgbaa.XDisk
open Go Go.RowKit Go.Proofs.YteibdmpjlpcgbaaW.PrintWords Go.Proofs.YteibdmpjlpcgbaaW.PrintLast Go.Proofs.YteibdmpjlpcgbaaW.PrintMore
open Go.Proofs.Yteibdmpjlpcgbaa
attribute [local go_sem] max2_int min2_int max_two min_two max_three min_three max_four min_four
set_option linter.unusedVariables false
set_option linter.unusedSimpArgs false
/-- What unless's closure comes to. -/
def UnlessPost (no : Bool) (R : World → Prop) (w : World) (e : Ending) (w' : World) : Prop := (no = true ∧ e = .returned (.int .i64 12) ∧ w = w') ∨ (no = false ∧ e = .returned (.int .i64 0) ∧ R w')
set_option maxHeartbeats 8000000 in
set_option maxRecDepth 100000 in
theorem unless_53 (c0 c1 bf : Nat) (part : Int) (no : Bool) (w : World) (R : World → Prop) (hb : w.cell? ⟨bf, 0, none⟩ = some (.func (.func 53) #[] #[.pointer (some ⟨c0, 0, none⟩), .pointer (some ⟨c1, 0, none⟩)]))
    (h : no = false → Calls Try.prog 53 #[.pointer (some ⟨c0, 0, none⟩), .pointer (some ⟨c1, 0, none⟩)] w fun e w' => e = .returned (.tuple #[]) ∧ R w') :
    Calls Try.prog 66 #[.int .i64 part, .bool no, .pointer (some ⟨bf, 0, none⟩)] w (UnlessPost no R w) := by
  have H := Aside0.mk h
  clear h
  cases no with
  | true =>
    go_enter Try.func66, Try.ntmps66
    go_wp2
    go_ret
    exact .inl ⟨rfl, rfl, rfl⟩
  | false =>
    go_enter Try.func66, Try.ntmps66
    go_wp2_with (first | (go_at_call 53; refine (H.out rfl).mono ?_; rintro e w5 ⟨rfl, hr⟩; have HR := Aside0.mk hr; clear hr))
    go_ret
    exact .inr ⟨rfl, rfl, HR.out⟩
set_option maxHeartbeats 8000000 in
set_option maxRecDepth 100000 in
theorem unless_55 (c0 c1 bf : Nat) (part : Int) (no : Bool) (w : World) (R : World → Prop) (hb : w.cell? ⟨bf, 0, none⟩ = some (.func (.func 55) #[] #[.pointer (some ⟨c0, 0, none⟩), .pointer (some ⟨c1, 0, none⟩)]))
    (h : no = false → Calls Try.prog 55 #[.pointer (some ⟨c0, 0, none⟩), .pointer (some ⟨c1, 0, none⟩)] w fun e w' => e = .returned (.tuple #[]) ∧ R w') :
    Calls Try.prog 66 #[.int .i64 part, .bool no, .pointer (some ⟨bf, 0, none⟩)] w (UnlessPost no R w) := by
  have H := Aside0.mk h
  clear h
  cases no with
  | true =>
    go_enter Try.func66, Try.ntmps66
    go_wp2
    go_ret
    exact .inl ⟨rfl, rfl, rfl⟩
  | false =>
    go_enter Try.func66, Try.ntmps66
    go_wp2_with (first | (go_at_call 55; refine (H.out rfl).mono ?_; rintro e w5 ⟨rfl, hr⟩; have HR := Aside0.mk hr; clear hr))
    go_ret
    exact .inr ⟨rfl, rfl, HR.out⟩
set_option maxHeartbeats 8000000 in
set_option maxRecDepth 100000 in
theorem unless_57 (c0 c1 bf : Nat) (part : Int) (no : Bool) (w : World) (R : World → Prop) (hb : w.cell? ⟨bf, 0, none⟩ = some (.func (.func 57) #[] #[.pointer (some ⟨c0, 0, none⟩), .pointer (some ⟨c1, 0, none⟩)]))
    (h : no = false → Calls Try.prog 57 #[.pointer (some ⟨c0, 0, none⟩), .pointer (some ⟨c1, 0, none⟩)] w fun e w' => e = .returned (.tuple #[]) ∧ R w') :
    Calls Try.prog 66 #[.int .i64 part, .bool no, .pointer (some ⟨bf, 0, none⟩)] w (UnlessPost no R w) := by
  have H := Aside0.mk h
  clear h
  cases no with
  | true =>
    go_enter Try.func66, Try.ntmps66
    go_wp2
    go_ret
    exact .inl ⟨rfl, rfl, rfl⟩
  | false =>
    go_enter Try.func66, Try.ntmps66
    go_wp2_with (first | (go_at_call 57; refine (H.out rfl).mono ?_; rintro e w5 ⟨rfl, hr⟩; have HR := Aside0.mk hr; clear hr))
    go_ret
    exact .inr ⟨rfl, rfl, HR.out⟩
set_option maxHeartbeats 8000000 in
set_option maxRecDepth 100000 in
theorem unless_52 (c0 c1 c2 bf : Nat) (part : Int) (no : Bool) (w : World) (R : World → Prop) (hb : w.cell? ⟨bf, 0, none⟩ = some (.func (.func 52) #[] #[.pointer (some ⟨c0, 0, none⟩), .pointer (some ⟨c1, 0, none⟩), .pointer (some ⟨c2, 0, none⟩)]))
    (h : no = false → Calls Try.prog 52 #[.pointer (some ⟨c0, 0, none⟩), .pointer (some ⟨c1, 0, none⟩), .pointer (some ⟨c2, 0, none⟩)] w fun e w' => e = .returned (.tuple #[]) ∧ R w') :
    Calls Try.prog 66 #[.int .i64 part, .bool no, .pointer (some ⟨bf, 0, none⟩)] w (UnlessPost no R w) := by
  have H := Aside0.mk h
  clear h
  cases no with
  | true =>
    go_enter Try.func66, Try.ntmps66
    go_wp2
    go_ret
    exact .inl ⟨rfl, rfl, rfl⟩
  | false =>
    go_enter Try.func66, Try.ntmps66
    go_wp2_with (first | (go_at_call 52; refine (H.out rfl).mono ?_; rintro e w5 ⟨rfl, hr⟩; have HR := Aside0.mk hr; clear hr))
    go_ret
    exact .inr ⟨rfl, rfl, HR.out⟩
set_option maxHeartbeats 8000000 in
set_option maxRecDepth 100000 in
theorem there_at (gd : Nat) (s : ByteArray) (w : World) : Calls Try.prog 50 #[.pointer (some ⟨gd, 0, none⟩), .string s] w fun e w' => ∃ c0 c1, e = .returned (.func (.func 65) #[] #[.pointer (some ⟨c0, 0, none⟩), .pointer (some ⟨c1, 0, none⟩)]) ∧ w'.cell? ⟨c0, 0, none⟩ = some (.pointer (some ⟨gd, 0, none⟩)) ∧ w'.cell? ⟨c1, 0, none⟩ = some (.string s) ∧ Below w.heap.size w w' := by
  go_enter Try.func50, Try.ntmps50
  go_wp2
  go_ret
  exact ⟨_, _, rfl, by simp, by simp, below_alloc (below_alloc (Below.refl _ _) _) _⟩
set_option maxHeartbeats 8000000 in
set_option maxRecDepth 100000 in
theorem unless_at (fi : Nat) (cs : Array Value) (w : World) : Calls Try.prog 51 #[.func (.func fi) #[] cs] w fun e w' => ∃ c0, e = .returned (.func (.func 66) #[] #[.pointer (some ⟨c0, 0, none⟩)]) ∧ w'.cell? ⟨c0, 0, none⟩ = some (.func (.func fi) #[] cs) ∧ Below w.heap.size w w' := by
  go_enter Try.func51, Try.ntmps51
  go_wp2
  go_ret
  exact ⟨_, rfl, by simp, below_alloc (Below.refl _ _) _⟩
/-- May a name be? -/
def valid (s : ByteArray) : Bool := decide (0 < s.size) && decide (s.size ≤ 40)
set_option maxHeartbeats 8000000 in
set_option maxRecDepth 100000 in
theorem named_at (s : ByteArray) (w : World) : Calls Try.prog 63 #[.string s] w fun e w' => e = .returned (.bool (valid s)) ∧ w = w' := by
  obtain ⟨n, hn⟩ : ∃ n, s.size = n := ⟨_, rfl⟩
  have HV : Aside0 (valid s = (decide (0 < n) && decide (n ≤ 40))) := ⟨by unfold valid; rw [hn]⟩
  rw [HV.out]
  by_cases h : 0 < n
  · have d0 : decide (0 < (n : Int)) = true := decide_eq_true (by omega)
    have d1 : decide (0 < n) = true := decide_eq_true h
    by_cases h2 : n ≤ 40
    · have d2 : decide ((n : Int) ≤ 40) = true := decide_eq_true (by omega)
      have d3 : decide (n ≤ 40) = true := decide_eq_true h2
      rw [d1, d3]
      clear h h2
      go_enter Try.func63, Try.ntmps63
      go_wp2
      go_ret
      exact ⟨rfl, rfl⟩
    · have d2 : decide ((n : Int) ≤ 40) = false := decide_eq_false (by omega)
      have d3 : decide (n ≤ 40) = false := decide_eq_false h2
      rw [d1, d3]
      clear h h2
      go_enter Try.func63, Try.ntmps63
      go_wp2
      go_ret
      exact ⟨rfl, rfl⟩
  · have d0 : decide (0 < (n : Int)) = false := decide_eq_false (by omega)
    have d1 : decide (0 < n) = false := decide_eq_false h
    rw [d1]
    clear h
    go_enter Try.func63, Try.ntmps63
    go_wp2
    go_ret
    exact ⟨rfl, rfl⟩
/-- What call comes to. -/
def CallPost (Q : Int → World → Prop) (e : Ending) (w' : World) : Prop := ∃ x, e = .returned (.int .i64 x) ∧ Q x w'
theorem take_succ_getD {α : Type} (d : α) (l : List α) (i : Nat) (h : i < l.length) : l.take (i + 1) = l.take i ++ [l.getD i d] := by
  rw [List.take_succ_eq_append_getElem h, List.getD_eq_getElem?_getD, List.getElem?_eq_getElem h]; rfl
theorem getElem_of_getD {l : List ByteArray} {i : Nat} {x : ByteArray} (h : i < l.length) (e : l.getD i ByteArray.empty = x) : l[i]? = some x := by
  rw [List.getD_eq_getElem?_getD, List.getElem?_eq_getElem h] at e
  rw [List.getElem?_eq_getElem h]
  exact congrArg some e
theorem all_false {l : List ByteArray} {x : ByteArray} (h : x ∈ l) (hv : valid x = false) : l.all valid = false := by
  rw [Bool.eq_false_iff]
  intro ha
  have := List.all_eq_true.1 ha x h
  rw [hv] at this
  cases this
set_option maxHeartbeats 8000000 in
set_option maxRecDepth 100000 in
theorem call_54_66 (gd a0 a1 d0 : Nat) (room c : Int) (fails parts : List Int) (Af : Option Addr) (cf : Nat) (Ap : Option Addr) (cp : Nat) (vm : Value) (ok : Nat → Prop) (ad : Addr) (cn : Nat) (nm : List ByteArray) (e0 : Int) (Q : Int → World → Prop) (w : World)
    (hb : w.heap[gd]? = some (.cells #[.bool true, .int .i64 room, .slice Af fails.length cf, .slice Ap parts.length cp, vm, .int .i64 c] 71 (0, 0)))
    (hf : Kd.R (Kd.int .i64) 3 w 0 ok (.slice Af fails.length cf) fails) (hp : Kd.R (Kd.int .i64) 3 w 0 ok (.slice Ap parts.length cp) parts) (hlf : fails.length ≤ 1000000) (hlp : parts.length ≤ 1000000) (hc0 : 0 ≤ c) (hc1 : c ≤ 1000000)
    (hn : ∀ i, i < nm.length → w.cell? (ad.add i) = some (.string (nm.getD i ByteArray.empty))) (hnl : nm.length ≤ 1000) (hna : ad.block ≠ gd)
    (hw : Calls Try.prog 54 #[.pointer (some ⟨a0, 0, none⟩), .pointer (some ⟨a1, 0, none⟩)] (w.setCell ⟨gd, 5, none⟩ (.int .i64 (c + 1))) fun e w' => e = .returned (.int .i64 e0) ∧ ∃ m, w' = (w.setCell ⟨gd, 5, none⟩ (.int .i64 (c + 1))).drewN m)
    (h1 : nm.all valid = false → Q 2 (w.setCell ⟨gd, 5, none⟩ (.int .i64 (c + 1)))) (h2 : nm.all valid = true → e0 ≠ 0 → ∀ m, Q e0 ((w.setCell ⟨gd, 5, none⟩ (.int .i64 (c + 1))).drewN m))
    (h3 : nm.all valid = true → e0 = 0 → ∀ m, Calls Try.prog 66 #[.int .i64 (partOf (refusedP fails parts (c + 1))), .bool (refusedP fails parts (c + 1)).isSome, .pointer (some ⟨d0, 0, none⟩)] ((w.setCell ⟨gd, 5, none⟩ (.int .i64 (c + 1))).drewN m) (CallPost Q)) :
    Calls Try.prog 49 #[.pointer (some ⟨gd, 0, none⟩), .slice (some ad) nm.length cn, .func (.func 54) #[] #[.pointer (some ⟨a0, 0, none⟩), .pointer (some ⟨a1, 0, none⟩)], .func (.func 66) #[] #[.pointer (some ⟨d0, 0, none⟩)]] w (CallPost Q) := by
  have B1 := Aside0.mk (blk_put (cs' := #[.bool true, .int .i64 room, .slice Af fails.length cf, .slice Ap parts.length cp, vm, .int .i64 (c + 1)]) hb 5 (.int .i64 (c + 1)) rfl)
  have F1 := Aside0.mk (Kd.R_set hf hb (by decide) 5 (.int .i64 (c + 1)))
  have P1 := Aside0.mk (Kd.R_set hp hb (by decide) 5 (.int .i64 (c + 1)))
  have b0 := (blk_cell hb 0).trans (show _ = some (.bool true) from rfl)
  have b5 := (blk_cell hb 5).trans (show _ = some (.int .i64 c) from rfl)
  have bf := fun i => blk_frozen hb i
  have N1 : Aside0 (∀ i, i < nm.length → (w.setCell ⟨gd, 5, none⟩ (.int .i64 (c + 1))).cell? (ad.add i) = some (.string (nm.getD i ByteArray.empty))) := ⟨fun i hi => (World.cell?_of_block (Below.heap_setCell w ⟨gd, 5, none⟩ (.int .i64 (c + 1)) (ad.add i).block (by rw [add_block]; exact hna))).trans (hn i hi)⟩
  have HW := Aside0.mk hw
  have H1 := Aside0.mk h1
  have H2 := Aside0.mk h2
  have H3 := Aside0.mk h3
  clear hb hf hp hn hw h1 h2 h3
  go_enter Try.func49, Try.ntmps49
  go_upto_region 4 with (first | (go_at_call 34; refine (is_made gd true _ b0).mono ?_; rintro e w5 ⟨rfl, rfl⟩))
  clear b0 b5 bf
  generalize (w.setCell ⟨gd, 5, none⟩ (.int .i64 (c + 1))) = w1 at B1 F1 P1 N1 HW H1 H2 H3 ⊢
  go_wp2
  go_loopw [24] (fun v24 wr => ∃ i : Nat, i ≤ nm.length ∧ v24 = .int .i64 i ∧ Aside0 ((nm.take i).all valid = true) ∧ wr = w1) (fun v24 _ => nm.length - (intOf v24).toNat)
  case atStart => exact ⟨0, Nat.zero_le _, rfl, ⟨by first | rfl | trivial⟩, by first | rfl | trivial⟩
  case round =>
    obtain ⟨i, hi, rfl, HA, rfl⟩ := hrel
    by_cases hlt : i < nm.length
    · have hx := N1.out i hlt
      obtain ⟨x, hxe⟩ : ∃ x, nm.getD i ByteArray.empty = x := ⟨_, rfl⟩
      rw [hxe] at hx
      have HXE := Aside0.mk hxe
      have TK := Aside0.mk (take_succ_getD ByteArray.empty nm i hlt)
      clear hxe
      cases hv : valid x
      · have HV := Aside0.mk hv
        clear hv
        go_wp2_with (first | (go_at_call 63; refine (named_at x _).mono ?_; rw [HV.out]; rintro e w5 ⟨rfl, rfl⟩))
        go_ret
        exact ⟨2, rfl, H1.out (all_false (List.mem_of_getElem? (getElem_of_getD hlt HXE.out)) HV.out)⟩
      · have HV := Aside0.mk hv
        clear hv
        go_wp2_with (first | (go_at_call 63; refine (named_at x _).mono ?_; rw [HV.out]; rintro e w5 ⟨rfl, rfl⟩))
        go_roundw
        case rel => exact ⟨i + 1, by omega, by go_num, ⟨by rw [TK.out, List.all_append, HA.out, HXE.out]; simp [HV.out]⟩, by first | rfl | trivial⟩
        case measure => simp [intOf]; omega
    · obtain rfl : i = nm.length := by omega
      rw [List.take_length] at HA
      by_cases he : e0 = 0
      · subst he
        have c2 := blk_cell B1.out 2
        have c3 := blk_cell B1.out 3
        have c5 := blk_cell B1.out 5
        clear hlt
        go_wp2_with (first | (go_at_call 54; go_loud (refine HW.out.mono ?_); go_loud (rintro e w5 ⟨rfl, m, rfl⟩)) | (go_at_call 64; go_loud (refine (refused_at gd Af cf Ap cp fails parts (c + 1) _ ((blk_cell (blk_drewN B1.out _) 2).trans rfl) ((blk_cell (blk_drewN B1.out _) 3).trans rfl) ((blk_cell (blk_drewN B1.out _) 5).trans rfl) (Kd.R_reads' (Kd.R_drewN F1.out _)).2.2 (Kd.R_reads' F1.out).2.1 (Kd.R_reads' (Kd.R_drewN P1.out _)).2.2 (Kd.R_reads' P1.out).2.1 hlf hlp).mono ?_); go_loud (rintro e w6 ⟨rfl, m2, rfl⟩)) | (go_at_call 66; go_loud (refine (H3.out HA.out (by first | rfl | trivial) _).mono ?_); rintro e w7 ⟨x, rfl, hq⟩; have HQ := Aside0.mk hq; clear hq))
        go_ret
        exact ⟨x, rfl, HQ.out⟩
      · have t0 : (e0 == 0) = false := beq_false_of_ne he
        have t1 : (e0 != 0) = true := by rw [bne, t0]; rfl
        have HE := Aside0.mk he
        clear he hlt
        go_wp2_with (first | (go_at_call 54; refine HW.out.mono ?_; rintro e w5 ⟨rfl, m, rfl⟩))
        go_ret
        exact ⟨e0, rfl, H2.out HA.out HE.out _⟩
set_option maxHeartbeats 8000000 in
set_option maxRecDepth 100000 in
theorem call_65_66 (gd a0 a1 d0 : Nat) (room c : Int) (fails parts : List Int) (Af : Option Addr) (cf : Nat) (Ap : Option Addr) (cp : Nat) (vm : Value) (ok : Nat → Prop) (ad : Addr) (cn : Nat) (nm : List ByteArray) (e0 : Int) (Q : Int → World → Prop) (w : World)
    (hb : w.heap[gd]? = some (.cells #[.bool true, .int .i64 room, .slice Af fails.length cf, .slice Ap parts.length cp, vm, .int .i64 c] 71 (0, 0)))
    (hf : Kd.R (Kd.int .i64) 3 w 0 ok (.slice Af fails.length cf) fails) (hp : Kd.R (Kd.int .i64) 3 w 0 ok (.slice Ap parts.length cp) parts) (hlf : fails.length ≤ 1000000) (hlp : parts.length ≤ 1000000) (hc0 : 0 ≤ c) (hc1 : c ≤ 1000000)
    (hn : ∀ i, i < nm.length → w.cell? (ad.add i) = some (.string (nm.getD i ByteArray.empty))) (hnl : nm.length ≤ 1000) (hna : ad.block ≠ gd)
    (hw : Calls Try.prog 65 #[.pointer (some ⟨a0, 0, none⟩), .pointer (some ⟨a1, 0, none⟩)] (w.setCell ⟨gd, 5, none⟩ (.int .i64 (c + 1))) fun e w' => e = .returned (.int .i64 e0) ∧ ∃ m, w' = (w.setCell ⟨gd, 5, none⟩ (.int .i64 (c + 1))).drewN m)
    (h1 : nm.all valid = false → Q 2 (w.setCell ⟨gd, 5, none⟩ (.int .i64 (c + 1)))) (h2 : nm.all valid = true → e0 ≠ 0 → ∀ m, Q e0 ((w.setCell ⟨gd, 5, none⟩ (.int .i64 (c + 1))).drewN m))
    (h3 : nm.all valid = true → e0 = 0 → ∀ m, Calls Try.prog 66 #[.int .i64 (partOf (refusedP fails parts (c + 1))), .bool (refusedP fails parts (c + 1)).isSome, .pointer (some ⟨d0, 0, none⟩)] ((w.setCell ⟨gd, 5, none⟩ (.int .i64 (c + 1))).drewN m) (CallPost Q)) :
    Calls Try.prog 49 #[.pointer (some ⟨gd, 0, none⟩), .slice (some ad) nm.length cn, .func (.func 65) #[] #[.pointer (some ⟨a0, 0, none⟩), .pointer (some ⟨a1, 0, none⟩)], .func (.func 66) #[] #[.pointer (some ⟨d0, 0, none⟩)]] w (CallPost Q) := by
  have B1 := Aside0.mk (blk_put (cs' := #[.bool true, .int .i64 room, .slice Af fails.length cf, .slice Ap parts.length cp, vm, .int .i64 (c + 1)]) hb 5 (.int .i64 (c + 1)) rfl)
  have F1 := Aside0.mk (Kd.R_set hf hb (by decide) 5 (.int .i64 (c + 1)))
  have P1 := Aside0.mk (Kd.R_set hp hb (by decide) 5 (.int .i64 (c + 1)))
  have b0 := (blk_cell hb 0).trans (show _ = some (.bool true) from rfl)
  have b5 := (blk_cell hb 5).trans (show _ = some (.int .i64 c) from rfl)
  have bf := fun i => blk_frozen hb i
  have N1 : Aside0 (∀ i, i < nm.length → (w.setCell ⟨gd, 5, none⟩ (.int .i64 (c + 1))).cell? (ad.add i) = some (.string (nm.getD i ByteArray.empty))) := ⟨fun i hi => (World.cell?_of_block (Below.heap_setCell w ⟨gd, 5, none⟩ (.int .i64 (c + 1)) (ad.add i).block (by rw [add_block]; exact hna))).trans (hn i hi)⟩
  have HW := Aside0.mk hw
  have H1 := Aside0.mk h1
  have H2 := Aside0.mk h2
  have H3 := Aside0.mk h3
  clear hb hf hp hn hw h1 h2 h3
  go_enter Try.func49, Try.ntmps49
  go_upto_region 4 with (first | (go_at_call 34; refine (is_made gd true _ b0).mono ?_; rintro e w5 ⟨rfl, rfl⟩))
  clear b0 b5 bf
  generalize (w.setCell ⟨gd, 5, none⟩ (.int .i64 (c + 1))) = w1 at B1 F1 P1 N1 HW H1 H2 H3 ⊢
  go_wp2
  go_loopw [24] (fun v24 wr => ∃ i : Nat, i ≤ nm.length ∧ v24 = .int .i64 i ∧ Aside0 ((nm.take i).all valid = true) ∧ wr = w1) (fun v24 _ => nm.length - (intOf v24).toNat)
  case atStart => exact ⟨0, Nat.zero_le _, rfl, ⟨by first | rfl | trivial⟩, by first | rfl | trivial⟩
  case round =>
    obtain ⟨i, hi, rfl, HA, rfl⟩ := hrel
    by_cases hlt : i < nm.length
    · have hx := N1.out i hlt
      obtain ⟨x, hxe⟩ : ∃ x, nm.getD i ByteArray.empty = x := ⟨_, rfl⟩
      rw [hxe] at hx
      have HXE := Aside0.mk hxe
      have TK := Aside0.mk (take_succ_getD ByteArray.empty nm i hlt)
      clear hxe
      cases hv : valid x
      · have HV := Aside0.mk hv
        clear hv
        go_wp2_with (first | (go_at_call 63; refine (named_at x _).mono ?_; rw [HV.out]; rintro e w5 ⟨rfl, rfl⟩))
        go_ret
        exact ⟨2, rfl, H1.out (all_false (List.mem_of_getElem? (getElem_of_getD hlt HXE.out)) HV.out)⟩
      · have HV := Aside0.mk hv
        clear hv
        go_wp2_with (first | (go_at_call 63; refine (named_at x _).mono ?_; rw [HV.out]; rintro e w5 ⟨rfl, rfl⟩))
        go_roundw
        case rel => exact ⟨i + 1, by omega, by go_num, ⟨by rw [TK.out, List.all_append, HA.out, HXE.out]; simp [HV.out]⟩, by first | rfl | trivial⟩
        case measure => simp [intOf]; omega
    · obtain rfl : i = nm.length := by omega
      rw [List.take_length] at HA
      by_cases he : e0 = 0
      · subst he
        have c2 := blk_cell B1.out 2
        have c3 := blk_cell B1.out 3
        have c5 := blk_cell B1.out 5
        clear hlt
        go_wp2_with (first | (go_at_call 65; go_loud (refine HW.out.mono ?_); go_loud (rintro e w5 ⟨rfl, m, rfl⟩)) | (go_at_call 64; go_loud (refine (refused_at gd Af cf Ap cp fails parts (c + 1) _ ((blk_cell (blk_drewN B1.out _) 2).trans rfl) ((blk_cell (blk_drewN B1.out _) 3).trans rfl) ((blk_cell (blk_drewN B1.out _) 5).trans rfl) (Kd.R_reads' (Kd.R_drewN F1.out _)).2.2 (Kd.R_reads' F1.out).2.1 (Kd.R_reads' (Kd.R_drewN P1.out _)).2.2 (Kd.R_reads' P1.out).2.1 hlf hlp).mono ?_); go_loud (rintro e w6 ⟨rfl, m2, rfl⟩)) | (go_at_call 66; go_loud (refine (H3.out HA.out (by first | rfl | trivial) _).mono ?_); rintro e w7 ⟨x, rfl, hq⟩; have HQ := Aside0.mk hq; clear hq))
        go_ret
        exact ⟨x, rfl, HQ.out⟩
      · have t0 : (e0 == 0) = false := beq_false_of_ne he
        have t1 : (e0 != 0) = true := by rw [bne, t0]; rfl
        have HE := Aside0.mk he
        clear he hlt
        go_wp2_with (first | (go_at_call 65; refine HW.out.mono ?_; rintro e w5 ⟨rfl, m, rfl⟩))
        go_ret
        exact ⟨e0, rfl, H2.out HA.out HE.out _⟩
set_option maxHeartbeats 8000000 in
set_option maxRecDepth 100000 in
theorem call_65_56 (gd a0 a1 d0 d1 d2 : Nat) (room c : Int) (fails parts : List Int) (Af : Option Addr) (cf : Nat) (Ap : Option Addr) (cp : Nat) (vm : Value) (ok : Nat → Prop) (ad : Addr) (cn : Nat) (nm : List ByteArray) (e0 : Int) (Q : Int → World → Prop) (w : World)
    (hb : w.heap[gd]? = some (.cells #[.bool true, .int .i64 room, .slice Af fails.length cf, .slice Ap parts.length cp, vm, .int .i64 c] 71 (0, 0)))
    (hf : Kd.R (Kd.int .i64) 3 w 0 ok (.slice Af fails.length cf) fails) (hp : Kd.R (Kd.int .i64) 3 w 0 ok (.slice Ap parts.length cp) parts) (hlf : fails.length ≤ 1000000) (hlp : parts.length ≤ 1000000) (hc0 : 0 ≤ c) (hc1 : c ≤ 1000000)
    (hn : ∀ i, i < nm.length → w.cell? (ad.add i) = some (.string (nm.getD i ByteArray.empty))) (hnl : nm.length ≤ 1000) (hna : ad.block ≠ gd)
    (hw : Calls Try.prog 65 #[.pointer (some ⟨a0, 0, none⟩), .pointer (some ⟨a1, 0, none⟩)] (w.setCell ⟨gd, 5, none⟩ (.int .i64 (c + 1))) fun e w' => e = .returned (.int .i64 e0) ∧ ∃ m, w' = (w.setCell ⟨gd, 5, none⟩ (.int .i64 (c + 1))).drewN m)
    (h1 : nm.all valid = false → Q 2 (w.setCell ⟨gd, 5, none⟩ (.int .i64 (c + 1)))) (h2 : nm.all valid = true → e0 ≠ 0 → ∀ m, Q e0 ((w.setCell ⟨gd, 5, none⟩ (.int .i64 (c + 1))).drewN m))
    (h3 : nm.all valid = true → e0 = 0 → ∀ m, Calls Try.prog 56 #[.int .i64 (partOf (refusedP fails parts (c + 1))), .bool (refusedP fails parts (c + 1)).isSome, .pointer (some ⟨d0, 0, none⟩), .pointer (some ⟨d1, 0, none⟩), .pointer (some ⟨d2, 0, none⟩)] ((w.setCell ⟨gd, 5, none⟩ (.int .i64 (c + 1))).drewN m) (CallPost Q)) :
    Calls Try.prog 49 #[.pointer (some ⟨gd, 0, none⟩), .slice (some ad) nm.length cn, .func (.func 65) #[] #[.pointer (some ⟨a0, 0, none⟩), .pointer (some ⟨a1, 0, none⟩)], .func (.func 56) #[] #[.pointer (some ⟨d0, 0, none⟩), .pointer (some ⟨d1, 0, none⟩), .pointer (some ⟨d2, 0, none⟩)]] w (CallPost Q) := by
  have B1 := Aside0.mk (blk_put (cs' := #[.bool true, .int .i64 room, .slice Af fails.length cf, .slice Ap parts.length cp, vm, .int .i64 (c + 1)]) hb 5 (.int .i64 (c + 1)) rfl)
  have F1 := Aside0.mk (Kd.R_set hf hb (by decide) 5 (.int .i64 (c + 1)))
  have P1 := Aside0.mk (Kd.R_set hp hb (by decide) 5 (.int .i64 (c + 1)))
  have b0 := (blk_cell hb 0).trans (show _ = some (.bool true) from rfl)
  have b5 := (blk_cell hb 5).trans (show _ = some (.int .i64 c) from rfl)
  have bf := fun i => blk_frozen hb i
  have N1 : Aside0 (∀ i, i < nm.length → (w.setCell ⟨gd, 5, none⟩ (.int .i64 (c + 1))).cell? (ad.add i) = some (.string (nm.getD i ByteArray.empty))) := ⟨fun i hi => (World.cell?_of_block (Below.heap_setCell w ⟨gd, 5, none⟩ (.int .i64 (c + 1)) (ad.add i).block (by rw [add_block]; exact hna))).trans (hn i hi)⟩
  have HW := Aside0.mk hw
  have H1 := Aside0.mk h1
  have H2 := Aside0.mk h2
  have H3 := Aside0.mk h3
  clear hb hf hp hn hw h1 h2 h3
  go_enter Try.func49, Try.ntmps49
  go_upto_region 4 with (first | (go_at_call 34; refine (is_made gd true _ b0).mono ?_; rintro e w5 ⟨rfl, rfl⟩))
  clear b0 b5 bf
  generalize (w.setCell ⟨gd, 5, none⟩ (.int .i64 (c + 1))) = w1 at B1 F1 P1 N1 HW H1 H2 H3 ⊢
  go_wp2
  go_loopw [24] (fun v24 wr => ∃ i : Nat, i ≤ nm.length ∧ v24 = .int .i64 i ∧ Aside0 ((nm.take i).all valid = true) ∧ wr = w1) (fun v24 _ => nm.length - (intOf v24).toNat)
  case atStart => exact ⟨0, Nat.zero_le _, rfl, ⟨by first | rfl | trivial⟩, by first | rfl | trivial⟩
  case round =>
    obtain ⟨i, hi, rfl, HA, rfl⟩ := hrel
    by_cases hlt : i < nm.length
    · have hx := N1.out i hlt
      obtain ⟨x, hxe⟩ : ∃ x, nm.getD i ByteArray.empty = x := ⟨_, rfl⟩
      rw [hxe] at hx
      have HXE := Aside0.mk hxe
      have TK := Aside0.mk (take_succ_getD ByteArray.empty nm i hlt)
      clear hxe
      cases hv : valid x
      · have HV := Aside0.mk hv
        clear hv
        go_wp2_with (first | (go_at_call 63; refine (named_at x _).mono ?_; rw [HV.out]; rintro e w5 ⟨rfl, rfl⟩))
        go_ret
        exact ⟨2, rfl, H1.out (all_false (List.mem_of_getElem? (getElem_of_getD hlt HXE.out)) HV.out)⟩
      · have HV := Aside0.mk hv
        clear hv
        go_wp2_with (first | (go_at_call 63; refine (named_at x _).mono ?_; rw [HV.out]; rintro e w5 ⟨rfl, rfl⟩))
        go_roundw
        case rel => exact ⟨i + 1, by omega, by go_num, ⟨by rw [TK.out, List.all_append, HA.out, HXE.out]; simp [HV.out]⟩, by first | rfl | trivial⟩
        case measure => simp [intOf]; omega
    · obtain rfl : i = nm.length := by omega
      rw [List.take_length] at HA
      by_cases he : e0 = 0
      · subst he
        have c2 := blk_cell B1.out 2
        have c3 := blk_cell B1.out 3
        have c5 := blk_cell B1.out 5
        clear hlt
        go_wp2_with (first | (go_at_call 65; go_loud (refine HW.out.mono ?_); go_loud (rintro e w5 ⟨rfl, m, rfl⟩)) | (go_at_call 64; go_loud (refine (refused_at gd Af cf Ap cp fails parts (c + 1) _ ((blk_cell (blk_drewN B1.out _) 2).trans rfl) ((blk_cell (blk_drewN B1.out _) 3).trans rfl) ((blk_cell (blk_drewN B1.out _) 5).trans rfl) (Kd.R_reads' (Kd.R_drewN F1.out _)).2.2 (Kd.R_reads' F1.out).2.1 (Kd.R_reads' (Kd.R_drewN P1.out _)).2.2 (Kd.R_reads' P1.out).2.1 hlf hlp).mono ?_); go_loud (rintro e w6 ⟨rfl, m2, rfl⟩)) | (go_at_call 56; go_loud (refine (H3.out HA.out (by first | rfl | trivial) _).mono ?_); rintro e w7 ⟨x, rfl, hq⟩; have HQ := Aside0.mk hq; clear hq))
        go_ret
        exact ⟨x, rfl, HQ.out⟩
      · have t0 : (e0 == 0) = false := beq_false_of_ne he
        have t1 : (e0 != 0) = true := by rw [bne, t0]; rfl
        have HE := Aside0.mk he
        clear he hlt
        go_wp2_with (first | (go_at_call 65; refine HW.out.mono ?_; rintro e w5 ⟨rfl, m, rfl⟩))
        go_ret
        exact ⟨e0, rfl, H2.out HA.out HE.out _⟩
end Go.Proofs.Yteibdmpjlpcgbaa.XDisk
