/- The disk's closures that do something, walked: Remove's, Create's, Sync's, Rename's. -/
import Derived.Test.YteibdmpjlpcgbaaTHSmall
import Derived.StillTailTactics
namespace Go.Proofs.Yteibdmpjlpcgbaa.XDisk
open Go Go.RowKit Go.Proofs.YteibdmpjlpcgbaaW.PrintWords Go.Proofs.YteibdmpjlpcgbaaW.PrintLast Go.Proofs.YteibdmpjlpcgbaaW.PrintMore
open Go.Proofs.Yteibdmpjlpcgbaa
attribute [local go_sem] max2_int min2_int max_two min_two max_three min_three max_four min_four
set_option linter.unusedVariables false
set_option linter.unusedSimpArgs false
set_option maxHeartbeats 8000000 in
set_option maxRecDepth 100000 in
theorem drop1_at (bd bn gd gm n : Nat) (l : List (ByteArray × Value)) (s : ByteArray) (w : World) (h0 : w.cell? ⟨bd, 0, none⟩ = some (.pointer (some ⟨gd, 0, none⟩))) (h1 : w.cell? ⟨bn, 0, none⟩ = some (.string s)) (h4 : w.cell? ⟨gd, 4, none⟩ = some (.map (some gm))) (ho : HStrMap.Owns m69 w gm n l) (hs : s.size ≤ maxLen) :
    Calls Try.prog 53 #[.pointer (some ⟨bd, 0, none⟩), .pointer (some ⟨bn, 0, none⟩)] w fun e w' => e = .returned (.tuple #[]) ∧ HStrMap.Owns m69 w' gm n (HStrMap.without l s) ∧ Chg w w' (fun k => k = gm) ∧ w'.heap.size = w.heap.size := by
  have HO : Aside0 (HStrMap.Owns m69 w.drew gm n l) := ⟨ho⟩
  have HS := Aside0.mk hs
  clear ho hs
  go_enter Try.func53, Try.ntmps53
  go_upto_region 0 with (fail)
  go_still_tail 5, (by kernel_rfl)
  change wpList _ _ _ _ _ w.drew
  go_wp2_with (first | (at_delete; (refine HStrMap.wp_drop m69 _ rfl (.tmp 5) (.tmp 6) rfl gm n l rfl HO.out s rfl HS.out ?_); intro w5 ho5 hg5 hs5; have OW := Aside0.mk ho5; have HG := Aside0.mk hg5; have HZ := Aside0.mk hs5; clear ho5 hg5 hs5))
  (first | go_end0 | ((try simp only [Exit.inBlock, Exit.then]); refine bodyPost_ret (results_none rfl _ _ _) rfl ?_))
  exact ⟨rfl, OW.out, (Chg.of_grown HG.out).of_drewN (n := 1), HZ.out⟩
-- make2 (mkeff.py)
def r55_0.T : Bool × List (List Nat × List Nat) := (true, [([], []), ([0], [0]), ([1], [1]), ([2], [2]), ([], []), ([], []), ([5], [5]), ([3, 4, 6, 0, 1, 2, 3, 4, 5, 6], [3, 4, 6])])
def r55_0.B : List Nat := [0, 1, 3, 7, 0, 0, 32, 127]
theorem r55_0.tab : rtab .any (opsOf Try.f55 0) = r55_0.T := by kernel_rfl
theorem r55_0.bits : waitsOk r55_0.T.2 r55_0.B = true := by kernel_rfl
set_option maxHeartbeats 8000000 in
set_option maxRecDepth 100000 in
theorem make2_at (bd bn gd gm n : Nat) (l : List (ByteArray × Value)) (s : ByteArray) (w : World) (h0 : w.cell? ⟨bd, 0, none⟩ = some (.pointer (some ⟨gd, 0, none⟩))) (h1 : w.cell? ⟨bn, 0, none⟩ = some (.string s)) (h4 : w.cell? ⟨gd, 4, none⟩ = some (.map (some gm))) (ho : HStrMap.Owns m69 w gm n l) (hs : s.size ≤ maxLen) (hn : n < maxLen) :
    Calls Try.prog 55 #[.pointer (some ⟨bd, 0, none⟩), .pointer (some ⟨bn, 0, none⟩)] w fun e w' => e = .returned (.tuple #[]) ∧ ∃ g, w.heap.size ≤ g ∧ HStrMap.Owns m69 w' gm (n + 1) ((s, .pointer (some ⟨g, 0, none⟩)) :: HStrMap.without l s) ∧ w'.heap[g]? = some (.cells #[.slice none 0 0, .int .i64 0] 82 (0, 0)) ∧ Chg w w' (fun k => k = gm) := by
  have HO := Aside0.mk ho
  have HS := Aside0.mk hs
  have HN := Aside0.mk hn
  have HLT := Aside0.mk ho.lt
  clear ho hs hn
  go_enter Try.func55, Try.ntmps55
  go_upto_region 0 with (fail)
  refine start_ (n := 8) (S := fun w' => Below w.heap.size w w') (ds := [7]) #[false, false, false, false, false, false, false, false] (by kernel_rfl) rfl rfl (below_drew (Below.refl _ _)) (fun hHeld => ?_)
  refine with_tabW r55_0.tab r55_0.bits (fun HT_ HW_ => ?_)
  generalize w.drew = wd at hHeld ⊢
  refine take_ (i := 0) (N := some 2) (v := ?_) (a' := ?_) #[true, false, false, false, false, false, false, false] rfl rfl (take_ofW HT_.out HW_.out (by kernel_rfl)) (fun _ _ _ h => h) (Or.inl ⟨by rfl, ?_⟩) hHeld ?_ ?_
  rotate_left
  · rintro w' hbq
    have c_h0 := (hbq.cell (World.block_lt_of_cell? w _ h0)).trans h0
    go_simp
    with_reducible rfl
  rotate_left
  · simp only [Act.put, List.setIfInBounds_toArray, List.set_cons_zero, List.set_cons_succ, i64_w, i32_w]
    rfl
  refine pure_ (i := 1) (N := some 3) (v := ?_) (a' := ?_) #[true, true, false, false, false, false, false, false] rfl rfl (any_of HT_.out (by kernel_rfl)) (fun _ _ _ h => h) (Or.inl ⟨by rfl, ?_⟩) ?_ ?_
  rotate_left
  · intro w'
    go_simp
    with_reducible rfl
  rotate_left
  · simp only [Act.put, List.setIfInBounds_toArray, List.set_cons_zero, List.set_cons_succ, i64_w, i32_w]
    rfl
  refine pure_ (i := 2) (N := some 4) (v := ?_) (a' := ?_) #[true, true, true, false, false, false, false, false] rfl rfl (any_of HT_.out (by kernel_rfl)) (fun _ _ _ h => h) (Or.inl ⟨by rfl, ?_⟩) ?_ ?_
  rotate_left
  · intro w'
    go_simp
    with_reducible rfl
  rotate_left
  · simp only [Act.put, List.setIfInBounds_toArray, List.set_cons_zero, List.set_cons_succ, i64_w, i32_w]
    rfl
  refine take_ (i := 3) (N := some 5) (v := ?_) (a' := ?_) #[true, true, true, true, false, false, false, false] rfl rfl (take_ofW HT_.out HW_.out (by kernel_rfl)) (fun _ _ _ h => h) (Or.inl ⟨by rfl, ?_⟩) hHeld ?_ ?_
  rotate_left
  · rintro w' hbq
    have c_h4 := (hbq.cell (World.block_lt_of_cell? w _ h4)).trans h4
    go_simp
    with_reducible rfl
  rotate_left
  · simp only [Act.put, List.setIfInBounds_toArray, List.set_cons_zero, List.set_cons_succ, i64_w, i32_w]
    rfl
  refine take_ (i := 4) (N := some 6) (v := ?_) (a' := ?_) #[true, true, true, true, true, false, false, false] rfl rfl (take_ofW HT_.out HW_.out (by kernel_rfl)) (fun _ _ _ h => h) (Or.inl ⟨by rfl, ?_⟩) hHeld ?_ ?_
  rotate_left
  · rintro w' hbq
    have c_h1 := (hbq.cell (World.block_lt_of_cell? w _ h1)).trans h1
    go_simp
    with_reducible rfl
  rotate_left
  · simp only [Act.put, List.setIfInBounds_toArray, List.set_cons_zero, List.set_cons_succ, i64_w, i32_w]
    rfl
  refine pure_ (i := 5) (N := some 7) (v := ?_) (a' := ?_) #[true, true, true, true, true, true, false, false] rfl rfl (any_of HT_.out (by kernel_rfl)) (fun _ _ _ h => h) (Or.inl ⟨by rfl, ?_⟩) ?_ ?_
  rotate_left
  · intro w'
    go_simp
    with_reducible rfl
  rotate_left
  · simp only [Act.put, List.setIfInBounds_toArray, List.set_cons_zero, List.set_cons_succ, i64_w, i32_w]
    rfl
  refine one_ (i := 6) (N := some 8) #[true, true, true, true, true, true, true, false] rfl rfl (one_of HT_.out (by kernel_rfl)) (by decide) (fun K hK => ?_)
  refine box_step (N := 8) (cs := #[.slice none 0 0, .int .i64 0]) (t := 82) (by rfl) rfl (by first | (go_simp; done) | (go_simp; rfl)) ?_
  intro g hg w5 hbox hb
  have HH := Aside0.mk (below_step hHeld hb)
  have HBX := Aside0.mk hbox
  have HG := Aside0.mk hg
  have HGE : Aside0 (w.heap.size ≤ g) := ⟨by rw [hg]; exact below_size hHeld⟩
  refine hK.out _ _ HH.out (fun hHeld => ?_)
  clear hK K hbox hb hg
  refine norm_ (a' := ?_) ?_ ?_
  rotate_left
  · show Act.put _ (some 8) _ = _
    simp only [Act.put, List.setIfInBounds_toArray, List.set_cons_zero, List.set_cons_succ, i64_w, i32_w]
    rfl
  refine last_ (i := 7) (N := none) #[true, true, true, true, true, true, true, true] rfl rfl (one_of HT_.out (by kernel_rfl)) (by decide) (fun K hK => ?_)
  refine HStrMap.step_store m69 _ (by rfl) (.tmp 5) (.tmp 6) (.tmp 8) rfl gm n l rfl (HO.out.move (HH.out.block gm HLT.out)) HN.out s rfl HS.out _ rfl ?_
  intro w6 ho6 hg6 hs6
  refine hK.out _ _ ?_
  refine done_ (done_of HT_.out (by kernel_rfl)) ?_
  go_wp2
  (first | go_end0 | ((try simp only [Exit.inBlock, Exit.then]); refine bodyPost_ret (results_none rfl _ _ _) rfl ?_))
  refine ⟨rfl, g, HGE.out, ho6, (hg6.block g (blk_lt HBX.out) (fun e => by have := Option.some.inj e; have := HLT.out; have := HGE.out; omega)).trans HBX.out, ?_⟩
  exact (Chg.of_below _ HH.out).trans (Chg.of_grown hg6) (fun k hk => .inl hk)
-- make2 end
set_option maxHeartbeats 8000000 in
set_option maxRecDepth 100000 in
theorem sync1_at (bd bn gd gm g : Nat) (s : ByteArray) (A : Option Addr) (L c : Nat) (sf : Int) (w : World) (h0 : w.cell? ⟨bd, 0, none⟩ = some (.pointer (some ⟨gd, 0, none⟩))) (h1 : w.cell? ⟨bn, 0, none⟩ = some (.string s)) (h4 : w.cell? ⟨gd, 4, none⟩ = some (.map (some gm)))
    (hf : Finds w gm s (.pointer (some ⟨g, 0, none⟩))) (hb : w.heap[g]? = some (.cells #[.slice A L c, .int .i64 sf] 82 (0, 0))) (hl : L ≤ 1000000) :
    Calls Try.prog 57 #[.pointer (some ⟨bd, 0, none⟩), .pointer (some ⟨bn, 0, none⟩)] w fun e w' => e = .returned (.tuple #[]) ∧ w'.heap[g]? = some (.cells #[.slice A L c, .int .i64 L] 82 (0, 0)) ∧ Chg w w' (fun k => k = g) ∧ w'.heap.size = w.heap.size := by
  have HF : ∀ n, (Instr.lookup 69 (.map (some gm)) (.string s) false).run Try.prog (w.drewN n) = .ok (.pointer (some ⟨g, 0, none⟩)) (w.drewN n) := hf
  have HF1 : (Instr.lookup 69 (.map (some gm)) (.string s) false).run Try.prog w.drew = .ok (.pointer (some ⟨g, 0, none⟩)) w.drew := hf 1
  have c0 := (blk_cell hb 0).trans (show _ = some (.slice A L c) from rfl)
  have c1 := (blk_cell hb 1).trans (show _ = some (.int .i64 sf) from rfl)
  have fz := fun i => blk_frozen hb i
  have HB := Aside0.mk hb
  clear hf hb
  go_enter Try.func57, Try.ntmps57
  go_upto_region 0 with (fail)
  go_still_tail 18, (by kernel_rfl)
  change wpList _ _ _ _ _ w.drew
  go_wp2
  (first | go_end0 | ((try simp only [Exit.inBlock, Exit.then]); refine bodyPost_ret (results_none rfl _ _ _) rfl ?_))
  refine ⟨rfl, blk_put (cs' := #[.slice A L c, .int .i64 L]) (blk_drew HB.out) 1 (.int .i64 L) rfl, ?_, by simp⟩
  exact (Chg.set _ _ _).of_drewN (n := 1)
theorem cell_ne_map {W : World} {b : Nat} {o : Nat} {es : Array MapEntry} {c : Nat} {a : Nat} {v : Value} (h : W.cell? ⟨a, o, none⟩ = some v) (hb : W.heap[b]? = some (.map es c)) : a ≠ b := by
  rintro rfl
  simp [World.cell?, hb] at h
theorem cell_grown {W W' : World} {b a o : Nat} {v : Value} (h : W.cell? ⟨a, o, none⟩ = some v) (hg : W.grownBy W' (some b)) (hne : a ≠ b) : W'.cell? ⟨a, o, none⟩ = some v :=
  (World.cell?_of_block (hg.block a (World.block_lt_of_cell? W ⟨a, o, none⟩ h) (fun e => hne (Option.some.inj e)))).trans h
set_option maxHeartbeats 8000000 in
set_option maxRecDepth 100000 in
theorem move1_at (bd bo bn gd gm n : Nat) (l : List (ByteArray × Value)) (so sn : ByteArray) (p : Option Addr) (w : World) (h0 : w.cell? ⟨bd, 0, none⟩ = some (.pointer (some ⟨gd, 0, none⟩))) (h1 : w.cell? ⟨bo, 0, none⟩ = some (.string so)) (h2 : w.cell? ⟨bn, 0, none⟩ = some (.string sn)) (h4 : w.cell? ⟨gd, 4, none⟩ = some (.map (some gm))) (hf : Finds w gm so (.pointer p)) (ho : HStrMap.Owns m69 w gm n l) (hso : so.size ≤ maxLen) (hs : sn.size ≤ maxLen) (hn : n < maxLen) :
    Calls Try.prog 52 #[.pointer (some ⟨bd, 0, none⟩), .pointer (some ⟨bo, 0, none⟩), .pointer (some ⟨bn, 0, none⟩)] w fun e w' => e = .returned (.tuple #[]) ∧ HStrMap.Owns m69 w' gm (n + 1) ((sn, .pointer p) :: HStrMap.without (HStrMap.without l so) sn) ∧ Chg w w' (fun k => k = gm) := by
  have HF : ∀ n, (Instr.lookup 69 (.map (some gm)) (.string so) false).run Try.prog (w.drewN n) = .ok (.pointer p) (w.drewN n) := hf
  obtain ⟨es, c, hobj⟩ := ho.obj
  have N0 := Aside0.mk (cell_ne_map h0 hobj)
  have N2 := Aside0.mk (cell_ne_map h2 hobj)
  have N4 := Aside0.mk (cell_ne_map h4 hobj)
  have HO := Aside0.mk ho
  have HSO := Aside0.mk hso
  have HS := Aside0.mk hs
  have HN := Aside0.mk hn
  have K0 := Aside0.mk h0
  have K2 := Aside0.mk h2
  have K4 := Aside0.mk h4
  clear ho hs hn hso hobj hf es c
  go_enter Try.func52, Try.ntmps52
  go_wp2
  go_quiet (fail)
  clear HF
  have C1 : Aside0 (Chg w (w.drewN nq) (fun k => k = gm)) := ⟨(Chg.refl _ _).drewN _⟩
  have O1 : Aside0 (HStrMap.Owns m69 (w.drewN nq) gm n l) := ⟨HO.out.move rfl⟩
  have k0 : (w.drewN nq).cell? ⟨bd, 0, none⟩ = some (.pointer (some ⟨gd, 0, none⟩)) := h0
  have k1 : (w.drewN nq).cell? ⟨bo, 0, none⟩ = some (.string so) := h1
  have k2 : (w.drewN nq).cell? ⟨bn, 0, none⟩ = some (.string sn) := h2
  have k4 : (w.drewN nq).cell? ⟨gd, 4, none⟩ = some (.map (some gm)) := h4
  clear h0 h1 h2 h4 HO K0 K2 K4
  generalize w.drewN nq = w1 at C1 O1 k0 k1 k2 k4 ⊢
  have K0 := Aside0.mk k0
  have K2 := Aside0.mk k2
  have K4 := Aside0.mk k4
  go_upto_region 1 with (fail)
  go_still_tail 5, (by kernel_rfl)
  change wpList _ _ _ _ _ w1.drew
  go_upto_region 2 with (first | (at_delete; (refine HStrMap.wp_drop m69 _ rfl (.tmp 13) (.tmp 14) rfl gm n l rfl (O1.out.move rfl) so rfl HSO.out ?_); intro w5 ho5 hg5 hs5; have OW := Aside0.mk ho5; have HG := Aside0.mk (show w1.grownBy w5 (some gm) from ⟨hg5.os, hg5.tape, hg5.output, hg5.size, hg5.block⟩); clear ho5 hg5 hs5 k0 k1 k2 k4; have h0 := cell_grown K0.out HG.out N0.out; have h2 := cell_grown K2.out HG.out N2.out; have h4 := cell_grown K4.out HG.out N4.out))
  go_still_tail 6, (by kernel_rfl)
  change wpList _ _ _ _ _ w5.drew
  go_wp2_with (first | (at_mapUpdate; (refine HStrMap.wp_store m69 _ rfl (.tmp 18) (.tmp 19) (.tmp 20) rfl gm n _ rfl (OW.out.move rfl) HN.out sn rfl HS.out _ rfl ?_); intro w6 ho6 hg6 hs6; have O6 := Aside0.mk ho6; have G6 := Aside0.mk hg6; clear ho6 hg6 hs6))
  (first | go_end0 | ((try simp only [Exit.inBlock, Exit.then]); refine bodyPost_ret (results_none rfl _ _ _) rfl ?_))
  exact ⟨rfl, O6.out, (C1.out.trans (Chg.of_grown HG.out) (fun k hk => .inl hk)).trans (Chg.of_drewN (n := 1) (Chg.of_grown G6.out)) (fun k hk => .inl hk)⟩
end Go.Proofs.Yteibdmpjlpcgbaa.XDisk
