/- Create, Remove, Rename and Sync of the given program's disk: what each does to what the disk stands for. -/
import Derived.Test.YteibdmpjlpcgbaaTHRep
namespace Go.Proofs.Yteibdmpjlpcgbaa.XDisk
open Go Go.RowKit Go.Proofs.YteibdmpjlpcgbaaW.PrintWords Go.Proofs.YteibdmpjlpcgbaaW.PrintLast Go.Proofs.YteibdmpjlpcgbaaW.PrintMore
open Go.Proofs.Yteibdmpjlpcgbaa
attribute [local go_sem] max2_int min2_int max_two min_two max_three min_three max_four min_four
set_option linter.unusedVariables false
set_option linter.unusedSimpArgs false
/-- May a name be? -/
def vN (n : Nm) : Bool := decide (0 < n.length) && decide (n.length ≤ 40)
theorem valid_str (n : Nm) : valid (str n) = vN n := by unfold valid vN; rw [str_size]
/-- The disk behind a call that counts. -/
def cnt (S : DA) : DA := { S with calls := S.calls + 1 }
def isRef (S : DA) : Bool := (refusedP S.fails S.parts (S.calls + 1)).isSome
def createP (S : DA) (n : Nm) : DA × Int := if vN n = false then (cnt S, 2) else if (get S.files n).isSome then (cnt S, 11) else if isRef S then (cnt S, 12) else ({ cnt S with files := put n ⟨[], 0⟩ S.files }, 0)
def removeP (S : DA) (n : Nm) : DA × Int := if vN n = false then (cnt S, 2) else if (get S.files n).isNone then (cnt S, 10) else if isRef S then (cnt S, 12) else ({ cnt S with files := del n S.files }, 0)
def syncP (S : DA) (n : Nm) : DA × Int := if vN n = false then (cnt S, 2) else match get S.files n with
  | none => (cnt S, 10)
  | some f => if isRef S then (cnt S, 12) else ({ cnt S with files := put n ⟨f.b, f.b.length⟩ S.files }, 0)
def renameP (S : DA) (old n : Nm) : DA × Int := if vN old = false ∨ vN n = false then (cnt S, 2) else match get S.files old with
  | none => (cnt S, 10)
  | some f => if isRef S then (cnt S, 12) else ({ cnt S with files := put n f (del old S.files) }, 0)
/-- A disk within the bounds of the statements. -/
structure Small (S : DA) : Prop where
  c0 : 0 ≤ S.calls
  c1 : S.calls < 1000000
  fl : S.fails.length ≤ 1000000
  pl : S.parts.length ≤ 1000000
  len : ∀ p ∈ S.files, p.2.b.length ≤ 1000000
/-- What a step of a disk comes to. -/
def Comes (w : World) (φ : Nat → Tg) (B gd : Nat) (r : DA × Int) (x : Int) (w' : World) : Prop := x = r.2 ∧ ∃ φ', DAt w' φ' B gd r.1 ∧ Step w w' φ φ'
theorem DIn.finds {W : World} {φ : Nat → Tg} {B gd : Nat} {S : DA} {gm n : Nat} {V : Nm → Nat} {Af : Option Addr} {cf : Nat} {Ap : Option Addr} {cp : Nat} (h : DIn W φ B gd S gm n V Af cf Ap cp) (nm : Nm) (hs : (str nm).size ≤ maxLen) :
    Finds W gm (str nm) (.pointer ((get S.files nm).map (fun _ => ⟨V nm, 0, none⟩))) := fun m => by
  have h1 := HStrMap.run_look m69 (w := W.drewN m) (h.own.move rfl) hs
  rw [look_mapL] at h1
  cases hg : get S.files nm with
  | none => rw [hg] at h1; exact h1
  | some f => rw [hg] at h1; exact h1
theorem lit_step {P : Program} {ops : Array Oper} {o : Oper} {a : Act} {Q : Exit → Act → World → Prop} {Kc : Act → World → Prop} {W : World} (hw : Region.wanted o (yielded ops a.tmps) = true) {cs : Array Value} {t : TypeId} {k : Nat}
    (hrun : (execOp a.eval o).run P W = .ok (.value (.slice (some ⟨W.heap.size, 0, none⟩) k k)) (W.alloc (.cells cs t (0, 0))))
    (h : ∀ g, g = W.heap.size → ∀ w1, w1.heap[g]? = some (.cells cs t (0, 0)) → Below W.heap.size W w1 → Kc (a.put o.dst (.slice (some ⟨g, 0, none⟩) k k)) w1) : if Region.wanted o (yielded ops a.tmps) = true then Oper.wp P o a W Kc Q else Kc (a.put o.dst undef) W :=
  event_step hw hrun (h _ rfl _ (blk_new W _) (below_alloc (Below.refl _ _) _))
theorem join2 {P : Program} {ops : Array Oper} {Q : Exit → Act → World → Prop} {md : Region.Mode} {S : World → Prop} {ds : List Nat} {fuel : Nat} {l : Array Bool} {a : Act} {w : World} (fuel' : Nat) (l' : Array Bool) (ns : Nat → Nat → Nat → Nat → List (Tmp × Value)) (F : Nat → Nat → Nat → Nat → World → Prop)
    (hcont : ∀ g c d e w', F g c d e w' → wpAnyLast P md ops Q S ds fuel' l' (putAll a (ns g c d e)) w')
    (h : Aside0 (∀ g c d e w', F g c d e w' → wpAnyLast P md ops Q S ds fuel' l' (putAll a (ns g c d e)) w') → wpAnyLast P md ops Q S ds fuel l a w) : wpAnyLast P md ops Q S ds fuel l a w := h ⟨hcont⟩
theorem cell_ne {W : World} {a b o : Nat} {v : Value} {cs : Array Value} {t : TypeId} (h : W.cell? ⟨a, o, none⟩ = some v) (hb : W.heap[b]? = some (.cells cs t (0, 0))) (hne : cs[o]? ≠ some v) : a ≠ b := by
  rintro rfl
  rw [blk_cell hb o] at h
  exact hne h
theorem blk_c' {W : World} {g ty : Nat} {cs : Array Value} {v : Value} (h : W.heap[g]? = some (.cells cs ty (0, 0))) (i : Nat) (e : cs[i]? = some v) : W.cell? ⟨g, i, none⟩ = some v := (blk_cell h i).trans e
theorem cell_set {W : World} {a b o i : Nat} {u v : Value} (h : W.cell? ⟨a, o, none⟩ = some v) (hne : a ≠ b) : (W.setCell ⟨b, i, none⟩ u).cell? ⟨a, o, none⟩ = some v :=
  (World.cell?_of_block (Below.heap_setCell W ⟨b, i, none⟩ u a hne)).trans h
theorem create_core (gd B gm n : Nat) (φ : Nat → Tg) (S : DA) (V : Nm → Nat) (Af : Option Addr) (cf : Nat) (Ap : Option Addr) (cp : Nat) (nm : Nm) (bd bn g c : Nat) (w : World) (h : DIn w φ B gd S gm n V Af cf Ap cp) (hn : (n : Int) ≤ S.calls) (hS : Small S) (hl : nm.length ≤ 1000)
    (k0 : w.cell? ⟨bd, 0, none⟩ = some (.pointer (some ⟨gd, 0, none⟩))) (k1 : w.cell? ⟨bn, 0, none⟩ = some (.string (str nm))) (kg : w.heap[g]? = some (.cells #[.string (str nm)] 9 (0, 0))) (kc : w.cell? ⟨c, 0, none⟩ = some (.func (.func 55) #[] #[.pointer (some ⟨bd, 0, none⟩), .pointer (some ⟨bn, 0, none⟩)])) :
    Calls Try.prog 49 #[.pointer (some ⟨gd, 0, none⟩), .slice (some ⟨g, 0, none⟩) 1 1, .func (.func 54) #[] #[.pointer (some ⟨bd, 0, none⟩), .pointer (some ⟨bn, 0, none⟩)], .func (.func 66) #[] #[.pointer (some ⟨c, 0, none⟩)]] w (CallPost (Comes w φ B gd (createP S nm))) := by
  have hsz : (str nm).size ≤ maxLen := by rw [str_size]; unfold maxLen; omega
  have h1 := h.count (S.calls + 1)
  have st1 := h.count_step (S.calls + 1)
  have n0 : bd ≠ gd := cell_ne k0 h.blk (by intro e; cases e)
  have n1 : bn ≠ gd := cell_ne k1 h.blk (by intro e; cases e)
  have nc : c ≠ gd := cell_ne kc h.blk (by intro e; cases e)
  have q0 : (w.setCell ⟨gd, 5, none⟩ (.int .i64 (S.calls + 1))).cell? ⟨bd, 0, none⟩ = some (.pointer (some ⟨gd, 0, none⟩)) := cell_set k0 n0
  have q1 : (w.setCell ⟨gd, 5, none⟩ (.int .i64 (S.calls + 1))).cell? ⟨bn, 0, none⟩ = some (.string (str nm)) := cell_set k1 n1
  have qc : (w.setCell ⟨gd, 5, none⟩ (.int .i64 (S.calls + 1))).cell? ⟨c, 0, none⟩ = _ := cell_set kc nc
  have q4 : (w.setCell ⟨gd, 5, none⟩ (.int .i64 (S.calls + 1))).cell? ⟨gd, 4, none⟩ = some (.map (some gm)) := (blk_cell h1.blk 4).trans rfl
  have hall : [str nm].all valid = vN nm := by simp [valid_str]
  have hrow : ∀ i, i < [str nm].length → w.cell? ((⟨g, 0, none⟩ : Addr).add i) = some (.string ([str nm].getD i ByteArray.empty)) := by
    intro i hi
    obtain rfl : i = 0 := by simpa using hi
    exact (blk_cell kg 0).trans rfl
  have hng : (⟨g, 0, none⟩ : Addr).block ≠ gd := fun e => blk_ne kg h.blk (by decide) e
  have hfin : Finds (w.setCell ⟨gd, 5, none⟩ (.int .i64 (S.calls + 1))) gm (str nm) (.pointer ((get S.files nm).map (fun _ => ⟨V nm, 0, none⟩))) := h1.finds nm hsz
  have hbad : [str nm].all valid = false → Comes w φ B gd (createP S nm) 2 (w.setCell ⟨gd, 5, none⟩ (.int .i64 (S.calls + 1))) := by
    intro hv
    rw [hall] at hv
    unfold createP; rw [if_pos hv]
    exact ⟨rfl, φ, ⟨gm, n, V, Af, cf, Ap, cp, h1, by show (n : Int) ≤ S.calls + 1; omega⟩, st1⟩
  cases hg : get S.files nm with
  | some f =>
    rw [hg] at hfin
    refine call_54_66 gd bd bn c S.room S.calls S.fails S.parts Af cf Ap cp (.map (some gm)) _ ⟨g, 0, none⟩ 1 [str nm] 11 _ w h.blk h.fls h.pts hS.fl hS.pl hS.c0 (Int.le_of_lt hS.c1) hrow (by simp) hng (free1_at bd bn gd gm (str nm) _ _ q0 q1 q4 hfin) hbad ?_ (fun _ he => absurd he (by decide))
    intro hv he m
    rw [hall] at hv
    unfold createP; rw [if_neg (by rw [hv]; decide), hg, if_pos (show (some f).isSome = true from rfl)]
    exact ⟨rfl, φ, ⟨gm, n, V, Af, cf, Ap, cp, h1.drewN m, by show (n : Int) ≤ S.calls + 1; omega⟩, st1.drewN m⟩
  | none =>
    rw [hg] at hfin
    refine call_54_66 gd bd bn c S.room S.calls S.fails S.parts Af cf Ap cp (.map (some gm)) _ ⟨g, 0, none⟩ 1 [str nm] 0 _ w h.blk h.fls h.pts hS.fl hS.pl hS.c0 (Int.le_of_lt hS.c1) hrow (by simp) hng (free1_at bd bn gd gm (str nm) _ _ q0 q1 q4 hfin) hbad (fun _ he => absurd rfl he) ?_
    intro hv _ m
    rw [hall] at hv
    have hC : createP S nm = if isRef S then (cnt S, 12) else ({ cnt S with files := put nm ⟨[], 0⟩ S.files }, 0) := by unfold createP; rw [if_neg (by rw [hv]; decide), hg, if_neg (by decide)]
    rw [hC]
    have h2 := h1.drewN m
    refine (unless_55 bd bn c _ _ ((w.setCell ⟨gd, 5, none⟩ (.int .i64 (S.calls + 1))).drewN m) (fun w' => ∃ φ', DAt w' φ' B gd { cnt S with files := put nm ⟨[], 0⟩ S.files } ∧ Step w w' φ φ') qc (fun hno => ?_)).mono ?_
    · refine (make2_at bd bn gd gm n _ (str nm) ((w.setCell ⟨gd, 5, none⟩ (.int .i64 (S.calls + 1))).drewN m) q0 q1 q4 h2.own hsz (by have := hS.c1; unfold maxLen; omega)).mono ?_
      rintro e w' ⟨rfl, g', hg', ho, hb, hc⟩
      obtain ⟨φ', d1, d2⟩ := h2.make hg' hg ho hb hc
      exact ⟨rfl, φ', ⟨gm, n + 1, _, Af, cf, Ap, cp, d1, by show ((n + 1 : Nat) : Int) ≤ S.calls + 1; omega⟩, (st1.drewN m).trans d2⟩
    · rintro e w' (⟨hno, rfl, rfl⟩ | ⟨hno, rfl, φ', d1, d2⟩)
      · refine ⟨12, rfl, ?_⟩
        rw [show isRef S = true from hno]
        exact ⟨rfl, φ, ⟨gm, n, V, Af, cf, Ap, cp, h2, by show (n : Int) ≤ S.calls + 1; omega⟩, st1.drewN m⟩
      · refine ⟨0, rfl, ?_⟩
        rw [show isRef S = false from hno]
        exact ⟨rfl, φ', d1, d2⟩
def r28_1.T : Bool × List (List Nat × List Nat) := (true, [([], []), ([], []), ([1], [1]), ([], []), ([], []), ([4], [4]), ([0, 2, 3, 5, 5], [0, 2, 3, 5]), ([6, 6, 0, 1, 2, 3, 4, 5, 6], [6])])
def r28_1.B : List Nat := [0, 0, 2, 0, 0, 16, 63, 127]
theorem r28_1.tab : rtab .any (opsOf Try.f28 1) = r28_1.T := by kernel_rfl
theorem r28_1.bits : waitsOk r28_1.T.2 r28_1.B = true := by kernel_rfl
set_option maxHeartbeats 8000000 in
set_option maxRecDepth 100000 in
theorem create_at (gd B : Nat) (φ : Nat → Tg) (S : DA) (nm : Nm) (w : World) (h : DAt w φ B gd S) (hS : Small S) (hl : nm.length ≤ 1000) :
    Calls Try.prog 28 #[.pointer (some ⟨gd, 0, none⟩), .string (str nm)] w (CallPost (Comes w φ B gd (createP S nm))) := by
  obtain ⟨gm, n, V, Af, cf, Ap, cp, hd, hn⟩ := h
  have HD := Aside0.mk hd
  have HN := Aside0.mk hn
  have HS := Aside0.mk hS
  have HL := Aside0.mk hl
  have HB := Aside0.mk (Below.refl w.heap.size w)
  clear hd hn hS hl
  go_enter Try.func28, Try.ntmps28
  go_upto_region 1 with (first | ((with_reducible refine gate_dst (N := 2) rfl ?_); refine box_event ?hg (N := 2) ?hd (cs := #[.pointer (some ⟨gd, 0, none⟩)]) (t := 28) ?hr ?_; (case hd => rfl); (case hg => rfl); (case hr => first | (go_simp; done) | (go_simp; rfl)); intro bd hg w3 hbox hb; have n_K0 := Aside0.mk hbox; have n_HB := Aside0.mk (below_step HB.out hb); clear  HB hbox hb hg; have K0 := n_K0; have HB := n_HB; clear n_K0 n_HB) | ((with_reducible refine gate_dst (N := 3) rfl ?_); refine box_event ?hg (N := 3) ?hd (cs := #[.string (str nm)]) (t := 9) ?hr ?_; (case hd => rfl); (case hg => rfl); (case hr => first | (go_simp; done) | (go_simp; rfl)); intro bn hg w3 hbox hb; have n_K1 := Aside0.mk hbox; have n_K0 := Aside0.mk (blk_below K0.out hb); have n_HB := Aside0.mk (below_step HB.out hb); clear K0 HB hbox hb hg; have K0 := n_K0; have K1 := n_K1; have HB := n_HB; clear n_K0 n_K1 n_HB))
  rename World => wN
  refine start_ (n := 8) (S := fun w' => Below wN.heap.size wN w') (ds := [6]) #[false, false, false, false, false, false, false, false] (by kernel_rfl) rfl rfl (below_drew (Below.refl _ _)) (fun hHeld => ?_)
  refine with_tabW r28_1.tab r28_1.bits (fun HT_ HW_ => ?_)
  generalize wN.drew = wd at hHeld ⊢
  refine take_ (i := 0) (N := some 5) (v := ?_) (a' := ?_) #[true, false, false, false, false, false, false, false] rfl rfl (take_ofW HT_.out HW_.out (by kernel_rfl)) (fun _ _ _ h => h) (Or.inl ⟨by rfl, ?_⟩) hHeld ?_ ?_
  rotate_left
  · rintro w' hbq
    have c_K0 := blk_c' (blk_below K0.out hbq) 0 rfl
    go_simp
    with_reducible rfl
  rotate_left
  · simp only [Act.put, List.setIfInBounds_toArray, List.set_cons_zero, List.set_cons_succ, i64_w, i32_w]
    rfl
  refine take_ (i := 1) (N := some 6) (v := ?_) (a' := ?_) #[true, true, false, false, false, false, false, false] rfl rfl (take_ofW HT_.out HW_.out (by kernel_rfl)) (fun _ _ _ h => h) (Or.inl ⟨by rfl, ?_⟩) hHeld ?_ ?_
  rotate_left
  · rintro w' hbq
    have c_K1 := blk_c' (blk_below K1.out hbq) 0 rfl
    go_simp
    with_reducible rfl
  rotate_left
  · simp only [Act.put, List.setIfInBounds_toArray, List.set_cons_zero, List.set_cons_succ, i64_w, i32_w]
    rfl
  refine pure_ (i := 3) (N := some 8) (v := ?_) (a' := ?_) #[true, true, false, true, false, false, false, false] rfl rfl (any_of HT_.out (by kernel_rfl)) (fun _ _ _ h => h) (Or.inl ⟨by rfl, ?_⟩) ?_ ?_
  rotate_left
  · intro w'
    go_simp
    with_reducible rfl
  rotate_left
  · simp only [Act.put, List.setIfInBounds_toArray, List.set_cons_zero, List.set_cons_succ, i64_w, i32_w]
    rfl
  refine pure_ (i := 4) (N := some 9) (v := ?_) (a' := ?_) #[true, true, false, true, true, false, false, false] rfl rfl (any_of HT_.out (by kernel_rfl)) (fun _ _ _ h => h) (Or.inl ⟨by rfl, ?_⟩) ?_ ?_
  rotate_left
  · intro w'
    go_simp
    with_reducible rfl
  rotate_left
  · simp only [Act.put, List.setIfInBounds_toArray, List.set_cons_zero, List.set_cons_succ, i64_w, i32_w]
    rfl
  refine join2 2 #[true, true, true, true, true, true, false, false] (fun g c _ _ => [(7, .slice (some ⟨g, 0, none⟩) 1 1), (10, .func (.func 66) #[] #[.pointer (some ⟨c, 0, none⟩)])]) (fun g c _ _ wx => Aside0 (Below wN.heap.size wN wx) ∧ Aside0 (wx.heap[g]? = some (.cells #[.string (str nm)] 9 (0, 0))) ∧ Aside0 (wx.cell? ⟨c, 0, none⟩ = some (.func (.func 55) #[] #[.pointer (some ⟨bd, 0, none⟩), .pointer (some ⟨bn, 0, none⟩)]))) ?_ (fun JJ => ?_)
  rotate_left
  · refine two_ (i := 2) (j := 5) (Ni := some 7) (Nj := some 10) #[true, true, true, true, true, false, false, false] #[true, true, false, true, true, true, false, false] rfl rfl rfl rfl (two_of HT_.out (by kernel_rfl)) (by decide) (by decide) (fun K hK => ?_) (fun K hK => ?_)
    · refine lit_step (cs := #[.string (str nm)]) (t := 9) (k := 1) (by rfl) (by first | (go_simp; done) | (go_simp; rfl)) ?_
      intro g hg w5 hbox hb
      have HX0 := Aside0.mk (below_step hHeld hb)
      have KG0 := Aside0.mk hbox
      refine hK.out _ _ HX0.out (fun hHeld => ?_)
      clear hK K hbox hb hg
      refine norm_ (a' := ?_) ?_ ?_
      rotate_left
      · show Act.put _ (some 7) _ = _
        simp only [Act.put, List.setIfInBounds_toArray, List.set_cons_zero, List.set_cons_succ, i64_w, i32_w]
        rfl
      refine one_ (i := 5) (N := some 10) #[true, true, true, true, true, true, false, false] rfl rfl (one_of HT_.out (by kernel_rfl)) (by decide) (fun K hK => ?_)
      refine goes_ Try.func51 (by kernel_rfl) rfl #[.func (.func 55) #[] #[.pointer (some ⟨bd, 0, none⟩), .pointer (some ⟨bn, 0, none⟩)]] (by rfl) rfl rfl (by first | done | rfl | (simp only [List.map_toArray, List.map_cons, List.map_nil]; rfl)) ?_
      refine (unless_at 55 #[.pointer (some ⟨bd, 0, none⟩), .pointer (some ⟨bn, 0, none⟩)] _).mono ?_
      rintro e w6 ⟨c, rfl, hcell, hb⟩
      refine ⟨_, rfl, ?_⟩
      have HX := Aside0.mk (below_step HX0.out hb)
      have KG := Aside0.mk (blk_below KG0.out hb)
      have KC := Aside0.mk hcell
      refine hK.out _ _ HX.out (fun hHeld => ?_)
      clear hK K hcell hb
      refine norm_ ?_ (JJ.out g c 0 0 _ ⟨HX, KG, KC⟩)
      show Act.put _ (some 10) _ = _
      simp only [putAll, Act.put, List.setIfInBounds_toArray, List.set_cons_zero, List.set_cons_succ]
    · refine goes_ Try.func51 (by kernel_rfl) rfl #[.func (.func 55) #[] #[.pointer (some ⟨bd, 0, none⟩), .pointer (some ⟨bn, 0, none⟩)]] (by rfl) rfl rfl (by first | done | rfl | (simp only [List.map_toArray, List.map_cons, List.map_nil]; rfl)) ?_
      refine (unless_at 55 #[.pointer (some ⟨bd, 0, none⟩), .pointer (some ⟨bn, 0, none⟩)] _).mono ?_
      rintro e w6 ⟨c, rfl, hcell, hb⟩
      refine ⟨_, rfl, ?_⟩
      have HX0 := Aside0.mk (below_step hHeld hb)
      have KC0 := Aside0.mk hcell
      refine hK.out _ _ HX0.out (fun hHeld => ?_)
      clear hK K hcell hb
      refine norm_ (a' := ?_) ?_ ?_
      rotate_left
      · show Act.put _ (some 10) _ = _
        simp only [Act.put, List.setIfInBounds_toArray, List.set_cons_zero, List.set_cons_succ, i64_w, i32_w]
        rfl
      refine one_ (i := 2) (N := some 7) #[true, true, true, true, true, true, false, false] rfl rfl (one_of HT_.out (by kernel_rfl)) (by decide) (fun K hK => ?_)
      refine lit_step (cs := #[.string (str nm)]) (t := 9) (k := 1) (by rfl) (by first | (go_simp; done) | (go_simp; rfl)) ?_
      intro g hg w5 hbox hb
      have HX := Aside0.mk (below_step HX0.out hb)
      have KG := Aside0.mk hbox
      have KC := Aside0.mk ((hb.cell (World.block_lt_of_cell? _ _ KC0.out)).trans KC0.out)
      refine hK.out _ _ HX.out (fun hHeld => ?_)
      clear hK K hbox hb hg
      refine norm_ ?_ (JJ.out g c 0 0 _ ⟨HX, KG, KC⟩)
      show Act.put _ (some 7) _ = _
      simp only [putAll, Act.put, List.setIfInBounds_toArray, List.set_cons_zero, List.set_cons_succ]
  rintro g c _ _ wx ⟨HX, KG, KC⟩
  refine norm_ (a' := ?_) ?_ ?_
  rotate_left
  · simp only [putAll, Act.put, List.setIfInBounds_toArray, List.set_cons_zero, List.set_cons_succ]
    rfl
  refine last_ (i := 6) (N := some 11) #[true, true, true, true, true, true, true, false] rfl rfl (one_of HT_.out (by kernel_rfl)) (by decide) (fun K hK => ?_)
  refine goes_ Try.func49 (by kernel_rfl) rfl #[.pointer (some ⟨gd, 0, none⟩), .slice (some ⟨g, 0, none⟩) 1 1, .func (.func 54) #[] #[.pointer (some ⟨bd, 0, none⟩), .pointer (some ⟨bn, 0, none⟩)], .func (.func 66) #[] #[.pointer (some ⟨c, 0, none⟩)]] (by rfl) rfl rfl (by first | done | rfl | (simp only [List.map_toArray, List.map_cons, List.map_nil]; rfl)) ?_
  refine (create_core gd B gm n φ S V Af cf Ap cp nm bd bn g c wx (HD.out.below (below_step HB.out HX.out)) HN.out HS.out HL.out (blk_c' (blk_below K0.out HX.out) 0 rfl) (blk_c' (blk_below K1.out HX.out) 0 rfl) KG.out KC.out).mono ?_
  rintro e w7 ⟨x, rfl, hx, φ', d1, d2⟩
  refine ⟨_, rfl, ?_⟩
  refine hK.out _ _ ?_
  have HQ : Aside0 (Comes w φ B gd (createP S nm) x w7) := ⟨⟨hx, φ', d1, (Step.of_below (below_step HB.out HX.out)).trans d2⟩⟩
  clear hK K hx d1 d2
  refine norm_ (a' := ?_) ?_ ?_
  rotate_left
  · show Act.put _ (some 11) _ = _
    simp only [Act.put, List.setIfInBounds_toArray, List.set_cons_zero, List.set_cons_succ, i64_w, i32_w]
    rfl
  refine pure_ (i := 7) (N := some 4) (v := ?_) (a' := ?_) #[true, true, true, true, true, true, true, true] rfl rfl (any_of HT_.out (by kernel_rfl)) (fun _ _ _ h => h) (Or.inl ⟨by rfl, ?_⟩) ?_ ?_
  rotate_left
  · intro w'
    go_simp
    with_reducible rfl
  rotate_left
  · simp only [Act.put, List.setIfInBounds_toArray, List.set_cons_zero, List.set_cons_succ, i64_w, i32_w]
    rfl
  refine done_ (done_of HT_.out (by kernel_rfl)) ?_
  go_wp2
  go_ret
  exact ⟨x, rfl, HQ.out⟩
theorem remove_core (gd B gm n : Nat) (φ : Nat → Tg) (S : DA) (V : Nm → Nat) (Af : Option Addr) (cf : Nat) (Ap : Option Addr) (cp : Nat) (nm : Nm) (bd bn g c d e : Nat) (w : World) (h : DIn w φ B gd S gm n V Af cf Ap cp) (hn : (n : Int) ≤ S.calls) (hS : Small S) (hnm : nm.length ≤ 1000)
    (k_bd : w.cell? ⟨bd, 0, none⟩ = some (.pointer (some ⟨gd, 0, none⟩))) (k_bn : w.cell? ⟨bn, 0, none⟩ = some (.string (str nm))) (k_d : w.cell? ⟨d, 0, none⟩ = some (.pointer (some ⟨gd, 0, none⟩))) (k_e : w.cell? ⟨e, 0, none⟩ = some (.string (str nm))) (kg : w.heap[g]? = some (.cells #[.string (str nm)] 9 (0, 0))) (k_c : w.cell? ⟨c, 0, none⟩ = some (.func (.func 53) #[] #[.pointer (some ⟨bd, 0, none⟩), .pointer (some ⟨bn, 0, none⟩)])) :
    Calls Try.prog 49 #[.pointer (some ⟨gd, 0, none⟩), .slice (some ⟨g, 0, none⟩) 1 1, .func (.func 65) #[] #[.pointer (some ⟨d, 0, none⟩), .pointer (some ⟨e, 0, none⟩)], .func (.func 66) #[] #[.pointer (some ⟨c, 0, none⟩)]] w (CallPost (Comes w φ B gd (removeP S nm))) := by
  have hsz : ∀ m : Nm, m.length ≤ 1000 → (str m).size ≤ maxLen := fun m hm => by rw [str_size]; unfold maxLen; omega
  have h1 := h.count (S.calls + 1)
  have st1 := h.count_step (S.calls + 1)
  have n_bd : bd ≠ gd := cell_ne k_bd h.blk (by intro e; cases e)
  have n_bn : bn ≠ gd := cell_ne k_bn h.blk (by intro e; cases e)
  have n_c : c ≠ gd := cell_ne k_c h.blk (by intro e; cases e)
  have n_d : d ≠ gd := cell_ne k_d h.blk (by intro e; cases e)
  have n_e : e ≠ gd := cell_ne k_e h.blk (by intro e; cases e)
  have q_bd : (w.setCell ⟨gd, 5, none⟩ (.int .i64 (S.calls + 1))).cell? ⟨bd, 0, none⟩ = _ := cell_set k_bd n_bd
  have q_bn : (w.setCell ⟨gd, 5, none⟩ (.int .i64 (S.calls + 1))).cell? ⟨bn, 0, none⟩ = _ := cell_set k_bn n_bn
  have q_c : (w.setCell ⟨gd, 5, none⟩ (.int .i64 (S.calls + 1))).cell? ⟨c, 0, none⟩ = _ := cell_set k_c n_c
  have q_d : (w.setCell ⟨gd, 5, none⟩ (.int .i64 (S.calls + 1))).cell? ⟨d, 0, none⟩ = _ := cell_set k_d n_d
  have q_e : (w.setCell ⟨gd, 5, none⟩ (.int .i64 (S.calls + 1))).cell? ⟨e, 0, none⟩ = _ := cell_set k_e n_e
  have q4 : (w.setCell ⟨gd, 5, none⟩ (.int .i64 (S.calls + 1))).cell? ⟨gd, 4, none⟩ = some (.map (some gm)) := (blk_cell h1.blk 4).trans rfl
  have hall : [str nm].all valid = vN nm := by simp [valid_str]
  have hrow : ∀ i, i < [str nm].length → w.cell? ((⟨g, 0, none⟩ : Addr).add i) = some (.string ([str nm].getD i ByteArray.empty)) := by
    intro i hi
    obtain rfl : i = 0 := by simpa using hi
    exact (blk_cell kg 0).trans rfl
  have hng : (⟨g, 0, none⟩ : Addr).block ≠ gd := fun e => blk_ne kg h.blk (by decide) e
  have hfin : Finds (w.setCell ⟨gd, 5, none⟩ (.int .i64 (S.calls + 1))) gm (str nm) (.pointer ((get S.files nm).map (fun _ => ⟨V nm, 0, none⟩))) := h1.finds nm (hsz nm hnm)
  have hbad : [str nm].all valid = false → Comes w φ B gd (removeP S nm) 2 (w.setCell ⟨gd, 5, none⟩ (.int .i64 (S.calls + 1))) := by
    intro hv
    rw [hall] at hv
    unfold removeP; rw [if_pos (hv)]
    exact ⟨rfl, φ, ⟨gm, n, V, Af, cf, Ap, cp, h1, by show (n : Int) ≤ S.calls + 1; omega⟩, st1⟩
  have hgood : [str nm].all valid = true → ¬ (vN nm = false) := by
    intro hv
    rw [hall] at hv
    rw [hv]; decide
  cases hg : get S.files nm with
  | none =>
    rw [hg] at hfin
    refine call_65_66 gd d e c S.room S.calls S.fails S.parts Af cf Ap cp (.map (some gm)) _ ⟨g, 0, none⟩ 1 [str nm] 10 _ w h.blk h.fls h.pts hS.fl hS.pl hS.c0 (Int.le_of_lt hS.c1) hrow (by simp) hng (there1_at d e gd gm (str nm) _ _ q_d q_e q4 hfin) hbad ?_ (fun _ he => absurd he (by decide))
    intro hv he m
    have hC : removeP S nm = (cnt S, 10) := by unfold removeP; rw [if_neg (hgood hv), hg]; rfl
    rw [hC]
    exact ⟨rfl, φ, ⟨gm, n, V, Af, cf, Ap, cp, h1.drewN m, by show (n : Int) ≤ S.calls + 1; omega⟩, st1.drewN m⟩
  | some f =>
    rw [hg] at hfin
    refine call_65_66 gd d e c S.room S.calls S.fails S.parts Af cf Ap cp (.map (some gm)) _ ⟨g, 0, none⟩ 1 [str nm] 0 _ w h.blk h.fls h.pts hS.fl hS.pl hS.c0 (Int.le_of_lt hS.c1) hrow (by simp) hng (there1_at d e gd gm (str nm) _ _ q_d q_e q4 hfin) hbad (fun _ he => absurd rfl he) ?_
    intro hv _ m
    have hC : removeP S nm = if isRef S then (cnt S, 12) else ({ cnt S with files := del nm S.files }, 0) := by unfold removeP; rw [if_neg (hgood hv), hg]; rfl
    rw [hC]
    have h2 := h1.drewN m
    refine (unless_53 bd bn c _ _ ((w.setCell ⟨gd, 5, none⟩ (.int .i64 (S.calls + 1))).drewN m) (fun w' => ∃ φ', DAt w' φ' B gd { cnt S with files := del nm S.files } ∧ Step w w' φ φ') q_c (fun hno => ?_)).mono ?_
    · refine (drop1_at bd bn gd gm n _ (str nm) ((w.setCell ⟨gd, 5, none⟩ (.int .i64 (S.calls + 1))).drewN m) q_bd q_bn q4 h2.own (hsz nm hnm)).mono ?_
      rintro e w' ⟨rfl, ho, hc, -⟩
      obtain ⟨φ', d1, d2⟩ := h2.drop ho hc
      exact ⟨rfl, φ', ⟨gm, n, V, Af, cf, Ap, cp, d1, by show (n : Int) ≤ S.calls + 1; omega⟩, (st1.drewN m).trans d2⟩
    · rintro e w' (⟨hno, rfl, rfl⟩ | ⟨hno, rfl, φ', d1, d2⟩)
      · refine ⟨12, rfl, ?_⟩
        rw [show isRef S = true from hno]
        exact ⟨rfl, φ, ⟨gm, n, V, Af, cf, Ap, cp, h2, by show (n : Int) ≤ S.calls + 1; omega⟩, st1.drewN m⟩
      · refine ⟨0, rfl, ?_⟩
        rw [show isRef S = false from hno]
        exact ⟨rfl, φ', d1, d2⟩
theorem sync_core (gd B gm n : Nat) (φ : Nat → Tg) (S : DA) (V : Nm → Nat) (Af : Option Addr) (cf : Nat) (Ap : Option Addr) (cp : Nat) (nm : Nm) (bd bn g c d e : Nat) (w : World) (h : DIn w φ B gd S gm n V Af cf Ap cp) (hn : (n : Int) ≤ S.calls) (hS : Small S) (hnm : nm.length ≤ 1000)
    (k_bd : w.cell? ⟨bd, 0, none⟩ = some (.pointer (some ⟨gd, 0, none⟩))) (k_bn : w.cell? ⟨bn, 0, none⟩ = some (.string (str nm))) (k_d : w.cell? ⟨d, 0, none⟩ = some (.pointer (some ⟨gd, 0, none⟩))) (k_e : w.cell? ⟨e, 0, none⟩ = some (.string (str nm))) (kg : w.heap[g]? = some (.cells #[.string (str nm)] 9 (0, 0))) (k_c : w.cell? ⟨c, 0, none⟩ = some (.func (.func 57) #[] #[.pointer (some ⟨bd, 0, none⟩), .pointer (some ⟨bn, 0, none⟩)])) :
    Calls Try.prog 49 #[.pointer (some ⟨gd, 0, none⟩), .slice (some ⟨g, 0, none⟩) 1 1, .func (.func 65) #[] #[.pointer (some ⟨d, 0, none⟩), .pointer (some ⟨e, 0, none⟩)], .func (.func 66) #[] #[.pointer (some ⟨c, 0, none⟩)]] w (CallPost (Comes w φ B gd (syncP S nm))) := by
  have hsz : ∀ m : Nm, m.length ≤ 1000 → (str m).size ≤ maxLen := fun m hm => by rw [str_size]; unfold maxLen; omega
  have h1 := h.count (S.calls + 1)
  have st1 := h.count_step (S.calls + 1)
  have n_bd : bd ≠ gd := cell_ne k_bd h.blk (by intro e; cases e)
  have n_bn : bn ≠ gd := cell_ne k_bn h.blk (by intro e; cases e)
  have n_c : c ≠ gd := cell_ne k_c h.blk (by intro e; cases e)
  have n_d : d ≠ gd := cell_ne k_d h.blk (by intro e; cases e)
  have n_e : e ≠ gd := cell_ne k_e h.blk (by intro e; cases e)
  have q_bd : (w.setCell ⟨gd, 5, none⟩ (.int .i64 (S.calls + 1))).cell? ⟨bd, 0, none⟩ = _ := cell_set k_bd n_bd
  have q_bn : (w.setCell ⟨gd, 5, none⟩ (.int .i64 (S.calls + 1))).cell? ⟨bn, 0, none⟩ = _ := cell_set k_bn n_bn
  have q_c : (w.setCell ⟨gd, 5, none⟩ (.int .i64 (S.calls + 1))).cell? ⟨c, 0, none⟩ = _ := cell_set k_c n_c
  have q_d : (w.setCell ⟨gd, 5, none⟩ (.int .i64 (S.calls + 1))).cell? ⟨d, 0, none⟩ = _ := cell_set k_d n_d
  have q_e : (w.setCell ⟨gd, 5, none⟩ (.int .i64 (S.calls + 1))).cell? ⟨e, 0, none⟩ = _ := cell_set k_e n_e
  have q4 : (w.setCell ⟨gd, 5, none⟩ (.int .i64 (S.calls + 1))).cell? ⟨gd, 4, none⟩ = some (.map (some gm)) := (blk_cell h1.blk 4).trans rfl
  have hall : [str nm].all valid = vN nm := by simp [valid_str]
  have hrow : ∀ i, i < [str nm].length → w.cell? ((⟨g, 0, none⟩ : Addr).add i) = some (.string ([str nm].getD i ByteArray.empty)) := by
    intro i hi
    obtain rfl : i = 0 := by simpa using hi
    exact (blk_cell kg 0).trans rfl
  have hng : (⟨g, 0, none⟩ : Addr).block ≠ gd := fun e => blk_ne kg h.blk (by decide) e
  have hfin : Finds (w.setCell ⟨gd, 5, none⟩ (.int .i64 (S.calls + 1))) gm (str nm) (.pointer ((get S.files nm).map (fun _ => ⟨V nm, 0, none⟩))) := h1.finds nm (hsz nm hnm)
  have hbad : [str nm].all valid = false → Comes w φ B gd (syncP S nm) 2 (w.setCell ⟨gd, 5, none⟩ (.int .i64 (S.calls + 1))) := by
    intro hv
    rw [hall] at hv
    unfold syncP; rw [if_pos (hv)]
    exact ⟨rfl, φ, ⟨gm, n, V, Af, cf, Ap, cp, h1, by show (n : Int) ≤ S.calls + 1; omega⟩, st1⟩
  have hgood : [str nm].all valid = true → ¬ (vN nm = false) := by
    intro hv
    rw [hall] at hv
    rw [hv]; decide
  cases hg : get S.files nm with
  | none =>
    rw [hg] at hfin
    refine call_65_66 gd d e c S.room S.calls S.fails S.parts Af cf Ap cp (.map (some gm)) _ ⟨g, 0, none⟩ 1 [str nm] 10 _ w h.blk h.fls h.pts hS.fl hS.pl hS.c0 (Int.le_of_lt hS.c1) hrow (by simp) hng (there1_at d e gd gm (str nm) _ _ q_d q_e q4 hfin) hbad ?_ (fun _ he => absurd he (by decide))
    intro hv he m
    have hC : syncP S nm = (cnt S, 10) := by unfold syncP; rw [if_neg (hgood hv), hg]
    rw [hC]
    exact ⟨rfl, φ, ⟨gm, n, V, Af, cf, Ap, cp, h1.drewN m, by show (n : Int) ≤ S.calls + 1; omega⟩, st1.drewN m⟩
  | some f =>
    rw [hg] at hfin
    refine call_65_66 gd d e c S.room S.calls S.fails S.parts Af cf Ap cp (.map (some gm)) _ ⟨g, 0, none⟩ 1 [str nm] 0 _ w h.blk h.fls h.pts hS.fl hS.pl hS.c0 (Int.le_of_lt hS.c1) hrow (by simp) hng (there1_at d e gd gm (str nm) _ _ q_d q_e q4 hfin) hbad (fun _ he => absurd rfl he) ?_
    intro hv _ m
    have hC : syncP S nm = if isRef S then (cnt S, 12) else ({ cnt S with files := put nm ⟨f.b, f.b.length⟩ S.files }, 0) := by unfold syncP; rw [if_neg (hgood hv), hg]
    rw [hC]
    have h2 := h1.drewN m
    refine (unless_57 bd bn c _ _ ((w.setCell ⟨gd, 5, none⟩ (.int .i64 (S.calls + 1))).drewN m) (fun w' => ∃ φ', DAt w' φ' B gd { cnt S with files := put nm ⟨f.b, f.b.length⟩ S.files } ∧ Step w w' φ φ') q_c (fun hno => ?_)).mono ?_
    · obtain ⟨A, cA, f1, f2, f3⟩ := h2.file (nm, f) (get_mem hg)
      have hfm : Finds ((w.setCell ⟨gd, 5, none⟩ (.int .i64 (S.calls + 1))).drewN m) gm (str nm) (.pointer (some ⟨V nm, 0, none⟩)) := by have := h2.finds nm (hsz nm hnm); rw [show ({ S with calls := S.calls + 1 } : DA).files = S.files from rfl, hg] at this; exact this
      refine (sync1_at bd bn gd gm (V nm) (str nm) A f.b.length cA f.safe ((w.setCell ⟨gd, 5, none⟩ (.int .i64 (S.calls + 1))).drewN m) q_bd q_bn q4 hfm f1 (hS.len _ (get_mem hg))).mono ?_
      rintro e w' ⟨rfl, hb, hc, hz⟩
      obtain ⟨d1, d2⟩ := h2.content (f' := ⟨f.b, f.b.length⟩) (φ' := φ) hg (hc.mono (fun k hk => by subst hk; exact f2)) (fun _ _ => rfl) (fun k hk hne => by have := (h2.dom k hne).2; omega) ⟨A, cA, hb, f2, f3.other f1 (by decide) (fun k hk hne => hc.block k hk hne)⟩
      exact ⟨rfl, φ, ⟨gm, n, V, Af, cf, Ap, cp, d1, by show (n : Int) ≤ S.calls + 1; omega⟩, (st1.drewN m).trans d2⟩
    · rintro e w' (⟨hno, rfl, rfl⟩ | ⟨hno, rfl, φ', d1, d2⟩)
      · refine ⟨12, rfl, ?_⟩
        rw [show isRef S = true from hno]
        exact ⟨rfl, φ, ⟨gm, n, V, Af, cf, Ap, cp, h2, by show (n : Int) ≤ S.calls + 1; omega⟩, st1.drewN m⟩
      · refine ⟨0, rfl, ?_⟩
        rw [show isRef S = false from hno]
        exact ⟨rfl, φ', d1, d2⟩
theorem rename_core (gd B gm n : Nat) (φ : Nat → Tg) (S : DA) (V : Nm → Nat) (Af : Option Addr) (cf : Nat) (Ap : Option Addr) (cp : Nat) (old nm : Nm) (bd bo bn g c d e : Nat) (w : World) (h : DIn w φ B gd S gm n V Af cf Ap cp) (hn : (n : Int) ≤ S.calls) (hS : Small S) (hold : old.length ≤ 1000) (hnm : nm.length ≤ 1000)
    (k_bd : w.cell? ⟨bd, 0, none⟩ = some (.pointer (some ⟨gd, 0, none⟩))) (k_bo : w.cell? ⟨bo, 0, none⟩ = some (.string (str old))) (k_bn : w.cell? ⟨bn, 0, none⟩ = some (.string (str nm))) (k_d : w.cell? ⟨d, 0, none⟩ = some (.pointer (some ⟨gd, 0, none⟩))) (k_e : w.cell? ⟨e, 0, none⟩ = some (.string (str old))) (kg : w.heap[g]? = some (.cells #[.string (str old), .string (str nm)] 9 (0, 0))) (k_c : w.cell? ⟨c, 0, none⟩ = some (.func (.func 52) #[] #[.pointer (some ⟨bd, 0, none⟩), .pointer (some ⟨bo, 0, none⟩), .pointer (some ⟨bn, 0, none⟩)])) :
    Calls Try.prog 49 #[.pointer (some ⟨gd, 0, none⟩), .slice (some ⟨g, 0, none⟩) 2 2, .func (.func 65) #[] #[.pointer (some ⟨d, 0, none⟩), .pointer (some ⟨e, 0, none⟩)], .func (.func 66) #[] #[.pointer (some ⟨c, 0, none⟩)]] w (CallPost (Comes w φ B gd (renameP S old nm))) := by
  have hsz : ∀ m : Nm, m.length ≤ 1000 → (str m).size ≤ maxLen := fun m hm => by rw [str_size]; unfold maxLen; omega
  have h1 := h.count (S.calls + 1)
  have st1 := h.count_step (S.calls + 1)
  have n_bd : bd ≠ gd := cell_ne k_bd h.blk (by intro e; cases e)
  have n_bo : bo ≠ gd := cell_ne k_bo h.blk (by intro e; cases e)
  have n_bn : bn ≠ gd := cell_ne k_bn h.blk (by intro e; cases e)
  have n_c : c ≠ gd := cell_ne k_c h.blk (by intro e; cases e)
  have n_d : d ≠ gd := cell_ne k_d h.blk (by intro e; cases e)
  have n_e : e ≠ gd := cell_ne k_e h.blk (by intro e; cases e)
  have q_bd : (w.setCell ⟨gd, 5, none⟩ (.int .i64 (S.calls + 1))).cell? ⟨bd, 0, none⟩ = _ := cell_set k_bd n_bd
  have q_bo : (w.setCell ⟨gd, 5, none⟩ (.int .i64 (S.calls + 1))).cell? ⟨bo, 0, none⟩ = _ := cell_set k_bo n_bo
  have q_bn : (w.setCell ⟨gd, 5, none⟩ (.int .i64 (S.calls + 1))).cell? ⟨bn, 0, none⟩ = _ := cell_set k_bn n_bn
  have q_c : (w.setCell ⟨gd, 5, none⟩ (.int .i64 (S.calls + 1))).cell? ⟨c, 0, none⟩ = _ := cell_set k_c n_c
  have q_d : (w.setCell ⟨gd, 5, none⟩ (.int .i64 (S.calls + 1))).cell? ⟨d, 0, none⟩ = _ := cell_set k_d n_d
  have q_e : (w.setCell ⟨gd, 5, none⟩ (.int .i64 (S.calls + 1))).cell? ⟨e, 0, none⟩ = _ := cell_set k_e n_e
  have q4 : (w.setCell ⟨gd, 5, none⟩ (.int .i64 (S.calls + 1))).cell? ⟨gd, 4, none⟩ = some (.map (some gm)) := (blk_cell h1.blk 4).trans rfl
  have hall : [str old, str nm].all valid = (vN old && vN nm) := by simp [valid_str]
  have hrow : ∀ i, i < [str old, str nm].length → w.cell? ((⟨g, 0, none⟩ : Addr).add i) = some (.string ([str old, str nm].getD i ByteArray.empty)) := by
    intro i hi
    rcases (show i = 0 ∨ i = 1 by simp at hi; omega) with rfl | rfl
    · exact (blk_cell kg 0).trans rfl
    · exact (blk_cell kg 1).trans rfl
  have hng : (⟨g, 0, none⟩ : Addr).block ≠ gd := fun e => blk_ne kg h.blk (by decide) e
  have hfin : Finds (w.setCell ⟨gd, 5, none⟩ (.int .i64 (S.calls + 1))) gm (str old) (.pointer ((get S.files old).map (fun _ => ⟨V old, 0, none⟩))) := h1.finds old (hsz old hold)
  have hbad : [str old, str nm].all valid = false → Comes w φ B gd (renameP S old nm) 2 (w.setCell ⟨gd, 5, none⟩ (.int .i64 (S.calls + 1))) := by
    intro hv
    rw [hall] at hv
    unfold renameP; rw [if_pos (by cases ho : vN old with | false => exact .inl rfl | true => rw [ho] at hv; exact .inr hv)]
    exact ⟨rfl, φ, ⟨gm, n, V, Af, cf, Ap, cp, h1, by show (n : Int) ≤ S.calls + 1; omega⟩, st1⟩
  have hgood : [str old, str nm].all valid = true → ¬ (vN old = false ∨ vN nm = false) := by
    intro hv
    rw [hall] at hv
    rw [Bool.and_eq_true] at hv; rw [hv.1, hv.2]; decide
  cases hg : get S.files old with
  | none =>
    rw [hg] at hfin
    refine call_65_66 gd d e c S.room S.calls S.fails S.parts Af cf Ap cp (.map (some gm)) _ ⟨g, 0, none⟩ 2 [str old, str nm] 10 _ w h.blk h.fls h.pts hS.fl hS.pl hS.c0 (Int.le_of_lt hS.c1) hrow (by simp) hng (there1_at d e gd gm (str old) _ _ q_d q_e q4 hfin) hbad ?_ (fun _ he => absurd he (by decide))
    intro hv he m
    have hC : renameP S old nm = (cnt S, 10) := by unfold renameP; rw [if_neg (hgood hv), hg]
    rw [hC]
    exact ⟨rfl, φ, ⟨gm, n, V, Af, cf, Ap, cp, h1.drewN m, by show (n : Int) ≤ S.calls + 1; omega⟩, st1.drewN m⟩
  | some f =>
    rw [hg] at hfin
    refine call_65_66 gd d e c S.room S.calls S.fails S.parts Af cf Ap cp (.map (some gm)) _ ⟨g, 0, none⟩ 2 [str old, str nm] 0 _ w h.blk h.fls h.pts hS.fl hS.pl hS.c0 (Int.le_of_lt hS.c1) hrow (by simp) hng (there1_at d e gd gm (str old) _ _ q_d q_e q4 hfin) hbad (fun _ he => absurd rfl he) ?_
    intro hv _ m
    have hC : renameP S old nm = if isRef S then (cnt S, 12) else ({ cnt S with files := put nm f (del old S.files) }, 0) := by unfold renameP; rw [if_neg (hgood hv), hg]
    rw [hC]
    have h2 := h1.drewN m
    refine (unless_52 bd bo bn c _ _ ((w.setCell ⟨gd, 5, none⟩ (.int .i64 (S.calls + 1))).drewN m) (fun w' => ∃ φ', DAt w' φ' B gd { cnt S with files := put nm f (del old S.files) } ∧ Step w w' φ φ') q_c (fun hno => ?_)).mono ?_
    · have hfm : Finds ((w.setCell ⟨gd, 5, none⟩ (.int .i64 (S.calls + 1))).drewN m) gm (str old) (.pointer (some ⟨V old, 0, none⟩)) := by have := h2.finds old (hsz old hold); rw [show ({ S with calls := S.calls + 1 } : DA).files = S.files from rfl, hg] at this; exact this
      refine (move1_at bd bo bn gd gm n _ (str old) (str nm) _ ((w.setCell ⟨gd, 5, none⟩ (.int .i64 (S.calls + 1))).drewN m) q_bd q_bo q_bn q4 hfm h2.own (hsz old hold) (hsz nm hnm) (by have := hS.c1; unfold maxLen; omega)).mono ?_
      rintro e w' ⟨rfl, ho, hc⟩
      obtain ⟨φ', d1, d2⟩ := h2.rename hg ho hc
      exact ⟨rfl, φ', ⟨gm, n + 1, _, Af, cf, Ap, cp, d1, by show ((n + 1 : Nat) : Int) ≤ S.calls + 1; omega⟩, (st1.drewN m).trans d2⟩
    · rintro e w' (⟨hno, rfl, rfl⟩ | ⟨hno, rfl, φ', d1, d2⟩)
      · refine ⟨12, rfl, ?_⟩
        rw [show isRef S = true from hno]
        exact ⟨rfl, φ, ⟨gm, n, V, Af, cf, Ap, cp, h2, by show (n : Int) ≤ S.calls + 1; omega⟩, st1.drewN m⟩
      · refine ⟨0, rfl, ?_⟩
        rw [show isRef S = false from hno]
        exact ⟨rfl, φ', d1, d2⟩
def r27_1.T : Bool × List (List Nat × List Nat) := (true, [([], []), ([], []), ([1], [1]), ([], []), ([], []), ([3, 4], [3, 4]), ([], []), ([6, 5], [6]), ([0, 2, 5, 7, 7], [0, 2, 5, 7]), ([8, 8, 0, 1, 2, 3, 4, 5, 6, 7, 8], [8])])
def r27_1.B : List Nat := [0, 0, 2, 0, 0, 24, 0, 120, 255, 511]
theorem r27_1.tab : rtab .any (opsOf Try.f27 1) = r27_1.T := by kernel_rfl
theorem r27_1.bits : waitsOk r27_1.T.2 r27_1.B = true := by kernel_rfl
set_option maxHeartbeats 8000000 in
set_option maxRecDepth 100000 in
theorem remove_at (gd B : Nat) (φ : Nat → Tg) (S : DA) (nm : Nm) (w : World) (h : DAt w φ B gd S) (hS : Small S) (hnm : nm.length ≤ 1000) :
    Calls Try.prog 27 #[.pointer (some ⟨gd, 0, none⟩), .string (str nm)] w (CallPost (Comes w φ B gd (removeP S nm))) := by
  obtain ⟨gm, n, V, Af, cf, Ap, cp, hd, hn⟩ := h
  have HD := Aside0.mk hd
  have HN := Aside0.mk hn
  have HS := Aside0.mk hS
  have HLnm := Aside0.mk hnm
  have HB := Aside0.mk (Below.refl w.heap.size w)
  clear hd hn hS hnm
  go_enter Try.func27, Try.ntmps27
  go_upto_region 1 with (first | ((with_reducible refine gate_dst (N := 2) rfl ?_); refine box_event ?hg (N := 2) ?hd (cs := #[.pointer (some ⟨gd, 0, none⟩)]) (t := 28) ?hr ?_; (case hd => rfl); (case hg => rfl); (case hr => first | (go_simp; done) | (go_simp; rfl)); intro bd hg w3 hbox hb; have n_K0 := Aside0.mk hbox; have n_HB := Aside0.mk (below_step HB.out hb); clear  HB hbox hb hg; have K0 := n_K0; have HB := n_HB; clear n_K0 n_HB) | ((with_reducible refine gate_dst (N := 3) rfl ?_); refine box_event ?hg (N := 3) ?hd (cs := #[.string (str nm)]) (t := 9) ?hr ?_; (case hd => rfl); (case hg => rfl); (case hr => first | (go_simp; done) | (go_simp; rfl)); intro bn hg w3 hbox hb; have n_K1 := Aside0.mk hbox; have n_K0 := Aside0.mk (blk_below K0.out hb); have n_HB := Aside0.mk (below_step HB.out hb); clear K0 HB hbox hb hg; have K0 := n_K0; have K1 := n_K1; have HB := n_HB; clear n_K0 n_K1 n_HB))
  rename World => wN
  refine start_ (n := 10) (S := fun w' => Below wN.heap.size wN w') (ds := [8]) #[false, false, false, false, false, false, false, false, false, false] (by kernel_rfl) rfl rfl (below_drew (Below.refl _ _)) (fun hHeld => ?_)
  refine with_tabW r27_1.tab r27_1.bits (fun HT_ HW_ => ?_)
  generalize wN.drew = wd at hHeld ⊢
  refine take_ (i := 0) (N := some 5) (v := ?_) (a' := ?_) #[true, false, false, false, false, false, false, false, false, false] rfl rfl (take_ofW HT_.out HW_.out (by kernel_rfl)) (fun _ _ _ h => h) (Or.inl ⟨by rfl, ?_⟩) hHeld ?_ ?_
  rotate_left
  · rintro w' hbq
    have c_K0 := blk_c' (blk_below K0.out hbq) 0 rfl
    go_simp
    with_reducible rfl
  rotate_left
  · simp only [Act.put, List.setIfInBounds_toArray, List.set_cons_zero, List.set_cons_succ, i64_w, i32_w]
    rfl
  refine take_ (i := 1) (N := some 6) (v := ?_) (a' := ?_) #[true, true, false, false, false, false, false, false, false, false] rfl rfl (take_ofW HT_.out HW_.out (by kernel_rfl)) (fun _ _ _ h => h) (Or.inl ⟨by rfl, ?_⟩) hHeld ?_ ?_
  rotate_left
  · rintro w' hbq
    have c_K1 := blk_c' (blk_below K1.out hbq) 0 rfl
    go_simp
    with_reducible rfl
  rotate_left
  · simp only [Act.put, List.setIfInBounds_toArray, List.set_cons_zero, List.set_cons_succ, i64_w, i32_w]
    rfl
  refine take_ (i := 3) (N := some 8) (v := ?_) (a' := ?_) #[true, true, false, true, false, false, false, false, false, false] rfl rfl (take_ofW HT_.out HW_.out (by kernel_rfl)) (fun _ _ _ h => h) (Or.inl ⟨by rfl, ?_⟩) hHeld ?_ ?_
  rotate_left
  · rintro w' hbq
    have c_K0 := blk_c' (blk_below K0.out hbq) 0 rfl
    go_simp
    with_reducible rfl
  rotate_left
  · simp only [Act.put, List.setIfInBounds_toArray, List.set_cons_zero, List.set_cons_succ, i64_w, i32_w]
    rfl
  refine take_ (i := 4) (N := some 9) (v := ?_) (a' := ?_) #[true, true, false, true, true, false, false, false, false, false] rfl rfl (take_ofW HT_.out HW_.out (by kernel_rfl)) (fun _ _ _ h => h) (Or.inl ⟨by rfl, ?_⟩) hHeld ?_ ?_
  rotate_left
  · rintro w' hbq
    have c_K1 := blk_c' (blk_below K1.out hbq) 0 rfl
    go_simp
    with_reducible rfl
  rotate_left
  · simp only [Act.put, List.setIfInBounds_toArray, List.set_cons_zero, List.set_cons_succ, i64_w, i32_w]
    rfl
  refine pure_ (i := 6) (N := some 11) (v := ?_) (a' := ?_) #[true, true, false, true, true, false, true, false, false, false] rfl rfl (any_of HT_.out (by kernel_rfl)) (fun _ _ _ h => h) (Or.inl ⟨by rfl, ?_⟩) ?_ ?_
  rotate_left
  · intro w'
    go_simp
    with_reducible rfl
  rotate_left
  · simp only [Act.put, List.setIfInBounds_toArray, List.set_cons_zero, List.set_cons_succ, i64_w, i32_w]
    rfl
  refine join2 2 #[true, true, true, true, true, true, true, true, false, false] (fun g c d e => [(7, .slice (some ⟨g, 0, none⟩) 1 1), (10, .func (.func 65) #[] #[.pointer (some ⟨d, 0, none⟩), .pointer (some ⟨e, 0, none⟩)]), (12, .func (.func 66) #[] #[.pointer (some ⟨c, 0, none⟩)])]) (fun g c d e wx => Aside0 (Below wN.heap.size wN wx) ∧ Aside0 (wx.heap[g]? = some (.cells #[.string (str nm)] 9 (0, 0))) ∧ Aside0 (wx.cell? ⟨d, 0, none⟩ = some (.pointer (some ⟨gd, 0, none⟩))) ∧ Aside0 (wx.cell? ⟨e, 0, none⟩ = some (.string (str nm))) ∧ Aside0 (wx.cell? ⟨c, 0, none⟩ = some (.func (.func 53) #[] #[.pointer (some ⟨bd, 0, none⟩), .pointer (some ⟨bn, 0, none⟩)]))) ?_ (fun JJ => ?_)
  rotate_left
  · have HX := Aside0.mk hHeld
    refine two_ (i := 2) (j := 5) (Ni := some 7) (Nj := some 10) #[true, true, true, true, true, false, true, false, false, false] #[true, true, false, true, true, true, true, false, false, false] rfl rfl rfl rfl (two_of HT_.out (by kernel_rfl)) (by decide) (by decide) (fun K hK => ?_) (fun K hK => ?_)
    · refine lit_step (cs := #[.string (str nm)]) (t := 9) (k := 1) (by rfl) (by first | (go_simp; done) | (go_simp; rfl)) ?_
      intro g hg w5 hbox hb
      have KG := Aside0.mk hbox
      clear hbox hg
      replace HX := Aside0.mk (below_step HX.out hb)
      refine hK.out _ _ HX.out (fun hHeld => ?_)
      clear hK K hb
      refine norm_ (a' := ?_) ?_ ?_
      rotate_left
      · show Act.put _ (some 7) _ = _
        simp only [Act.put, List.setIfInBounds_toArray, List.set_cons_zero, List.set_cons_succ, i64_w, i32_w]
        rfl
      refine one_ (i := 5) (N := some 10) #[true, true, true, true, true, true, true, false, false, false] rfl rfl (one_of HT_.out (by kernel_rfl)) (by decide) (fun K hK => ?_)
      · refine goes_ Try.func50 (by kernel_rfl) rfl #[.pointer (some ⟨gd, 0, none⟩), .string (str nm)] (by rfl) rfl rfl (by first | done | rfl | (simp only [List.map_toArray, List.map_cons, List.map_nil]; rfl)) ?_
        refine (there_at gd (str nm) _).mono ?_
        rintro e0 w6 ⟨d, e, rfl, h0, h1, hb⟩
        refine ⟨_, rfl, ?_⟩
        have KD := Aside0.mk h0
        have KE := Aside0.mk h1
        clear h0 h1
        replace KG := Aside0.mk (blk_below KG.out hb)
        replace HX := Aside0.mk (below_step HX.out hb)
        refine hK.out _ _ HX.out (fun hHeld => ?_)
        clear hK K hb
        refine norm_ (a' := ?_) ?_ ?_
        rotate_left
        · show Act.put _ (some 10) _ = _
          simp only [Act.put, List.setIfInBounds_toArray, List.set_cons_zero, List.set_cons_succ, i64_w, i32_w]
          rfl
        refine one_ (i := 7) (N := some 12) #[true, true, true, true, true, true, true, true, false, false] rfl rfl (one_of HT_.out (by kernel_rfl)) (by decide) (fun K hK => ?_)
        · refine goes_ Try.func51 (by kernel_rfl) rfl #[.func (.func 53) #[] #[.pointer (some ⟨bd, 0, none⟩), .pointer (some ⟨bn, 0, none⟩)]] (by rfl) rfl rfl (by first | done | rfl | (simp only [List.map_toArray, List.map_cons, List.map_nil]; rfl)) ?_
          refine (unless_at 53 #[.pointer (some ⟨bd, 0, none⟩), .pointer (some ⟨bn, 0, none⟩)] _).mono ?_
          rintro e0 w6 ⟨c, rfl, h0, hb⟩
          refine ⟨_, rfl, ?_⟩
          have KC := Aside0.mk h0
          clear h0
          replace KG := Aside0.mk (blk_below KG.out hb)
          replace KD := Aside0.mk ((hb.cell (World.block_lt_of_cell? _ _ KD.out)).trans KD.out)
          replace KE := Aside0.mk ((hb.cell (World.block_lt_of_cell? _ _ KE.out)).trans KE.out)
          replace HX := Aside0.mk (below_step HX.out hb)
          refine hK.out _ _ HX.out (fun hHeld => ?_)
          clear hK K hb
          refine norm_ ?_ (JJ.out g c d e _ ⟨HX, KG, KD, KE, KC⟩)
          show Act.put _ (some 12) _ = _
          simp only [putAll, Act.put, List.setIfInBounds_toArray, List.set_cons_zero, List.set_cons_succ]
    · refine goes_ Try.func50 (by kernel_rfl) rfl #[.pointer (some ⟨gd, 0, none⟩), .string (str nm)] (by rfl) rfl rfl (by first | done | rfl | (simp only [List.map_toArray, List.map_cons, List.map_nil]; rfl)) ?_
      refine (there_at gd (str nm) _).mono ?_
      rintro e0 w6 ⟨d, e, rfl, h0, h1, hb⟩
      refine ⟨_, rfl, ?_⟩
      have KD := Aside0.mk h0
      have KE := Aside0.mk h1
      clear h0 h1
      replace HX := Aside0.mk (below_step HX.out hb)
      refine hK.out _ _ HX.out (fun hHeld => ?_)
      clear hK K hb
      refine norm_ (a' := ?_) ?_ ?_
      rotate_left
      · show Act.put _ (some 10) _ = _
        simp only [Act.put, List.setIfInBounds_toArray, List.set_cons_zero, List.set_cons_succ, i64_w, i32_w]
        rfl
      refine two_ (i := 2) (j := 7) (Ni := some 7) (Nj := some 12) #[true, true, true, true, true, true, true, false, false, false] #[true, true, false, true, true, true, true, true, false, false] rfl rfl rfl rfl (two_of HT_.out (by kernel_rfl)) (by decide) (by decide) (fun K hK => ?_) (fun K hK => ?_)
      · refine lit_step (cs := #[.string (str nm)]) (t := 9) (k := 1) (by rfl) (by first | (go_simp; done) | (go_simp; rfl)) ?_
        intro g hg w5 hbox hb
        have KG := Aside0.mk hbox
        clear hbox hg
        replace KD := Aside0.mk ((hb.cell (World.block_lt_of_cell? _ _ KD.out)).trans KD.out)
        replace KE := Aside0.mk ((hb.cell (World.block_lt_of_cell? _ _ KE.out)).trans KE.out)
        replace HX := Aside0.mk (below_step HX.out hb)
        refine hK.out _ _ HX.out (fun hHeld => ?_)
        clear hK K hb
        refine norm_ (a' := ?_) ?_ ?_
        rotate_left
        · show Act.put _ (some 7) _ = _
          simp only [Act.put, List.setIfInBounds_toArray, List.set_cons_zero, List.set_cons_succ, i64_w, i32_w]
          rfl
        refine one_ (i := 7) (N := some 12) #[true, true, true, true, true, true, true, true, false, false] rfl rfl (one_of HT_.out (by kernel_rfl)) (by decide) (fun K hK => ?_)
        · refine goes_ Try.func51 (by kernel_rfl) rfl #[.func (.func 53) #[] #[.pointer (some ⟨bd, 0, none⟩), .pointer (some ⟨bn, 0, none⟩)]] (by rfl) rfl rfl (by first | done | rfl | (simp only [List.map_toArray, List.map_cons, List.map_nil]; rfl)) ?_
          refine (unless_at 53 #[.pointer (some ⟨bd, 0, none⟩), .pointer (some ⟨bn, 0, none⟩)] _).mono ?_
          rintro e0 w6 ⟨c, rfl, h0, hb⟩
          refine ⟨_, rfl, ?_⟩
          have KC := Aside0.mk h0
          clear h0
          replace KG := Aside0.mk (blk_below KG.out hb)
          replace KD := Aside0.mk ((hb.cell (World.block_lt_of_cell? _ _ KD.out)).trans KD.out)
          replace KE := Aside0.mk ((hb.cell (World.block_lt_of_cell? _ _ KE.out)).trans KE.out)
          replace HX := Aside0.mk (below_step HX.out hb)
          refine hK.out _ _ HX.out (fun hHeld => ?_)
          clear hK K hb
          refine norm_ ?_ (JJ.out g c d e _ ⟨HX, KG, KD, KE, KC⟩)
          show Act.put _ (some 12) _ = _
          simp only [putAll, Act.put, List.setIfInBounds_toArray, List.set_cons_zero, List.set_cons_succ]
      · refine goes_ Try.func51 (by kernel_rfl) rfl #[.func (.func 53) #[] #[.pointer (some ⟨bd, 0, none⟩), .pointer (some ⟨bn, 0, none⟩)]] (by rfl) rfl rfl (by first | done | rfl | (simp only [List.map_toArray, List.map_cons, List.map_nil]; rfl)) ?_
        refine (unless_at 53 #[.pointer (some ⟨bd, 0, none⟩), .pointer (some ⟨bn, 0, none⟩)] _).mono ?_
        rintro e0 w6 ⟨c, rfl, h0, hb⟩
        refine ⟨_, rfl, ?_⟩
        have KC := Aside0.mk h0
        clear h0
        replace KD := Aside0.mk ((hb.cell (World.block_lt_of_cell? _ _ KD.out)).trans KD.out)
        replace KE := Aside0.mk ((hb.cell (World.block_lt_of_cell? _ _ KE.out)).trans KE.out)
        replace HX := Aside0.mk (below_step HX.out hb)
        refine hK.out _ _ HX.out (fun hHeld => ?_)
        clear hK K hb
        refine norm_ (a' := ?_) ?_ ?_
        rotate_left
        · show Act.put _ (some 12) _ = _
          simp only [Act.put, List.setIfInBounds_toArray, List.set_cons_zero, List.set_cons_succ, i64_w, i32_w]
          rfl
        refine one_ (i := 2) (N := some 7) #[true, true, true, true, true, true, true, true, false, false] rfl rfl (one_of HT_.out (by kernel_rfl)) (by decide) (fun K hK => ?_)
        · refine lit_step (cs := #[.string (str nm)]) (t := 9) (k := 1) (by rfl) (by first | (go_simp; done) | (go_simp; rfl)) ?_
          intro g hg w5 hbox hb
          have KG := Aside0.mk hbox
          clear hbox hg
          replace KD := Aside0.mk ((hb.cell (World.block_lt_of_cell? _ _ KD.out)).trans KD.out)
          replace KE := Aside0.mk ((hb.cell (World.block_lt_of_cell? _ _ KE.out)).trans KE.out)
          replace KC := Aside0.mk ((hb.cell (World.block_lt_of_cell? _ _ KC.out)).trans KC.out)
          replace HX := Aside0.mk (below_step HX.out hb)
          refine hK.out _ _ HX.out (fun hHeld => ?_)
          clear hK K hb
          refine norm_ ?_ (JJ.out g c d e _ ⟨HX, KG, KD, KE, KC⟩)
          show Act.put _ (some 7) _ = _
          simp only [putAll, Act.put, List.setIfInBounds_toArray, List.set_cons_zero, List.set_cons_succ]
  rintro g c d e wx ⟨HX, KG, KD, KE, KC⟩
  refine norm_ (a' := ?_) ?_ ?_
  rotate_left
  · simp only [putAll, Act.put, List.setIfInBounds_toArray, List.set_cons_zero, List.set_cons_succ]
    rfl
  refine last_ (i := 8) (N := some 13) #[true, true, true, true, true, true, true, true, true, false] rfl rfl (one_of HT_.out (by kernel_rfl)) (by decide) (fun K hK => ?_)
  refine goes_ Try.func49 (by kernel_rfl) rfl #[.pointer (some ⟨gd, 0, none⟩), .slice (some ⟨g, 0, none⟩) 1 1, .func (.func 65) #[] #[.pointer (some ⟨d, 0, none⟩), .pointer (some ⟨e, 0, none⟩)], .func (.func 66) #[] #[.pointer (some ⟨c, 0, none⟩)]] (by rfl) rfl rfl (by first | done | rfl | (simp only [List.map_toArray, List.map_cons, List.map_nil]; rfl)) ?_
  refine (remove_core gd B gm n φ S V Af cf Ap cp nm bd bn g c d e wx (HD.out.below (below_step HB.out HX.out)) HN.out HS.out HLnm.out (blk_c' (blk_below K0.out HX.out) 0 rfl) (blk_c' (blk_below K1.out HX.out) 0 rfl) KD.out KE.out KG.out KC.out).mono ?_
  rintro e0 w7 ⟨x, rfl, hx, φ', d1, d2⟩
  refine ⟨_, rfl, ?_⟩
  refine hK.out _ _ ?_
  have HQ : Aside0 (Comes w φ B gd (removeP S nm) x w7) := ⟨⟨hx, φ', d1, (Step.of_below (below_step HB.out HX.out)).trans d2⟩⟩
  clear hK K hx d1 d2
  refine norm_ (a' := ?_) ?_ ?_
  rotate_left
  · show Act.put _ (some 13) _ = _
    simp only [Act.put, List.setIfInBounds_toArray, List.set_cons_zero, List.set_cons_succ, i64_w, i32_w]
    rfl
  refine pure_ (i := 9) (N := some 4) (v := ?_) (a' := ?_) #[true, true, true, true, true, true, true, true, true, true] rfl rfl (any_of HT_.out (by kernel_rfl)) (fun _ _ _ h => h) (Or.inl ⟨by rfl, ?_⟩) ?_ ?_
  rotate_left
  · intro w'
    go_simp
    with_reducible rfl
  rotate_left
  · simp only [Act.put, List.setIfInBounds_toArray, List.set_cons_zero, List.set_cons_succ, i64_w, i32_w]
    rfl
  refine done_ (done_of HT_.out (by kernel_rfl)) ?_
  go_wp2
  go_ret
  exact ⟨x, rfl, HQ.out⟩
def r32_1.T : Bool × List (List Nat × List Nat) := (true, [([], []), ([], []), ([1], [1]), ([], []), ([], []), ([3, 4], [3, 4]), ([], []), ([6, 5], [6]), ([0, 2, 5, 7, 7], [0, 2, 5, 7]), ([8, 8, 0, 1, 2, 3, 4, 5, 6, 7, 8], [8])])
def r32_1.B : List Nat := [0, 0, 2, 0, 0, 24, 0, 120, 255, 511]
theorem r32_1.tab : rtab .any (opsOf Try.f32 1) = r32_1.T := by kernel_rfl
theorem r32_1.bits : waitsOk r32_1.T.2 r32_1.B = true := by kernel_rfl
set_option maxHeartbeats 8000000 in
set_option maxRecDepth 100000 in
theorem sync_at (gd B : Nat) (φ : Nat → Tg) (S : DA) (nm : Nm) (w : World) (h : DAt w φ B gd S) (hS : Small S) (hnm : nm.length ≤ 1000) :
    Calls Try.prog 32 #[.pointer (some ⟨gd, 0, none⟩), .string (str nm)] w (CallPost (Comes w φ B gd (syncP S nm))) := by
  obtain ⟨gm, n, V, Af, cf, Ap, cp, hd, hn⟩ := h
  have HD := Aside0.mk hd
  have HN := Aside0.mk hn
  have HS := Aside0.mk hS
  have HLnm := Aside0.mk hnm
  have HB := Aside0.mk (Below.refl w.heap.size w)
  clear hd hn hS hnm
  go_enter Try.func32, Try.ntmps32
  go_upto_region 1 with (first | ((with_reducible refine gate_dst (N := 2) rfl ?_); refine box_event ?hg (N := 2) ?hd (cs := #[.pointer (some ⟨gd, 0, none⟩)]) (t := 28) ?hr ?_; (case hd => rfl); (case hg => rfl); (case hr => first | (go_simp; done) | (go_simp; rfl)); intro bd hg w3 hbox hb; have n_K0 := Aside0.mk hbox; have n_HB := Aside0.mk (below_step HB.out hb); clear  HB hbox hb hg; have K0 := n_K0; have HB := n_HB; clear n_K0 n_HB) | ((with_reducible refine gate_dst (N := 3) rfl ?_); refine box_event ?hg (N := 3) ?hd (cs := #[.string (str nm)]) (t := 9) ?hr ?_; (case hd => rfl); (case hg => rfl); (case hr => first | (go_simp; done) | (go_simp; rfl)); intro bn hg w3 hbox hb; have n_K1 := Aside0.mk hbox; have n_K0 := Aside0.mk (blk_below K0.out hb); have n_HB := Aside0.mk (below_step HB.out hb); clear K0 HB hbox hb hg; have K0 := n_K0; have K1 := n_K1; have HB := n_HB; clear n_K0 n_K1 n_HB))
  rename World => wN
  refine start_ (n := 10) (S := fun w' => Below wN.heap.size wN w') (ds := [8]) #[false, false, false, false, false, false, false, false, false, false] (by kernel_rfl) rfl rfl (below_drew (Below.refl _ _)) (fun hHeld => ?_)
  refine with_tabW r32_1.tab r32_1.bits (fun HT_ HW_ => ?_)
  generalize wN.drew = wd at hHeld ⊢
  refine take_ (i := 0) (N := some 5) (v := ?_) (a' := ?_) #[true, false, false, false, false, false, false, false, false, false] rfl rfl (take_ofW HT_.out HW_.out (by kernel_rfl)) (fun _ _ _ h => h) (Or.inl ⟨by rfl, ?_⟩) hHeld ?_ ?_
  rotate_left
  · rintro w' hbq
    have c_K0 := blk_c' (blk_below K0.out hbq) 0 rfl
    go_simp
    with_reducible rfl
  rotate_left
  · simp only [Act.put, List.setIfInBounds_toArray, List.set_cons_zero, List.set_cons_succ, i64_w, i32_w]
    rfl
  refine take_ (i := 1) (N := some 6) (v := ?_) (a' := ?_) #[true, true, false, false, false, false, false, false, false, false] rfl rfl (take_ofW HT_.out HW_.out (by kernel_rfl)) (fun _ _ _ h => h) (Or.inl ⟨by rfl, ?_⟩) hHeld ?_ ?_
  rotate_left
  · rintro w' hbq
    have c_K1 := blk_c' (blk_below K1.out hbq) 0 rfl
    go_simp
    with_reducible rfl
  rotate_left
  · simp only [Act.put, List.setIfInBounds_toArray, List.set_cons_zero, List.set_cons_succ, i64_w, i32_w]
    rfl
  refine take_ (i := 3) (N := some 8) (v := ?_) (a' := ?_) #[true, true, false, true, false, false, false, false, false, false] rfl rfl (take_ofW HT_.out HW_.out (by kernel_rfl)) (fun _ _ _ h => h) (Or.inl ⟨by rfl, ?_⟩) hHeld ?_ ?_
  rotate_left
  · rintro w' hbq
    have c_K0 := blk_c' (blk_below K0.out hbq) 0 rfl
    go_simp
    with_reducible rfl
  rotate_left
  · simp only [Act.put, List.setIfInBounds_toArray, List.set_cons_zero, List.set_cons_succ, i64_w, i32_w]
    rfl
  refine take_ (i := 4) (N := some 9) (v := ?_) (a' := ?_) #[true, true, false, true, true, false, false, false, false, false] rfl rfl (take_ofW HT_.out HW_.out (by kernel_rfl)) (fun _ _ _ h => h) (Or.inl ⟨by rfl, ?_⟩) hHeld ?_ ?_
  rotate_left
  · rintro w' hbq
    have c_K1 := blk_c' (blk_below K1.out hbq) 0 rfl
    go_simp
    with_reducible rfl
  rotate_left
  · simp only [Act.put, List.setIfInBounds_toArray, List.set_cons_zero, List.set_cons_succ, i64_w, i32_w]
    rfl
  refine pure_ (i := 6) (N := some 11) (v := ?_) (a' := ?_) #[true, true, false, true, true, false, true, false, false, false] rfl rfl (any_of HT_.out (by kernel_rfl)) (fun _ _ _ h => h) (Or.inl ⟨by rfl, ?_⟩) ?_ ?_
  rotate_left
  · intro w'
    go_simp
    with_reducible rfl
  rotate_left
  · simp only [Act.put, List.setIfInBounds_toArray, List.set_cons_zero, List.set_cons_succ, i64_w, i32_w]
    rfl
  refine join2 2 #[true, true, true, true, true, true, true, true, false, false] (fun g c d e => [(7, .slice (some ⟨g, 0, none⟩) 1 1), (10, .func (.func 65) #[] #[.pointer (some ⟨d, 0, none⟩), .pointer (some ⟨e, 0, none⟩)]), (12, .func (.func 66) #[] #[.pointer (some ⟨c, 0, none⟩)])]) (fun g c d e wx => Aside0 (Below wN.heap.size wN wx) ∧ Aside0 (wx.heap[g]? = some (.cells #[.string (str nm)] 9 (0, 0))) ∧ Aside0 (wx.cell? ⟨d, 0, none⟩ = some (.pointer (some ⟨gd, 0, none⟩))) ∧ Aside0 (wx.cell? ⟨e, 0, none⟩ = some (.string (str nm))) ∧ Aside0 (wx.cell? ⟨c, 0, none⟩ = some (.func (.func 57) #[] #[.pointer (some ⟨bd, 0, none⟩), .pointer (some ⟨bn, 0, none⟩)]))) ?_ (fun JJ => ?_)
  rotate_left
  · have HX := Aside0.mk hHeld
    refine two_ (i := 2) (j := 5) (Ni := some 7) (Nj := some 10) #[true, true, true, true, true, false, true, false, false, false] #[true, true, false, true, true, true, true, false, false, false] rfl rfl rfl rfl (two_of HT_.out (by kernel_rfl)) (by decide) (by decide) (fun K hK => ?_) (fun K hK => ?_)
    · refine lit_step (cs := #[.string (str nm)]) (t := 9) (k := 1) (by rfl) (by first | (go_simp; done) | (go_simp; rfl)) ?_
      intro g hg w5 hbox hb
      have KG := Aside0.mk hbox
      clear hbox hg
      replace HX := Aside0.mk (below_step HX.out hb)
      refine hK.out _ _ HX.out (fun hHeld => ?_)
      clear hK K hb
      refine norm_ (a' := ?_) ?_ ?_
      rotate_left
      · show Act.put _ (some 7) _ = _
        simp only [Act.put, List.setIfInBounds_toArray, List.set_cons_zero, List.set_cons_succ, i64_w, i32_w]
        rfl
      refine one_ (i := 5) (N := some 10) #[true, true, true, true, true, true, true, false, false, false] rfl rfl (one_of HT_.out (by kernel_rfl)) (by decide) (fun K hK => ?_)
      · refine goes_ Try.func50 (by kernel_rfl) rfl #[.pointer (some ⟨gd, 0, none⟩), .string (str nm)] (by rfl) rfl rfl (by first | done | rfl | (simp only [List.map_toArray, List.map_cons, List.map_nil]; rfl)) ?_
        refine (there_at gd (str nm) _).mono ?_
        rintro e0 w6 ⟨d, e, rfl, h0, h1, hb⟩
        refine ⟨_, rfl, ?_⟩
        have KD := Aside0.mk h0
        have KE := Aside0.mk h1
        clear h0 h1
        replace KG := Aside0.mk (blk_below KG.out hb)
        replace HX := Aside0.mk (below_step HX.out hb)
        refine hK.out _ _ HX.out (fun hHeld => ?_)
        clear hK K hb
        refine norm_ (a' := ?_) ?_ ?_
        rotate_left
        · show Act.put _ (some 10) _ = _
          simp only [Act.put, List.setIfInBounds_toArray, List.set_cons_zero, List.set_cons_succ, i64_w, i32_w]
          rfl
        refine one_ (i := 7) (N := some 12) #[true, true, true, true, true, true, true, true, false, false] rfl rfl (one_of HT_.out (by kernel_rfl)) (by decide) (fun K hK => ?_)
        · refine goes_ Try.func51 (by kernel_rfl) rfl #[.func (.func 57) #[] #[.pointer (some ⟨bd, 0, none⟩), .pointer (some ⟨bn, 0, none⟩)]] (by rfl) rfl rfl (by first | done | rfl | (simp only [List.map_toArray, List.map_cons, List.map_nil]; rfl)) ?_
          refine (unless_at 57 #[.pointer (some ⟨bd, 0, none⟩), .pointer (some ⟨bn, 0, none⟩)] _).mono ?_
          rintro e0 w6 ⟨c, rfl, h0, hb⟩
          refine ⟨_, rfl, ?_⟩
          have KC := Aside0.mk h0
          clear h0
          replace KG := Aside0.mk (blk_below KG.out hb)
          replace KD := Aside0.mk ((hb.cell (World.block_lt_of_cell? _ _ KD.out)).trans KD.out)
          replace KE := Aside0.mk ((hb.cell (World.block_lt_of_cell? _ _ KE.out)).trans KE.out)
          replace HX := Aside0.mk (below_step HX.out hb)
          refine hK.out _ _ HX.out (fun hHeld => ?_)
          clear hK K hb
          refine norm_ ?_ (JJ.out g c d e _ ⟨HX, KG, KD, KE, KC⟩)
          show Act.put _ (some 12) _ = _
          simp only [putAll, Act.put, List.setIfInBounds_toArray, List.set_cons_zero, List.set_cons_succ]
    · refine goes_ Try.func50 (by kernel_rfl) rfl #[.pointer (some ⟨gd, 0, none⟩), .string (str nm)] (by rfl) rfl rfl (by first | done | rfl | (simp only [List.map_toArray, List.map_cons, List.map_nil]; rfl)) ?_
      refine (there_at gd (str nm) _).mono ?_
      rintro e0 w6 ⟨d, e, rfl, h0, h1, hb⟩
      refine ⟨_, rfl, ?_⟩
      have KD := Aside0.mk h0
      have KE := Aside0.mk h1
      clear h0 h1
      replace HX := Aside0.mk (below_step HX.out hb)
      refine hK.out _ _ HX.out (fun hHeld => ?_)
      clear hK K hb
      refine norm_ (a' := ?_) ?_ ?_
      rotate_left
      · show Act.put _ (some 10) _ = _
        simp only [Act.put, List.setIfInBounds_toArray, List.set_cons_zero, List.set_cons_succ, i64_w, i32_w]
        rfl
      refine two_ (i := 2) (j := 7) (Ni := some 7) (Nj := some 12) #[true, true, true, true, true, true, true, false, false, false] #[true, true, false, true, true, true, true, true, false, false] rfl rfl rfl rfl (two_of HT_.out (by kernel_rfl)) (by decide) (by decide) (fun K hK => ?_) (fun K hK => ?_)
      · refine lit_step (cs := #[.string (str nm)]) (t := 9) (k := 1) (by rfl) (by first | (go_simp; done) | (go_simp; rfl)) ?_
        intro g hg w5 hbox hb
        have KG := Aside0.mk hbox
        clear hbox hg
        replace KD := Aside0.mk ((hb.cell (World.block_lt_of_cell? _ _ KD.out)).trans KD.out)
        replace KE := Aside0.mk ((hb.cell (World.block_lt_of_cell? _ _ KE.out)).trans KE.out)
        replace HX := Aside0.mk (below_step HX.out hb)
        refine hK.out _ _ HX.out (fun hHeld => ?_)
        clear hK K hb
        refine norm_ (a' := ?_) ?_ ?_
        rotate_left
        · show Act.put _ (some 7) _ = _
          simp only [Act.put, List.setIfInBounds_toArray, List.set_cons_zero, List.set_cons_succ, i64_w, i32_w]
          rfl
        refine one_ (i := 7) (N := some 12) #[true, true, true, true, true, true, true, true, false, false] rfl rfl (one_of HT_.out (by kernel_rfl)) (by decide) (fun K hK => ?_)
        · refine goes_ Try.func51 (by kernel_rfl) rfl #[.func (.func 57) #[] #[.pointer (some ⟨bd, 0, none⟩), .pointer (some ⟨bn, 0, none⟩)]] (by rfl) rfl rfl (by first | done | rfl | (simp only [List.map_toArray, List.map_cons, List.map_nil]; rfl)) ?_
          refine (unless_at 57 #[.pointer (some ⟨bd, 0, none⟩), .pointer (some ⟨bn, 0, none⟩)] _).mono ?_
          rintro e0 w6 ⟨c, rfl, h0, hb⟩
          refine ⟨_, rfl, ?_⟩
          have KC := Aside0.mk h0
          clear h0
          replace KG := Aside0.mk (blk_below KG.out hb)
          replace KD := Aside0.mk ((hb.cell (World.block_lt_of_cell? _ _ KD.out)).trans KD.out)
          replace KE := Aside0.mk ((hb.cell (World.block_lt_of_cell? _ _ KE.out)).trans KE.out)
          replace HX := Aside0.mk (below_step HX.out hb)
          refine hK.out _ _ HX.out (fun hHeld => ?_)
          clear hK K hb
          refine norm_ ?_ (JJ.out g c d e _ ⟨HX, KG, KD, KE, KC⟩)
          show Act.put _ (some 12) _ = _
          simp only [putAll, Act.put, List.setIfInBounds_toArray, List.set_cons_zero, List.set_cons_succ]
      · refine goes_ Try.func51 (by kernel_rfl) rfl #[.func (.func 57) #[] #[.pointer (some ⟨bd, 0, none⟩), .pointer (some ⟨bn, 0, none⟩)]] (by rfl) rfl rfl (by first | done | rfl | (simp only [List.map_toArray, List.map_cons, List.map_nil]; rfl)) ?_
        refine (unless_at 57 #[.pointer (some ⟨bd, 0, none⟩), .pointer (some ⟨bn, 0, none⟩)] _).mono ?_
        rintro e0 w6 ⟨c, rfl, h0, hb⟩
        refine ⟨_, rfl, ?_⟩
        have KC := Aside0.mk h0
        clear h0
        replace KD := Aside0.mk ((hb.cell (World.block_lt_of_cell? _ _ KD.out)).trans KD.out)
        replace KE := Aside0.mk ((hb.cell (World.block_lt_of_cell? _ _ KE.out)).trans KE.out)
        replace HX := Aside0.mk (below_step HX.out hb)
        refine hK.out _ _ HX.out (fun hHeld => ?_)
        clear hK K hb
        refine norm_ (a' := ?_) ?_ ?_
        rotate_left
        · show Act.put _ (some 12) _ = _
          simp only [Act.put, List.setIfInBounds_toArray, List.set_cons_zero, List.set_cons_succ, i64_w, i32_w]
          rfl
        refine one_ (i := 2) (N := some 7) #[true, true, true, true, true, true, true, true, false, false] rfl rfl (one_of HT_.out (by kernel_rfl)) (by decide) (fun K hK => ?_)
        · refine lit_step (cs := #[.string (str nm)]) (t := 9) (k := 1) (by rfl) (by first | (go_simp; done) | (go_simp; rfl)) ?_
          intro g hg w5 hbox hb
          have KG := Aside0.mk hbox
          clear hbox hg
          replace KD := Aside0.mk ((hb.cell (World.block_lt_of_cell? _ _ KD.out)).trans KD.out)
          replace KE := Aside0.mk ((hb.cell (World.block_lt_of_cell? _ _ KE.out)).trans KE.out)
          replace KC := Aside0.mk ((hb.cell (World.block_lt_of_cell? _ _ KC.out)).trans KC.out)
          replace HX := Aside0.mk (below_step HX.out hb)
          refine hK.out _ _ HX.out (fun hHeld => ?_)
          clear hK K hb
          refine norm_ ?_ (JJ.out g c d e _ ⟨HX, KG, KD, KE, KC⟩)
          show Act.put _ (some 7) _ = _
          simp only [putAll, Act.put, List.setIfInBounds_toArray, List.set_cons_zero, List.set_cons_succ]
  rintro g c d e wx ⟨HX, KG, KD, KE, KC⟩
  refine norm_ (a' := ?_) ?_ ?_
  rotate_left
  · simp only [putAll, Act.put, List.setIfInBounds_toArray, List.set_cons_zero, List.set_cons_succ]
    rfl
  refine last_ (i := 8) (N := some 13) #[true, true, true, true, true, true, true, true, true, false] rfl rfl (one_of HT_.out (by kernel_rfl)) (by decide) (fun K hK => ?_)
  refine goes_ Try.func49 (by kernel_rfl) rfl #[.pointer (some ⟨gd, 0, none⟩), .slice (some ⟨g, 0, none⟩) 1 1, .func (.func 65) #[] #[.pointer (some ⟨d, 0, none⟩), .pointer (some ⟨e, 0, none⟩)], .func (.func 66) #[] #[.pointer (some ⟨c, 0, none⟩)]] (by rfl) rfl rfl (by first | done | rfl | (simp only [List.map_toArray, List.map_cons, List.map_nil]; rfl)) ?_
  refine (sync_core gd B gm n φ S V Af cf Ap cp nm bd bn g c d e wx (HD.out.below (below_step HB.out HX.out)) HN.out HS.out HLnm.out (blk_c' (blk_below K0.out HX.out) 0 rfl) (blk_c' (blk_below K1.out HX.out) 0 rfl) KD.out KE.out KG.out KC.out).mono ?_
  rintro e0 w7 ⟨x, rfl, hx, φ', d1, d2⟩
  refine ⟨_, rfl, ?_⟩
  refine hK.out _ _ ?_
  have HQ : Aside0 (Comes w φ B gd (syncP S nm) x w7) := ⟨⟨hx, φ', d1, (Step.of_below (below_step HB.out HX.out)).trans d2⟩⟩
  clear hK K hx d1 d2
  refine norm_ (a' := ?_) ?_ ?_
  rotate_left
  · show Act.put _ (some 13) _ = _
    simp only [Act.put, List.setIfInBounds_toArray, List.set_cons_zero, List.set_cons_succ, i64_w, i32_w]
    rfl
  refine pure_ (i := 9) (N := some 4) (v := ?_) (a' := ?_) #[true, true, true, true, true, true, true, true, true, true] rfl rfl (any_of HT_.out (by kernel_rfl)) (fun _ _ _ h => h) (Or.inl ⟨by rfl, ?_⟩) ?_ ?_
  rotate_left
  · intro w'
    go_simp
    with_reducible rfl
  rotate_left
  · simp only [Act.put, List.setIfInBounds_toArray, List.set_cons_zero, List.set_cons_succ, i64_w, i32_w]
    rfl
  refine done_ (done_of HT_.out (by kernel_rfl)) ?_
  go_wp2
  go_ret
  exact ⟨x, rfl, HQ.out⟩
def r26_1.T : Bool × List (List Nat × List Nat) := (true, [([], []), ([], []), ([], []), ([1, 2], [1, 2]), ([], []), ([], []), ([4, 5], [4, 5]), ([], []), ([7, 6], [7]), ([0, 3, 6, 8, 8], [0, 3, 6, 8]), ([9, 9, 0, 1, 2, 3, 4, 5, 6, 7, 8, 9], [9])])
def r26_1.B : List Nat := [0, 0, 0, 6, 0, 0, 48, 0, 240, 511, 1023]
theorem r26_1.tab : rtab .any (opsOf Try.f26 1) = r26_1.T := by kernel_rfl
theorem r26_1.bits : waitsOk r26_1.T.2 r26_1.B = true := by kernel_rfl
set_option maxHeartbeats 8000000 in
set_option maxRecDepth 100000 in
theorem rename_at (gd B : Nat) (φ : Nat → Tg) (S : DA) (old nm : Nm) (w : World) (h : DAt w φ B gd S) (hS : Small S) (hold : old.length ≤ 1000) (hnm : nm.length ≤ 1000) :
    Calls Try.prog 26 #[.pointer (some ⟨gd, 0, none⟩), .string (str old), .string (str nm)] w (CallPost (Comes w φ B gd (renameP S old nm))) := by
  obtain ⟨gm, n, V, Af, cf, Ap, cp, hd, hn⟩ := h
  have HD := Aside0.mk hd
  have HN := Aside0.mk hn
  have HS := Aside0.mk hS
  have HLold := Aside0.mk hold
  have HLnm := Aside0.mk hnm
  have HB := Aside0.mk (Below.refl w.heap.size w)
  clear hd hn hS hold hnm
  go_enter Try.func26, Try.ntmps26
  go_upto_region 1 with (first | ((with_reducible refine gate_dst (N := 3) rfl ?_); refine box_event ?hg (N := 3) ?hd (cs := #[.pointer (some ⟨gd, 0, none⟩)]) (t := 28) ?hr ?_; (case hd => rfl); (case hg => rfl); (case hr => first | (go_simp; done) | (go_simp; rfl)); intro bd hg w3 hbox hb; have n_K0 := Aside0.mk hbox; have n_HB := Aside0.mk (below_step HB.out hb); clear  HB hbox hb hg; have K0 := n_K0; have HB := n_HB; clear n_K0 n_HB) | ((with_reducible refine gate_dst (N := 4) rfl ?_); refine box_event ?hg (N := 4) ?hd (cs := #[.string (str old)]) (t := 9) ?hr ?_; (case hd => rfl); (case hg => rfl); (case hr => first | (go_simp; done) | (go_simp; rfl)); intro bo hg w3 hbox hb; have n_K1 := Aside0.mk hbox; have n_K0 := Aside0.mk (blk_below K0.out hb); have n_HB := Aside0.mk (below_step HB.out hb); clear K0 HB hbox hb hg; have K0 := n_K0; have K1 := n_K1; have HB := n_HB; clear n_K0 n_K1 n_HB) | ((with_reducible refine gate_dst (N := 5) rfl ?_); refine box_event ?hg (N := 5) ?hd (cs := #[.string (str nm)]) (t := 9) ?hr ?_; (case hd => rfl); (case hg => rfl); (case hr => first | (go_simp; done) | (go_simp; rfl)); intro bn hg w3 hbox hb; have n_K2 := Aside0.mk hbox; have n_K0 := Aside0.mk (blk_below K0.out hb); have n_K1 := Aside0.mk (blk_below K1.out hb); have n_HB := Aside0.mk (below_step HB.out hb); clear K0 K1 HB hbox hb hg; have K0 := n_K0; have K1 := n_K1; have K2 := n_K2; have HB := n_HB; clear n_K0 n_K1 n_K2 n_HB))
  rename World => wN
  refine start_ (n := 11) (S := fun w' => Below wN.heap.size wN w') (ds := [9]) #[false, false, false, false, false, false, false, false, false, false, false] (by kernel_rfl) rfl rfl (below_drew (Below.refl _ _)) (fun hHeld => ?_)
  refine with_tabW r26_1.tab r26_1.bits (fun HT_ HW_ => ?_)
  generalize wN.drew = wd at hHeld ⊢
  refine take_ (i := 0) (N := some 7) (v := ?_) (a' := ?_) #[true, false, false, false, false, false, false, false, false, false, false] rfl rfl (take_ofW HT_.out HW_.out (by kernel_rfl)) (fun _ _ _ h => h) (Or.inl ⟨by rfl, ?_⟩) hHeld ?_ ?_
  rotate_left
  · rintro w' hbq
    have c_K0 := blk_c' (blk_below K0.out hbq) 0 rfl
    go_simp
    with_reducible rfl
  rotate_left
  · simp only [Act.put, List.setIfInBounds_toArray, List.set_cons_zero, List.set_cons_succ, i64_w, i32_w]
    rfl
  refine take_ (i := 1) (N := some 8) (v := ?_) (a' := ?_) #[true, true, false, false, false, false, false, false, false, false, false] rfl rfl (take_ofW HT_.out HW_.out (by kernel_rfl)) (fun _ _ _ h => h) (Or.inl ⟨by rfl, ?_⟩) hHeld ?_ ?_
  rotate_left
  · rintro w' hbq
    have c_K1 := blk_c' (blk_below K1.out hbq) 0 rfl
    go_simp
    with_reducible rfl
  rotate_left
  · simp only [Act.put, List.setIfInBounds_toArray, List.set_cons_zero, List.set_cons_succ, i64_w, i32_w]
    rfl
  refine take_ (i := 2) (N := some 9) (v := ?_) (a' := ?_) #[true, true, true, false, false, false, false, false, false, false, false] rfl rfl (take_ofW HT_.out HW_.out (by kernel_rfl)) (fun _ _ _ h => h) (Or.inl ⟨by rfl, ?_⟩) hHeld ?_ ?_
  rotate_left
  · rintro w' hbq
    have c_K2 := blk_c' (blk_below K2.out hbq) 0 rfl
    go_simp
    with_reducible rfl
  rotate_left
  · simp only [Act.put, List.setIfInBounds_toArray, List.set_cons_zero, List.set_cons_succ, i64_w, i32_w]
    rfl
  refine take_ (i := 4) (N := some 11) (v := ?_) (a' := ?_) #[true, true, true, false, true, false, false, false, false, false, false] rfl rfl (take_ofW HT_.out HW_.out (by kernel_rfl)) (fun _ _ _ h => h) (Or.inl ⟨by rfl, ?_⟩) hHeld ?_ ?_
  rotate_left
  · rintro w' hbq
    have c_K0 := blk_c' (blk_below K0.out hbq) 0 rfl
    go_simp
    with_reducible rfl
  rotate_left
  · simp only [Act.put, List.setIfInBounds_toArray, List.set_cons_zero, List.set_cons_succ, i64_w, i32_w]
    rfl
  refine take_ (i := 5) (N := some 12) (v := ?_) (a' := ?_) #[true, true, true, false, true, true, false, false, false, false, false] rfl rfl (take_ofW HT_.out HW_.out (by kernel_rfl)) (fun _ _ _ h => h) (Or.inl ⟨by rfl, ?_⟩) hHeld ?_ ?_
  rotate_left
  · rintro w' hbq
    have c_K1 := blk_c' (blk_below K1.out hbq) 0 rfl
    go_simp
    with_reducible rfl
  rotate_left
  · simp only [Act.put, List.setIfInBounds_toArray, List.set_cons_zero, List.set_cons_succ, i64_w, i32_w]
    rfl
  refine pure_ (i := 7) (N := some 14) (v := ?_) (a' := ?_) #[true, true, true, false, true, true, false, true, false, false, false] rfl rfl (any_of HT_.out (by kernel_rfl)) (fun _ _ _ h => h) (Or.inl ⟨by rfl, ?_⟩) ?_ ?_
  rotate_left
  · intro w'
    go_simp
    with_reducible rfl
  rotate_left
  · simp only [Act.put, List.setIfInBounds_toArray, List.set_cons_zero, List.set_cons_succ, i64_w, i32_w]
    rfl
  refine join2 2 #[true, true, true, true, true, true, true, true, true, false, false] (fun g c d e => [(10, .slice (some ⟨g, 0, none⟩) 2 2), (13, .func (.func 65) #[] #[.pointer (some ⟨d, 0, none⟩), .pointer (some ⟨e, 0, none⟩)]), (15, .func (.func 66) #[] #[.pointer (some ⟨c, 0, none⟩)])]) (fun g c d e wx => Aside0 (Below wN.heap.size wN wx) ∧ Aside0 (wx.heap[g]? = some (.cells #[.string (str old), .string (str nm)] 9 (0, 0))) ∧ Aside0 (wx.cell? ⟨d, 0, none⟩ = some (.pointer (some ⟨gd, 0, none⟩))) ∧ Aside0 (wx.cell? ⟨e, 0, none⟩ = some (.string (str old))) ∧ Aside0 (wx.cell? ⟨c, 0, none⟩ = some (.func (.func 52) #[] #[.pointer (some ⟨bd, 0, none⟩), .pointer (some ⟨bo, 0, none⟩), .pointer (some ⟨bn, 0, none⟩)]))) ?_ (fun JJ => ?_)
  rotate_left
  · have HX := Aside0.mk hHeld
    refine two_ (i := 3) (j := 6) (Ni := some 10) (Nj := some 13) #[true, true, true, true, true, true, false, true, false, false, false] #[true, true, true, false, true, true, true, true, false, false, false] rfl rfl rfl rfl (two_of HT_.out (by kernel_rfl)) (by decide) (by decide) (fun K hK => ?_) (fun K hK => ?_)
    · refine lit_step (cs := #[.string (str old), .string (str nm)]) (t := 9) (k := 2) (by rfl) (by first | (go_simp; done) | (go_simp; rfl)) ?_
      intro g hg w5 hbox hb
      have KG := Aside0.mk hbox
      clear hbox hg
      replace HX := Aside0.mk (below_step HX.out hb)
      refine hK.out _ _ HX.out (fun hHeld => ?_)
      clear hK K hb
      refine norm_ (a' := ?_) ?_ ?_
      rotate_left
      · show Act.put _ (some 10) _ = _
        simp only [Act.put, List.setIfInBounds_toArray, List.set_cons_zero, List.set_cons_succ, i64_w, i32_w]
        rfl
      refine one_ (i := 6) (N := some 13) #[true, true, true, true, true, true, true, true, false, false, false] rfl rfl (one_of HT_.out (by kernel_rfl)) (by decide) (fun K hK => ?_)
      · refine goes_ Try.func50 (by kernel_rfl) rfl #[.pointer (some ⟨gd, 0, none⟩), .string (str old)] (by rfl) rfl rfl (by first | done | rfl | (simp only [List.map_toArray, List.map_cons, List.map_nil]; rfl)) ?_
        refine (there_at gd (str old) _).mono ?_
        rintro e0 w6 ⟨d, e, rfl, h0, h1, hb⟩
        refine ⟨_, rfl, ?_⟩
        have KD := Aside0.mk h0
        have KE := Aside0.mk h1
        clear h0 h1
        replace KG := Aside0.mk (blk_below KG.out hb)
        replace HX := Aside0.mk (below_step HX.out hb)
        refine hK.out _ _ HX.out (fun hHeld => ?_)
        clear hK K hb
        refine norm_ (a' := ?_) ?_ ?_
        rotate_left
        · show Act.put _ (some 13) _ = _
          simp only [Act.put, List.setIfInBounds_toArray, List.set_cons_zero, List.set_cons_succ, i64_w, i32_w]
          rfl
        refine one_ (i := 8) (N := some 15) #[true, true, true, true, true, true, true, true, true, false, false] rfl rfl (one_of HT_.out (by kernel_rfl)) (by decide) (fun K hK => ?_)
        · refine goes_ Try.func51 (by kernel_rfl) rfl #[.func (.func 52) #[] #[.pointer (some ⟨bd, 0, none⟩), .pointer (some ⟨bo, 0, none⟩), .pointer (some ⟨bn, 0, none⟩)]] (by rfl) rfl rfl (by first | done | rfl | (simp only [List.map_toArray, List.map_cons, List.map_nil]; rfl)) ?_
          refine (unless_at 52 #[.pointer (some ⟨bd, 0, none⟩), .pointer (some ⟨bo, 0, none⟩), .pointer (some ⟨bn, 0, none⟩)] _).mono ?_
          rintro e0 w6 ⟨c, rfl, h0, hb⟩
          refine ⟨_, rfl, ?_⟩
          have KC := Aside0.mk h0
          clear h0
          replace KG := Aside0.mk (blk_below KG.out hb)
          replace KD := Aside0.mk ((hb.cell (World.block_lt_of_cell? _ _ KD.out)).trans KD.out)
          replace KE := Aside0.mk ((hb.cell (World.block_lt_of_cell? _ _ KE.out)).trans KE.out)
          replace HX := Aside0.mk (below_step HX.out hb)
          refine hK.out _ _ HX.out (fun hHeld => ?_)
          clear hK K hb
          refine norm_ ?_ (JJ.out g c d e _ ⟨HX, KG, KD, KE, KC⟩)
          show Act.put _ (some 15) _ = _
          simp only [putAll, Act.put, List.setIfInBounds_toArray, List.set_cons_zero, List.set_cons_succ]
    · refine goes_ Try.func50 (by kernel_rfl) rfl #[.pointer (some ⟨gd, 0, none⟩), .string (str old)] (by rfl) rfl rfl (by first | done | rfl | (simp only [List.map_toArray, List.map_cons, List.map_nil]; rfl)) ?_
      refine (there_at gd (str old) _).mono ?_
      rintro e0 w6 ⟨d, e, rfl, h0, h1, hb⟩
      refine ⟨_, rfl, ?_⟩
      have KD := Aside0.mk h0
      have KE := Aside0.mk h1
      clear h0 h1
      replace HX := Aside0.mk (below_step HX.out hb)
      refine hK.out _ _ HX.out (fun hHeld => ?_)
      clear hK K hb
      refine norm_ (a' := ?_) ?_ ?_
      rotate_left
      · show Act.put _ (some 13) _ = _
        simp only [Act.put, List.setIfInBounds_toArray, List.set_cons_zero, List.set_cons_succ, i64_w, i32_w]
        rfl
      refine two_ (i := 3) (j := 8) (Ni := some 10) (Nj := some 15) #[true, true, true, true, true, true, true, true, false, false, false] #[true, true, true, false, true, true, true, true, true, false, false] rfl rfl rfl rfl (two_of HT_.out (by kernel_rfl)) (by decide) (by decide) (fun K hK => ?_) (fun K hK => ?_)
      · refine lit_step (cs := #[.string (str old), .string (str nm)]) (t := 9) (k := 2) (by rfl) (by first | (go_simp; done) | (go_simp; rfl)) ?_
        intro g hg w5 hbox hb
        have KG := Aside0.mk hbox
        clear hbox hg
        replace KD := Aside0.mk ((hb.cell (World.block_lt_of_cell? _ _ KD.out)).trans KD.out)
        replace KE := Aside0.mk ((hb.cell (World.block_lt_of_cell? _ _ KE.out)).trans KE.out)
        replace HX := Aside0.mk (below_step HX.out hb)
        refine hK.out _ _ HX.out (fun hHeld => ?_)
        clear hK K hb
        refine norm_ (a' := ?_) ?_ ?_
        rotate_left
        · show Act.put _ (some 10) _ = _
          simp only [Act.put, List.setIfInBounds_toArray, List.set_cons_zero, List.set_cons_succ, i64_w, i32_w]
          rfl
        refine one_ (i := 8) (N := some 15) #[true, true, true, true, true, true, true, true, true, false, false] rfl rfl (one_of HT_.out (by kernel_rfl)) (by decide) (fun K hK => ?_)
        · refine goes_ Try.func51 (by kernel_rfl) rfl #[.func (.func 52) #[] #[.pointer (some ⟨bd, 0, none⟩), .pointer (some ⟨bo, 0, none⟩), .pointer (some ⟨bn, 0, none⟩)]] (by rfl) rfl rfl (by first | done | rfl | (simp only [List.map_toArray, List.map_cons, List.map_nil]; rfl)) ?_
          refine (unless_at 52 #[.pointer (some ⟨bd, 0, none⟩), .pointer (some ⟨bo, 0, none⟩), .pointer (some ⟨bn, 0, none⟩)] _).mono ?_
          rintro e0 w6 ⟨c, rfl, h0, hb⟩
          refine ⟨_, rfl, ?_⟩
          have KC := Aside0.mk h0
          clear h0
          replace KG := Aside0.mk (blk_below KG.out hb)
          replace KD := Aside0.mk ((hb.cell (World.block_lt_of_cell? _ _ KD.out)).trans KD.out)
          replace KE := Aside0.mk ((hb.cell (World.block_lt_of_cell? _ _ KE.out)).trans KE.out)
          replace HX := Aside0.mk (below_step HX.out hb)
          refine hK.out _ _ HX.out (fun hHeld => ?_)
          clear hK K hb
          refine norm_ ?_ (JJ.out g c d e _ ⟨HX, KG, KD, KE, KC⟩)
          show Act.put _ (some 15) _ = _
          simp only [putAll, Act.put, List.setIfInBounds_toArray, List.set_cons_zero, List.set_cons_succ]
      · refine goes_ Try.func51 (by kernel_rfl) rfl #[.func (.func 52) #[] #[.pointer (some ⟨bd, 0, none⟩), .pointer (some ⟨bo, 0, none⟩), .pointer (some ⟨bn, 0, none⟩)]] (by rfl) rfl rfl (by first | done | rfl | (simp only [List.map_toArray, List.map_cons, List.map_nil]; rfl)) ?_
        refine (unless_at 52 #[.pointer (some ⟨bd, 0, none⟩), .pointer (some ⟨bo, 0, none⟩), .pointer (some ⟨bn, 0, none⟩)] _).mono ?_
        rintro e0 w6 ⟨c, rfl, h0, hb⟩
        refine ⟨_, rfl, ?_⟩
        have KC := Aside0.mk h0
        clear h0
        replace KD := Aside0.mk ((hb.cell (World.block_lt_of_cell? _ _ KD.out)).trans KD.out)
        replace KE := Aside0.mk ((hb.cell (World.block_lt_of_cell? _ _ KE.out)).trans KE.out)
        replace HX := Aside0.mk (below_step HX.out hb)
        refine hK.out _ _ HX.out (fun hHeld => ?_)
        clear hK K hb
        refine norm_ (a' := ?_) ?_ ?_
        rotate_left
        · show Act.put _ (some 15) _ = _
          simp only [Act.put, List.setIfInBounds_toArray, List.set_cons_zero, List.set_cons_succ, i64_w, i32_w]
          rfl
        refine one_ (i := 3) (N := some 10) #[true, true, true, true, true, true, true, true, true, false, false] rfl rfl (one_of HT_.out (by kernel_rfl)) (by decide) (fun K hK => ?_)
        · refine lit_step (cs := #[.string (str old), .string (str nm)]) (t := 9) (k := 2) (by rfl) (by first | (go_simp; done) | (go_simp; rfl)) ?_
          intro g hg w5 hbox hb
          have KG := Aside0.mk hbox
          clear hbox hg
          replace KD := Aside0.mk ((hb.cell (World.block_lt_of_cell? _ _ KD.out)).trans KD.out)
          replace KE := Aside0.mk ((hb.cell (World.block_lt_of_cell? _ _ KE.out)).trans KE.out)
          replace KC := Aside0.mk ((hb.cell (World.block_lt_of_cell? _ _ KC.out)).trans KC.out)
          replace HX := Aside0.mk (below_step HX.out hb)
          refine hK.out _ _ HX.out (fun hHeld => ?_)
          clear hK K hb
          refine norm_ ?_ (JJ.out g c d e _ ⟨HX, KG, KD, KE, KC⟩)
          show Act.put _ (some 10) _ = _
          simp only [putAll, Act.put, List.setIfInBounds_toArray, List.set_cons_zero, List.set_cons_succ]
  rintro g c d e wx ⟨HX, KG, KD, KE, KC⟩
  refine norm_ (a' := ?_) ?_ ?_
  rotate_left
  · simp only [putAll, Act.put, List.setIfInBounds_toArray, List.set_cons_zero, List.set_cons_succ]
    rfl
  refine last_ (i := 9) (N := some 16) #[true, true, true, true, true, true, true, true, true, true, false] rfl rfl (one_of HT_.out (by kernel_rfl)) (by decide) (fun K hK => ?_)
  refine goes_ Try.func49 (by kernel_rfl) rfl #[.pointer (some ⟨gd, 0, none⟩), .slice (some ⟨g, 0, none⟩) 2 2, .func (.func 65) #[] #[.pointer (some ⟨d, 0, none⟩), .pointer (some ⟨e, 0, none⟩)], .func (.func 66) #[] #[.pointer (some ⟨c, 0, none⟩)]] (by rfl) rfl rfl (by first | done | rfl | (simp only [List.map_toArray, List.map_cons, List.map_nil]; rfl)) ?_
  refine (rename_core gd B gm n φ S V Af cf Ap cp old nm bd bo bn g c d e wx (HD.out.below (below_step HB.out HX.out)) HN.out HS.out HLold.out HLnm.out (blk_c' (blk_below K0.out HX.out) 0 rfl) (blk_c' (blk_below K1.out HX.out) 0 rfl) (blk_c' (blk_below K2.out HX.out) 0 rfl) KD.out KE.out KG.out KC.out).mono ?_
  rintro e0 w7 ⟨x, rfl, hx, φ', d1, d2⟩
  refine ⟨_, rfl, ?_⟩
  refine hK.out _ _ ?_
  have HQ : Aside0 (Comes w φ B gd (renameP S old nm) x w7) := ⟨⟨hx, φ', d1, (Step.of_below (below_step HB.out HX.out)).trans d2⟩⟩
  clear hK K hx d1 d2
  refine norm_ (a' := ?_) ?_ ?_
  rotate_left
  · show Act.put _ (some 16) _ = _
    simp only [Act.put, List.setIfInBounds_toArray, List.set_cons_zero, List.set_cons_succ, i64_w, i32_w]
    rfl
  refine pure_ (i := 10) (N := some 6) (v := ?_) (a' := ?_) #[true, true, true, true, true, true, true, true, true, true, true] rfl rfl (any_of HT_.out (by kernel_rfl)) (fun _ _ _ h => h) (Or.inl ⟨by rfl, ?_⟩) ?_ ?_
  rotate_left
  · intro w'
    go_simp
    with_reducible rfl
  rotate_left
  · simp only [Act.put, List.setIfInBounds_toArray, List.set_cons_zero, List.set_cons_succ, i64_w, i32_w]
    rfl
  refine done_ (done_of HT_.out (by kernel_rfl)) ?_
  go_wp2
  go_ret
  exact ⟨x, rfl, HQ.out⟩
end Go.Proofs.Yteibdmpjlpcgbaa.XDisk
