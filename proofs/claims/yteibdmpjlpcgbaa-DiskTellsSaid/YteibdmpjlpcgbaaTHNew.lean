/- New and Copy of the given program's disk. -/
import Derived.Test.YteibdmpjlpcgbaaTHCrash
namespace Go.Proofs.Yteibdmpjlpcgbaa.XDisk
open Go Go.RowKit Go.Proofs.YteibdmpjlpcgbaaW.PrintWords Go.Proofs.YteibdmpjlpcgbaaW.PrintLast Go.Proofs.YteibdmpjlpcgbaaW.PrintMore
open Go.Proofs.Yteibdmpjlpcgbaa
set_option linter.unusedVariables false
set_option linter.unusedSimpArgs false
attribute [local go_sem] max_run min_run
def newP (cap : Int) (fs ps : List Int) : DA := ⟨max cap 0, fs, ps, 0, []⟩
theorem mkmap_step {ops : Array Oper} {o : Oper} {a : Act} {Q : Exit → Act → World → Prop} {Kc : Act → World → Prop} {W : World} (hw : Region.wanted o (yielded ops a.tmps) = true)
    (hrun : (execOp a.eval o).run Try.prog W = .ok (.value (.map (some W.heap.size))) (W.alloc (.map #[] 0)))
    (h : ∀ g, g = W.heap.size → ∀ w1, w1 = W.alloc (.map #[] 0) → Below W.heap.size W w1 → Kc (a.put o.dst (.map (some g))) w1) : if Region.wanted o (yielded ops a.tmps) = true then Oper.wp Try.prog o a W Kc Q else Kc (a.put o.dst undef) W :=
  event_step hw hrun (h _ rfl _ rfl (below_alloc (Below.refl _ _) _))
/-- Rising lists that tell the same are the same. -/
theorem rising_ext : ∀ {l l' : List (Nm × FA)}, Rising l → Rising l' → (∀ nm, get l nm = get l' nm) → l = l'
  | [], [], _, _, _ => rfl
  | [], q :: t, _, h2, h => by
    have h1 := h q.1
    rw [mem_get h2 (f := q.2) List.mem_cons_self] at h1
    cases h1
  | p :: t, [], h1, _, h => by
    have h2 := h p.1
    rw [mem_get h1 (f := p.2) List.mem_cons_self] at h2
    cases h2
  | p :: t, q :: t', h1, h2, h => by
    have hp : get (q :: t') p.1 = some p.2 := (h p.1).symm.trans (mem_get h1 List.mem_cons_self)
    have hq : get (p :: t) q.1 = some q.2 := (h q.1).trans (mem_get h2 List.mem_cons_self)
    have r1 := h1
    have r2 := h2
    unfold Rising at r1 r2
    rw [List.pairwise_cons] at r1 r2
    have e : p = q := by
      rcases List.mem_cons.1 (get_mem hp) with e | m1
      · exact e
      · rcases List.mem_cons.1 (get_mem hq) with e | m2
        · exact e.symm
        · exact absurd (r1.1 _ m2) (lt_no (r2.1 _ m1))
    subst e
    congr 1
    refine rising_ext r1.2 r2.2 (fun nm => ?_)
    by_cases e : p.1 = nm
    · have n1 : get t nm = none := by
        cases hg : get t nm with
        | none => rfl
        | some f => exact absurd (r1.1 _ (get_mem hg)) (by rw [e]; exact List.lt_irrefl nm)
      have n2 : get t' nm = none := by
        cases hg : get t' nm with
        | none => rfl
        | some f => exact absurd (r2.1 _ (get_mem hg)) (by rw [e]; exact List.lt_irrefl nm)
      rw [n1, n2]
    · have h3 := h nm
      have x : ∀ l : List (Nm × FA), get (p :: l) nm = get l nm := fun l => by simp [get, e]
      rw [x, x] at h3
      exact h3
/-- A file is added, whose bytes are new. -/
theorem DIn.add {W W' : World} {φ : Nat → Tg} {B gd : Nat} {S : DA} {gm n : Nat} {V : Nm → Nat} {Af : Option Addr} {cf : Nat} {Ap : Option Addr} {cp : Nat} (h : DIn W φ B gd S gm n V Af cf Ap cp) {nm : Nm} {f : FA} {g : Nat} {A : Option Addr} {c : Nat} (hg : W.heap.size ≤ g) (hn : get S.files nm = none)
    (ho : HStrMap.Owns m69 W' gm (n + 1) ((str nm, .pointer (some ⟨g, 0, none⟩)) :: HStrMap.without (mapL S.files V) (str nm))) (hb : W'.heap[g]? = some (.cells #[.slice A f.b.length c, .int .i64 f.safe] 82 (0, 0))) (hr : Kd.R (Kd.int .u8) 5 W' W.heap.size (fun _ => True) (.slice A f.b.length c) f.b) (hc : Chg W W' (fun k => k = gm)) :
    ∃ φ', DIn W' φ' B gd { S with files := put nm f S.files } gm (n + 1) (fun m => if m = nm then g else V m) Af cf Ap cp ∧ Step W W' φ φ' := by
  have hB : B ≤ W.heap.size := h.bound
  have hk0 : ∀ k, φ k ≠ .no → k ≠ gm → W'.heap[k]? = W.heap[k]? := fun k hk hne => hc.block k (h.dom k hk).2 hne
  obtain ⟨ψ, hψ⟩ : ∃ ψ : Nat → Tg, ψ = fun k => if W.heap.size ≤ k ∧ k < W'.heap.size then Tg.file nm else φ k := ⟨_, rfl⟩
  have old : ∀ k, φ k ≠ .no → ψ k = φ k := fun k hk => by
    rw [hψ]
    show (if _ then _ else _) = _
    exact if_neg (fun q => absurd q.1 (Nat.not_le.2 (h.dom k hk).2))
  have new : ∀ k, W.heap.size ≤ k → k < W'.heap.size → ψ k = .file nm := fun k h1 h2 => by
    rw [hψ]
    show (if _ then _ else _) = _
    exact if_pos ⟨h1, h2⟩
  have hd : ∀ k, φ k = .disk → ψ k = .disk := fun k hk => (old k (by rw [hk]; intro e; cases e)).trans hk
  obtain ⟨r1, r2⟩ := h.rows (W' := W') hd (fun k hk hne => hk0 k (by rw [hk]; intro e; cases e) hne)
  refine ⟨ψ, ⟨(hk0 gd (by rw [h.tgd]; intro e; cases e) h.map_ne).trans h.blk, hd gd h.tgd, hd gm h.tgm, r1, r2, ho.perm (mapL_put _ _ _ _ _), put_rising h.rise _ _, ?_, ?_⟩, hc.mono (fun k hk => by subst hk; rw [h.tgm]; intro e; cases e), ?_⟩
  · intro p hp
    rcases mem_put.1 hp with rfl | ⟨hp, hne⟩
    · show FileAt W' _ nm f (if nm = nm then g else V nm)
      rw [if_pos rfl]
      refine ⟨A, c, hb, new g hg (blk_lt hb), .inl ?_⟩
      have h1 := Kd.R_bound hr
      exact Kd.R_lower (Kd.R_mono h1 (fun k hk => new k hk.2.1 hk.2.2.1)) (Nat.zero_le _)
    · show FileAt W' _ p.1 p.2 (if p.1 = nm then g else V p.1)
      rw [if_neg hne]
      obtain ⟨A, c, f1, f2, f3⟩ := h.file p hp
      have hx : ∀ k, φ k = .file p.1 → W'.heap[k]? = W.heap[k]? := fun k hk => hk0 k (by rw [hk]; intro e; cases e) (fun e => by rw [e, h.tgm] at hk; cases hk)
      have hy : ∀ k, φ k = .file p.1 → ψ k = .file p.1 := fun k hk => (old k (by rw [hk]; intro e; cases e)).trans hk
      exact ⟨A, c, (hx _ f2).trans f1, hy _ f2, (f3.move hx).mono hy⟩
  · intro k hk
    by_cases e : W.heap.size ≤ k ∧ k < W'.heap.size
    · exact ⟨Nat.le_trans hB e.1, e.2⟩
    · have hk' : φ k ≠ .no := fun q => hk (by rw [hψ]; show (if _ then _ else _) = _; rw [if_neg e]; exact q)
      exact ⟨(h.dom k hk').1, Nat.lt_of_lt_of_le (h.dom k hk').2 hc.size⟩
  · intro k hk h0
    rw [hψ]
    show (if _ then _ else _) = _
    rw [if_neg (fun q => absurd q.1 (Nat.not_le.2 hk))]
    exact h0
def r12_1.T : Bool × List (List Nat × List Nat) := (true, [([], []), ([0], [0]), ([], []), ([2], [2]), ([3], [3]), ([], []), ([5], [5]), ([6, 4], [6]), ([4, 7], [4, 7]), ([], []), ([1, 8, 9], [1, 8, 9]), ([10], [10]), ([11, 7, 0, 1, 2, 3, 4, 5, 6, 7, 8, 9, 10, 11], [11])])
def r12_1.B : List Nat := [0, 1, 0, 4, 12, 0, 32, 124, 252, 0, 1023, 2047, 4095]
theorem r12_1.tab : rtab .any (opsOf Try.f12 1) = r12_1.T := by kernel_rfl
theorem r12_1.bits : waitsOk r12_1.T.2 r12_1.B = true := by kernel_rfl
theorem joinX {ι : Type} {P : Program} {ops : Array Oper} {Q : Exit → Act → World → Prop} {md : Region.Mode} {S : World → Prop} {ds : List Nat} {fuel : Nat} {l : Array Bool} {a : Act} {w : World} (fuel' : Nat) (l' : Array Bool) (ns : ι → List (Tmp × Value)) (F : ι → World → Prop)
    (hcont : ∀ i w', F i w' → wpAnyLast P md ops Q S ds fuel' l' (putAll a (ns i)) w')
    (h : Aside0 (∀ i w', F i w' → wpAnyLast P md ops Q S ds fuel' l' (putAll a (ns i)) w') → wpAnyLast P md ops Q S ds fuel l a w) : wpAnyLast P md ops Q S ds fuel l a w := h ⟨hcont⟩
theorem new_done {w wN wx w9 : World} {cap : Int} {fs ps : List Int} {Af Ap : Option Addr} {cf cp gm gd : Nat} (hN : Below w.heap.size w wN) (hx : Below wN.heap.size wN wx) (rf : Kd.R (Kd.int .i64) 3 wx wN.heap.size (fun _ => True) (.slice Af fs.length cf) fs) (rp : Kd.R (Kd.int .i64) 3 wx wN.heap.size (fun _ => True) (.slice Ap ps.length cp) ps)
    (ho : HStrMap.Owns m69 wx gm 0 []) (hgm : wN.heap.size ≤ gm) (hgd : gd = wx.heap.size) (hbd : w9.heap[gd]? = some (.cells #[.bool true, .int .i64 (max cap 0), .slice Af fs.length cf, .slice Ap ps.length cp, .map (some gm), .int .i64 0] 71 (0, 0))) (h9 : Below wx.heap.size wx w9) :
    ∃ gd' φ, (Ending.returned (.pointer (some ⟨gd, 0, none⟩)) : Ending) = .returned (.pointer (some ⟨gd', 0, none⟩)) ∧ DAt w9 φ w.heap.size gd' (newP cap fs ps) ∧ Below w.heap.size w w9 := by
  have hsz : w.heap.size ≤ wN.heap.size := hN.size
  have hs2 := hx.size
  have o1 : HStrMap.Owns m69 w9 gm 0 [] := ho.move (h9.block gm ho.lt)
  have key : ∀ {v : Value} {xs : List Int}, Kd.R (Kd.int .i64) 3 w9 wN.heap.size (fun _ => True) v xs → Kd.R (Kd.int .i64) 3 w9 0 (fun k => (if w.heap.size ≤ k ∧ k < w9.heap.size then Tg.disk else Tg.no) = .disk) v xs := fun {v xs} hr =>
    Kd.R_lower (Kd.R_mono (Kd.R_bound hr) (fun k hk => if_pos ⟨Nat.le_trans hsz hk.2.1, hk.2.2.1⟩)) (Nat.zero_le _)
  refine ⟨gd, fun k => if w.heap.size ≤ k ∧ k < w9.heap.size then .disk else .no, rfl, ⟨gm, 0, fun _ => 0, Af, cf, Ap, cp, ⟨hbd, if_pos ⟨by omega, blk_lt hbd⟩, if_pos ⟨by omega, o1.lt⟩, key (Kd.R_below rf h9), key (Kd.R_below rp h9), o1, List.Pairwise.nil, (fun p hp => by cases hp), fun k hk => ?_⟩, Int.le_refl _⟩, below_step hN (below_step hx h9)⟩
  by_cases e : w.heap.size ≤ k ∧ k < w9.heap.size
  · exact e
  · exact absurd (if_neg e) hk
set_option maxHeartbeats 8000000 in
set_option maxRecDepth 100000 in
theorem new_at (cap : Int) (A1 : Option Addr) (c1 : Nat) (fs : List Int) (A2 : Option Addr) (c2 : Nat) (ps : List Int) (w : World) (hr1 : Kd.C (Kd.int .i64) w A1 fs.length fs) (hc1 : fs.length ≤ c1) (hl1 : fs.length ≤ 1000000) (hr2 : Kd.C (Kd.int .i64) w A2 ps.length ps) (hc2 : ps.length ≤ c2) (hl2 : ps.length ≤ 1000000) :
    Calls Try.prog 12 #[.int .i64 cap, .agg #[.slice A1 fs.length c1, .slice A2 ps.length c2]] w fun e w' => ∃ gd φ, e = .returned (.pointer (some ⟨gd, 0, none⟩)) ∧ DAt w' φ w.heap.size gd (newP cap fs ps) ∧ Below w.heap.size w w' := by
  have HR1 := Aside0.mk hr1
  have HR2 := Aside0.mk hr2
  have HC1 := Aside0.mk hc1
  have HC2 := Aside0.mk hc2
  have HL1 := Aside0.mk hl1
  have HL2 := Aside0.mk hl2
  clear hr1 hr2 hc1 hc2 hl1 hl2
  go_enter Try.func12, Try.ntmps12
  go_upto_region 1 with (first | ((with_reducible refine gate_dst (N := 3) rfl ?_); refine box_event ?hg (N := 3) ?hd (cs := #[.slice A1 fs.length c1, .slice A2 ps.length c2]) (t := 24) ?hr ?_; (case hd => rfl); (case hg => rfl); (case hr => first | (go_simp; done) | (go_simp; rfl)); intro gb hgb wN hbox hb; have HBX := Aside0.mk hbox; have HBN := Aside0.mk hb; clear hbox hb hgb))
  refine start_ (n := 13) (S := fun w' => Below wN.heap.size wN w') (ds := [11]) #[false, false, false, false, false, false, false, false, false, false, false, false, false] (by kernel_rfl) rfl rfl (below_drew (Below.refl _ _)) (fun hHeld => ?_)
  refine with_tabW r12_1.tab r12_1.bits (fun HT_ HW_ => ?_)
  generalize wN.drew = wd at hHeld ⊢
  refine pure_ (i := 0) (N := some 5) (v := ?_) (a' := ?_) #[true, false, false, false, false, false, false, false, false, false, false, false, false] rfl rfl (any_of HT_.out (by kernel_rfl)) (fun _ _ _ h => h) (Or.inl ⟨by rfl, ?_⟩) ?_ ?_
  rotate_left
  · intro w'
    go_simp
    with_reducible rfl
  rotate_left
  · simp only [Act.put, List.setIfInBounds_toArray, List.set_cons_zero, List.set_cons_succ, i64_w, i32_w]
    rfl
  refine pure_ (i := 1) (N := some 6) (v := ?_) (a' := ?_) #[true, true, false, false, false, false, false, false, false, false, false, false, false] rfl rfl (any_of HT_.out (by kernel_rfl)) (fun _ _ _ h => h) (Or.inl ⟨by rfl, ?_⟩) ?_ ?_
  rotate_left
  · intro w'
    go_simp
    with_reducible rfl
  rotate_left
  · simp only [Act.put, List.setIfInBounds_toArray, List.set_cons_zero, List.set_cons_succ, i64_w, i32_w]
    rfl
  refine pure_ (i := 2) (N := some 7) (v := ?_) (a' := ?_) #[true, true, true, false, false, false, false, false, false, false, false, false, false] rfl rfl (any_of HT_.out (by kernel_rfl)) (fun _ _ _ h => h) (Or.inl ⟨by rfl, ?_⟩) ?_ ?_
  rotate_left
  · intro w'
    go_simp
    with_reducible rfl
  rotate_left
  · simp only [Act.put, List.setIfInBounds_toArray, List.set_cons_zero, List.set_cons_succ, i64_w, i32_w]
    rfl
  refine take_ (i := 3) (N := some 8) (v := ?_) (a' := ?_) #[true, true, true, true, false, false, false, false, false, false, false, false, false] rfl rfl (take_ofW HT_.out HW_.out (by kernel_rfl)) (fun _ _ _ h => h) (Or.inl ⟨by rfl, ?_⟩) hHeld ?_ ?_
  rotate_left
  · rintro w' hbq
    have c_b0 := blk_c' (blk_below HBX.out hbq) 0 rfl
    go_simp
    with_reducible rfl
  rotate_left
  · simp only [Act.put, List.setIfInBounds_toArray, List.set_cons_zero, List.set_cons_succ, i64_w, i32_w]
    rfl
  refine pure_ (i := 5) (N := some 10) (v := ?_) (a' := ?_) #[true, true, true, true, false, true, false, false, false, false, false, false, false] rfl rfl (any_of HT_.out (by kernel_rfl)) (fun _ _ _ h => h) (Or.inl ⟨by rfl, ?_⟩) ?_ ?_
  rotate_left
  · intro w'
    go_simp
    with_reducible rfl
  rotate_left
  · simp only [Act.put, List.setIfInBounds_toArray, List.set_cons_zero, List.set_cons_succ, i64_w, i32_w]
    rfl
  refine take_ (i := 6) (N := some 11) (v := ?_) (a' := ?_) #[true, true, true, true, false, true, true, false, false, false, false, false, false] rfl rfl (take_ofW HT_.out HW_.out (by kernel_rfl)) (fun _ _ _ h => h) (Or.inl ⟨by rfl, ?_⟩) hHeld ?_ ?_
  rotate_left
  · rintro w' hbq
    have c_b1 := blk_c' (blk_below HBX.out hbq) 1 rfl
    go_simp
    with_reducible rfl
  rotate_left
  · simp only [Act.put, List.setIfInBounds_toArray, List.set_cons_zero, List.set_cons_succ, i64_w, i32_w]
    rfl
  refine joinX (ι := Option Addr × Nat × Option Addr × Nat × Nat) 3 #[true, true, true, true, true, true, true, true, true, true, false, false, false] (fun i => [(9, .slice i.1 fs.length i.2.1), (12, .slice i.2.2.1 ps.length i.2.2.2.1), (13, .agg #[.slice i.1 fs.length i.2.1, .slice i.2.2.1 ps.length i.2.2.2.1]), (14, .map (some i.2.2.2.2))]) (fun i wx => Aside0 (Below wN.heap.size wN wx) ∧ Aside0 (Kd.R (Kd.int .i64) 3 wx wN.heap.size (fun _ => True) (.slice i.1 fs.length i.2.1) fs) ∧ Aside0 (Kd.R (Kd.int .i64) 3 wx wN.heap.size (fun _ => True) (.slice i.2.2.1 ps.length i.2.2.2.1) ps) ∧ Aside0 (HStrMap.Owns m69 wx i.2.2.2.2 0 []) ∧ Aside0 (wN.heap.size ≤ i.2.2.2.2)) ?_ (fun JJ => ?_)
  rotate_left
  · refine two_ (i := 4) (j := 9) (Ni := some 9) (Nj := some 14) #[true, true, true, true, true, true, true, false, false, false, false, false, false] #[true, true, true, true, false, true, true, false, false, true, false, false, false] rfl rfl rfl rfl (two_of HT_.out (by kernel_rfl)) (by decide) (by decide) (fun K hK => ?_) (fun K hK => ?_)
    · refine goes_ Try.func33 (by kernel_rfl) rfl #[.slice A1 fs.length c1] (by rfl) rfl rfl (by first | done | rfl | (simp only [List.map_toArray, List.map_cons, List.map_nil]; rfl)) ?_
      refine (clone33_at A1 c1 fs _ (Kd.C_below HR1.out (below_step HBN.out hHeld)) HC1.out HL1.out).mono ?_
      rintro e0 wxf ⟨Af, cf, rfl, hR, hb⟩
      refine ⟨_, rfl, ?_⟩
      have RF := Aside0.mk (Kd.R_lower hR (below_size hHeld))
      refine hK.out _ _ (below_step hHeld hb) (fun hHeld => ?_)
      clear hK K hR hb
      refine norm_ (a' := ?_) ?_ ?_
      rotate_left
      · show Act.put _ (some 9) _ = _
        simp only [Act.put, List.setIfInBounds_toArray, List.set_cons_zero, List.set_cons_succ, i64_w, i32_w]
        rfl
      refine two_ (i := 7) (j := 9) (Ni := some 12) (Nj := some 14) #[true, true, true, true, true, true, true, true, false, false, false, false, false] #[true, true, true, true, true, true, true, false, false, true, false, false, false] rfl rfl rfl rfl (two_of HT_.out (by kernel_rfl)) (by decide) (by decide) (fun K hK => ?_) (fun K hK => ?_)
      · refine goes_ Try.func33 (by kernel_rfl) rfl #[.slice A2 ps.length c2] (by rfl) rfl rfl (by first | done | rfl | (simp only [List.map_toArray, List.map_cons, List.map_nil]; rfl)) ?_
        refine (clone33_at A2 c2 ps _ (Kd.C_below HR2.out (below_step HBN.out hHeld)) HC2.out HL2.out).mono ?_
        rintro e0 wxp ⟨Ap, cp, rfl, hR, hb⟩
        refine ⟨_, rfl, ?_⟩
        have n_RF := Aside0.mk (Kd.R_below RF.out hb)
        clear RF
        have RF := n_RF
        clear n_RF
        have RP := Aside0.mk (Kd.R_lower hR (below_size hHeld))
        refine hK.out _ _ (below_step hHeld hb) (fun hHeld => ?_)
        clear hK K hR hb
        refine norm_ (a' := ?_) ?_ ?_
        rotate_left
        · show Act.put _ (some 12) _ = _
          simp only [Act.put, List.setIfInBounds_toArray, List.set_cons_zero, List.set_cons_succ, i64_w, i32_w]
          rfl
        refine pure_ (i := 8) (N := some 13) (v := ?_) (a' := ?_) #[true, true, true, true, true, true, true, true, true, false, false, false, false] rfl rfl (any_of HT_.out (by kernel_rfl)) (fun _ _ _ h => h) (Or.inl ⟨by rfl, ?_⟩) ?_ ?_
        rotate_left
        · intro w'
          go_simp
          with_reducible rfl
        rotate_left
        · simp only [Act.put, List.setIfInBounds_toArray, List.set_cons_zero, List.set_cons_succ, i64_w, i32_w]
          rfl
        refine one_ (i := 9) (N := some 14) #[true, true, true, true, true, true, true, true, true, true, false, false, false] rfl rfl (one_of HT_.out (by kernel_rfl)) (by decide) (fun K hK => ?_)
        refine mkmap_step (by rfl) rfl ?_
        intro gm hgm wm hwm hb
        have n_RF := Aside0.mk (Kd.R_below RF.out hb)
        have n_RP := Aside0.mk (Kd.R_below RP.out hb)
        clear RF RP
        have RF := n_RF
        have RP := n_RP
        clear n_RF n_RP
        have OM : Aside0 (HStrMap.Owns m69 wm gm 0 []) := ⟨by rw [hwm, hgm]; exact HStrMap.owns_made m69 _⟩
        have GM : Aside0 (wN.heap.size ≤ gm) := ⟨by rw [hgm]; exact below_size hHeld⟩
        refine hK.out _ _ (below_step hHeld hb) (fun hHeld => ?_)
        clear hK K hb hgm hwm
        refine norm_ ?_ (JJ.out (Af, cf, Ap, cp, gm) _ ⟨⟨hHeld⟩, RF, RP, OM, GM⟩)
        show Act.put _ (some 14) _ = _
        simp only [putAll, Act.put, List.setIfInBounds_toArray, List.set_cons_zero, List.set_cons_succ]
      · refine mkmap_step (by rfl) rfl ?_
        intro gm hgm wm hwm hb
        have n_RF := Aside0.mk (Kd.R_below RF.out hb)
        clear RF
        have RF := n_RF
        clear n_RF
        have OM : Aside0 (HStrMap.Owns m69 wm gm 0 []) := ⟨by rw [hwm, hgm]; exact HStrMap.owns_made m69 _⟩
        have GM : Aside0 (wN.heap.size ≤ gm) := ⟨by rw [hgm]; exact below_size hHeld⟩
        refine hK.out _ _ (below_step hHeld hb) (fun hHeld => ?_)
        clear hK K hb hgm hwm
        refine norm_ (a' := ?_) ?_ ?_
        rotate_left
        · show Act.put _ (some 14) _ = _
          simp only [Act.put, List.setIfInBounds_toArray, List.set_cons_zero, List.set_cons_succ, i64_w, i32_w]
          rfl
        refine one_ (i := 7) (N := some 12) #[true, true, true, true, true, true, true, true, false, true, false, false, false] rfl rfl (one_of HT_.out (by kernel_rfl)) (by decide) (fun K hK => ?_)
        refine goes_ Try.func33 (by kernel_rfl) rfl #[.slice A2 ps.length c2] (by rfl) rfl rfl (by first | done | rfl | (simp only [List.map_toArray, List.map_cons, List.map_nil]; rfl)) ?_
        refine (clone33_at A2 c2 ps _ (Kd.C_below HR2.out (below_step HBN.out hHeld)) HC2.out HL2.out).mono ?_
        rintro e0 wxp ⟨Ap, cp, rfl, hR, hb⟩
        refine ⟨_, rfl, ?_⟩
        have n_RF := Aside0.mk (Kd.R_below RF.out hb)
        have n_OM := Aside0.mk (OM.out.move (hb.block gm OM.out.lt))
        have n_GM := Aside0.mk (GM.out)
        clear RF OM GM
        have RF := n_RF
        have OM := n_OM
        have GM := n_GM
        clear n_RF n_OM n_GM
        have RP := Aside0.mk (Kd.R_lower hR (below_size hHeld))
        refine hK.out _ _ (below_step hHeld hb) (fun hHeld => ?_)
        clear hK K hR hb
        refine norm_ (a' := ?_) ?_ ?_
        rotate_left
        · show Act.put _ (some 12) _ = _
          simp only [Act.put, List.setIfInBounds_toArray, List.set_cons_zero, List.set_cons_succ, i64_w, i32_w]
          rfl
        refine pure_ (i := 8) (N := some 13) (v := ?_) (a' := ?_) #[true, true, true, true, true, true, true, true, true, true, false, false, false] rfl rfl (any_of HT_.out (by kernel_rfl)) (fun _ _ _ h => h) (Or.inl ⟨by rfl, ?_⟩) ?_ ?_
        rotate_left
        · intro w'
          go_simp
          with_reducible rfl
        rotate_left
        · simp only [Act.put, List.setIfInBounds_toArray, List.set_cons_zero, List.set_cons_succ, i64_w, i32_w]
          rfl
        refine norm_ ?_ (JJ.out (Af, cf, Ap, cp, gm) _ ⟨⟨hHeld⟩, RF, RP, OM, GM⟩)
        simp only [putAll, Act.put, List.setIfInBounds_toArray, List.set_cons_zero, List.set_cons_succ]
    · refine mkmap_step (by rfl) rfl ?_
      intro gm hgm wm hwm hb
      have OM : Aside0 (HStrMap.Owns m69 wm gm 0 []) := ⟨by rw [hwm, hgm]; exact HStrMap.owns_made m69 _⟩
      have GM : Aside0 (wN.heap.size ≤ gm) := ⟨by rw [hgm]; exact below_size hHeld⟩
      refine hK.out _ _ (below_step hHeld hb) (fun hHeld => ?_)
      clear hK K hb hgm hwm
      refine norm_ (a' := ?_) ?_ ?_
      rotate_left
      · show Act.put _ (some 14) _ = _
        simp only [Act.put, List.setIfInBounds_toArray, List.set_cons_zero, List.set_cons_succ, i64_w, i32_w]
        rfl
      refine one_ (i := 4) (N := some 9) #[true, true, true, true, true, true, true, false, false, true, false, false, false] rfl rfl (one_of HT_.out (by kernel_rfl)) (by decide) (fun K hK => ?_)
      refine goes_ Try.func33 (by kernel_rfl) rfl #[.slice A1 fs.length c1] (by rfl) rfl rfl (by first | done | rfl | (simp only [List.map_toArray, List.map_cons, List.map_nil]; rfl)) ?_
      refine (clone33_at A1 c1 fs _ (Kd.C_below HR1.out (below_step HBN.out hHeld)) HC1.out HL1.out).mono ?_
      rintro e0 wxf ⟨Af, cf, rfl, hR, hb⟩
      refine ⟨_, rfl, ?_⟩
      have n_OM := Aside0.mk (OM.out.move (hb.block gm OM.out.lt))
      have n_GM := Aside0.mk (GM.out)
      clear OM GM
      have OM := n_OM
      have GM := n_GM
      clear n_OM n_GM
      have RF := Aside0.mk (Kd.R_lower hR (below_size hHeld))
      refine hK.out _ _ (below_step hHeld hb) (fun hHeld => ?_)
      clear hK K hR hb
      refine norm_ (a' := ?_) ?_ ?_
      rotate_left
      · show Act.put _ (some 9) _ = _
        simp only [Act.put, List.setIfInBounds_toArray, List.set_cons_zero, List.set_cons_succ, i64_w, i32_w]
        rfl
      refine one_ (i := 7) (N := some 12) #[true, true, true, true, true, true, true, true, false, true, false, false, false] rfl rfl (one_of HT_.out (by kernel_rfl)) (by decide) (fun K hK => ?_)
      refine goes_ Try.func33 (by kernel_rfl) rfl #[.slice A2 ps.length c2] (by rfl) rfl rfl (by first | done | rfl | (simp only [List.map_toArray, List.map_cons, List.map_nil]; rfl)) ?_
      refine (clone33_at A2 c2 ps _ (Kd.C_below HR2.out (below_step HBN.out hHeld)) HC2.out HL2.out).mono ?_
      rintro e0 wxp ⟨Ap, cp, rfl, hR, hb⟩
      refine ⟨_, rfl, ?_⟩
      have n_OM := Aside0.mk (OM.out.move (hb.block gm OM.out.lt))
      have n_GM := Aside0.mk (GM.out)
      have n_RF := Aside0.mk (Kd.R_below RF.out hb)
      clear OM GM RF
      have OM := n_OM
      have GM := n_GM
      have RF := n_RF
      clear n_OM n_GM n_RF
      have RP := Aside0.mk (Kd.R_lower hR (below_size hHeld))
      refine hK.out _ _ (below_step hHeld hb) (fun hHeld => ?_)
      clear hK K hR hb
      refine norm_ (a' := ?_) ?_ ?_
      rotate_left
      · show Act.put _ (some 12) _ = _
        simp only [Act.put, List.setIfInBounds_toArray, List.set_cons_zero, List.set_cons_succ, i64_w, i32_w]
        rfl
      refine pure_ (i := 8) (N := some 13) (v := ?_) (a' := ?_) #[true, true, true, true, true, true, true, true, true, true, false, false, false] rfl rfl (any_of HT_.out (by kernel_rfl)) (fun _ _ _ h => h) (Or.inl ⟨by rfl, ?_⟩) ?_ ?_
      rotate_left
      · intro w'
        go_simp
        with_reducible rfl
      rotate_left
      · simp only [Act.put, List.setIfInBounds_toArray, List.set_cons_zero, List.set_cons_succ, i64_w, i32_w]
        rfl
      refine norm_ ?_ (JJ.out (Af, cf, Ap, cp, gm) _ ⟨⟨hHeld⟩, RF, RP, OM, GM⟩)
      simp only [putAll, Act.put, List.setIfInBounds_toArray, List.set_cons_zero, List.set_cons_succ]
  rintro ⟨Af, cf, Ap, cp, gm⟩ wx ⟨HHX, RF, RP, OM, GM⟩
  dsimp only at RF RP OM GM ⊢
  simp only [putAll, Act.put, List.setIfInBounds_toArray, List.set_cons_zero, List.set_cons_succ]
  clear hHeld
  have hHeld := HHX.out
  refine pure_ (i := 10) (N := some 15) (v := ?_) (a' := ?_) #[true, true, true, true, true, true, true, true, true, true, true, false, false] rfl rfl (any_of HT_.out (by kernel_rfl)) (fun _ _ _ h => h) (Or.inl ⟨by rfl, ?_⟩) ?_ ?_
  rotate_left
  · intro w'
    go_simp
    with_reducible rfl
  rotate_left
  · simp only [Act.put, List.setIfInBounds_toArray, List.set_cons_zero, List.set_cons_succ, i64_w, i32_w]
    rfl
  refine last_ (i := 11) (N := some 16) #[true, true, true, true, true, true, true, true, true, true, true, true, false] rfl rfl (one_of HT_.out (by kernel_rfl)) (by decide) (fun K hK => ?_)
  refine box_step (N := 16) (cs := #[.bool true, .int .i64 (max cap 0), .slice Af fs.length cf, .slice Ap ps.length cp, .map (some gm), .int .i64 0]) (t := 71) (by rfl) rfl (by first | (go_simp; done) | (go_simp; rfl)) ?_
  intro gd hgd w9 hbox hb
  have HGD := Aside0.mk hgd
  have HBD := Aside0.mk hbox
  have HB9 := Aside0.mk hb
  refine hK.out _ _ ?_
  clear hK K hb hgd hbox hHeld
  refine norm_ (a' := ?_) ?_ ?_
  rotate_left
  · show Act.put _ (some 16) _ = _
    simp only [Act.put, List.setIfInBounds_toArray, List.set_cons_zero, List.set_cons_succ, i64_w, i32_w]
    rfl
  refine pure_ (i := 12) (N := some 4) (v := ?_) (a' := ?_) #[true, true, true, true, true, true, true, true, true, true, true, true, true] rfl rfl (any_of HT_.out (by kernel_rfl)) (fun _ _ _ h => h) (Or.inl ⟨by rfl, ?_⟩) ?_ ?_
  rotate_left
  · intro w'
    go_simp
    with_reducible rfl
  rotate_left
  · simp only [Act.put, List.setIfInBounds_toArray, List.set_cons_zero, List.set_cons_succ, i64_w, i32_w]
    rfl
  refine done_ (done_of HT_.out (by kernel_rfl)) ?_
  go_wp2
  go_ret
  exact new_done HBN.out HHX.out RF.out RP.out OM.out GM.out HGD.out HBD.out HB9.out
end Go.Proofs.Yteibdmpjlpcgbaa.XDisk
