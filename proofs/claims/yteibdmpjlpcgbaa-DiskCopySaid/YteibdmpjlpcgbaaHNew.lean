/- New and Copy of the given program's disk. -/
import Derived.Test.YteibdmpjlpcgbaaHCrash
namespace Go.Proofs.Yteibdmpjlpcgbaa.XDisk
open Go Go.RowKit Go.Proofs.YteibdmpjlpcgbaaW.PrintWords Go.Proofs.YteibdmpjlpcgbaaW.PrintLast Go.Proofs.YteibdmpjlpcgbaaW.PrintMore
open Go.Proofs.Yteibdmpjlpcgbaa
set_option linter.unusedVariables false
set_option linter.unusedSimpArgs false
attribute [local go_sem] max_run min_run
def newP (cap : Int) (fs ps : List Int) : DA := ⟨max cap 0, fs, ps, 0, []⟩
theorem mkmap_step {ops : Array Oper} {o : Oper} {a : Act} {Q : Exit → Act → World → Prop} {Kc : Act → World → Prop} {W : World} (hw : Region.wanted o (yielded ops a.tmps) = true)
    (hrun : (execOp a.eval o).run Try.prog W = .ok (.value (.map (some W.heap.size))) (W.alloc (.map #[] 0)))
    (h : ∀ g, g = W.heap.size → ∀ w1, w1 = W.alloc (.map #[] 0) → Below W.heap.size W w1 → Kc (a.put o.dst (.map (some g))) w1) : if Region.wanted o (yielded ops a.tmps) = true then Oper.wp Try.prog o a W Kc Q else Kc (a.put o.dst undef) W :=
  event_step hw hrun (h _ rfl _ rfl (below_alloc (Below.refl _ _) _))
/-- Rising lists that tell the same are the same. -/
theorem rising_ext : ∀ {l l' : List (Nm × FA)}, Rising l → Rising l' → (∀ nm, get l nm = get l' nm) → l = l'
  | [], [], _, _, _ => rfl
  | [], q :: t, _, h2, h => by
    have h1 := h q.1
    rw [mem_get h2 (f := q.2) List.mem_cons_self] at h1
    cases h1
  | p :: t, [], h1, _, h => by
    have h2 := h p.1
    rw [mem_get h1 (f := p.2) List.mem_cons_self] at h2
    cases h2
  | p :: t, q :: t', h1, h2, h => by
    have hp : get (q :: t') p.1 = some p.2 := (h p.1).symm.trans (mem_get h1 List.mem_cons_self)
    have hq : get (p :: t) q.1 = some q.2 := (h q.1).trans (mem_get h2 List.mem_cons_self)
    have r1 := h1
    have r2 := h2
    unfold Rising at r1 r2
    rw [List.pairwise_cons] at r1 r2
    have e : p = q := by
      rcases List.mem_cons.1 (get_mem hp) with e | m1
      · exact e
      · rcases List.mem_cons.1 (get_mem hq) with e | m2
        · exact e.symm
        · exact absurd (r1.1 _ m2) (lt_no (r2.1 _ m1))
    subst e
    congr 1
    refine rising_ext r1.2 r2.2 (fun nm => ?_)
    by_cases e : p.1 = nm
    · have n1 : get t nm = none := by
        cases hg : get t nm with
        | none => rfl
        | some f => exact absurd (r1.1 _ (get_mem hg)) (by rw [e]; exact List.lt_irrefl nm)
      have n2 : get t' nm = none := by
        cases hg : get t' nm with
        | none => rfl
        | some f => exact absurd (r2.1 _ (get_mem hg)) (by rw [e]; exact List.lt_irrefl nm)
      rw [n1, n2]
    · have h3 := h nm
      have x : ∀ l : List (Nm × FA), get (p :: l) nm = get l nm := fun l => by simp [get, e]
      rw [x, x] at h3
      exact h3
/-- A file is added, whose bytes are new. -/
theorem DIn.add {W W' : World} {φ : Nat → Tg} {B gd : Nat} {S : DA} {gm n : Nat} {V : Nm → Nat} {Af : Option Addr} {cf : Nat} {Ap : Option Addr} {cp : Nat} (h : DIn W φ B gd S gm n V Af cf Ap cp) {nm : Nm} {f : FA} {g : Nat} {A : Option Addr} {c : Nat} (hg : W.heap.size ≤ g) (hn : get S.files nm = none)
    (ho : HStrMap.Owns m69 W' gm (n + 1) ((str nm, .pointer (some ⟨g, 0, none⟩)) :: HStrMap.without (mapL S.files V) (str nm))) (hb : W'.heap[g]? = some (.cells #[.slice A f.b.length c, .int .i64 f.safe] 82 (0, 0))) (hr : Kd.R (Kd.int .u8) 5 W' W.heap.size (fun _ => True) (.slice A f.b.length c) f.b) (hc : Chg W W' (fun k => k = gm)) :
    ∃ φ', DIn W' φ' B gd { S with files := put nm f S.files } gm (n + 1) (fun m => if m = nm then g else V m) Af cf Ap cp ∧ Step W W' φ φ' := by
  have hB : B ≤ W.heap.size := h.bound
  have hk0 : ∀ k, φ k ≠ .no → k ≠ gm → W'.heap[k]? = W.heap[k]? := fun k hk hne => hc.block k (h.dom k hk).2 hne
  obtain ⟨ψ, hψ⟩ : ∃ ψ : Nat → Tg, ψ = fun k => if W.heap.size ≤ k ∧ k < W'.heap.size then Tg.file nm else φ k := ⟨_, rfl⟩
  have old : ∀ k, φ k ≠ .no → ψ k = φ k := fun k hk => by
    rw [hψ]
    show (if _ then _ else _) = _
    exact if_neg (fun q => absurd q.1 (Nat.not_le.2 (h.dom k hk).2))
  have new : ∀ k, W.heap.size ≤ k → k < W'.heap.size → ψ k = .file nm := fun k h1 h2 => by
    rw [hψ]
    show (if _ then _ else _) = _
    exact if_pos ⟨h1, h2⟩
  have hd : ∀ k, φ k = .disk → ψ k = .disk := fun k hk => (old k (by rw [hk]; intro e; cases e)).trans hk
  obtain ⟨r1, r2⟩ := h.rows (W' := W') hd (fun k hk hne => hk0 k (by rw [hk]; intro e; cases e) hne)
  refine ⟨ψ, ⟨(hk0 gd (by rw [h.tgd]; intro e; cases e) h.map_ne).trans h.blk, hd gd h.tgd, hd gm h.tgm, r1, r2, ho.perm (mapL_put _ _ _ _ _), put_rising h.rise _ _, ?_, ?_⟩, hc.mono (fun k hk => by subst hk; rw [h.tgm]; intro e; cases e), ?_⟩
  · intro p hp
    rcases mem_put.1 hp with rfl | ⟨hp, hne⟩
    · show FileAt W' _ nm f (if nm = nm then g else V nm)
      rw [if_pos rfl]
      refine ⟨A, c, hb, new g hg (blk_lt hb), .inl ?_⟩
      have h1 := Kd.R_bound hr
      exact Kd.R_lower (Kd.R_mono h1 (fun k hk => new k hk.2.1 hk.2.2.1)) (Nat.zero_le _)
    · show FileAt W' _ p.1 p.2 (if p.1 = nm then g else V p.1)
      rw [if_neg hne]
      obtain ⟨A, c, f1, f2, f3⟩ := h.file p hp
      have hx : ∀ k, φ k = .file p.1 → W'.heap[k]? = W.heap[k]? := fun k hk => hk0 k (by rw [hk]; intro e; cases e) (fun e => by rw [e, h.tgm] at hk; cases hk)
      have hy : ∀ k, φ k = .file p.1 → ψ k = .file p.1 := fun k hk => (old k (by rw [hk]; intro e; cases e)).trans hk
      exact ⟨A, c, (hx _ f2).trans f1, hy _ f2, (f3.move hx).mono hy⟩
  · intro k hk
    by_cases e : W.heap.size ≤ k ∧ k < W'.heap.size
    · exact ⟨Nat.le_trans hB e.1, e.2⟩
    · have hk' : φ k ≠ .no := fun q => hk (by rw [hψ]; show (if _ then _ else _) = _; rw [if_neg e]; exact q)
      exact ⟨(h.dom k hk').1, Nat.lt_of_lt_of_le (h.dom k hk').2 hc.size⟩
  · intro k hk h0
    rw [hψ]
    show (if _ then _ else _) = _
    rw [if_neg (fun q => absurd q.1 (Nat.not_le.2 hk))]
    exact h0
def r12_1.T : Bool × List (List Nat × List Nat) := (true, [([], []), ([0], [0]), ([], []), ([2], [2]), ([3], [3]), ([], []), ([5], [5]), ([6, 4], [6]), ([4, 7], [4, 7]), ([], []), ([1, 8, 9], [1, 8, 9]), ([10], [10]), ([11, 7, 0, 1, 2, 3, 4, 5, 6, 7, 8, 9, 10, 11], [11])])
def r12_1.B : List Nat := [0, 1, 0, 4, 12, 0, 32, 124, 252, 0, 1023, 2047, 4095]
theorem r12_1.tab : rtab .any (opsOf Try.f12 1) = r12_1.T := by kernel_rfl
theorem r12_1.bits : waitsOk r12_1.T.2 r12_1.B = true := by kernel_rfl
theorem joinX {ι : Type} {P : Program} {ops : Array Oper} {Q : Exit → Act → World → Prop} {md : Region.Mode} {S : World → Prop} {ds : List Nat} {fuel : Nat} {l : Array Bool} {a : Act} {w : World} (fuel' : Nat) (l' : Array Bool) (ns : ι → List (Tmp × Value)) (F : ι → World → Prop)
    (hcont : ∀ i w', F i w' → wpAnyLast P md ops Q S ds fuel' l' (putAll a (ns i)) w')
    (h : Aside0 (∀ i w', F i w' → wpAnyLast P md ops Q S ds fuel' l' (putAll a (ns i)) w') → wpAnyLast P md ops Q S ds fuel l a w) : wpAnyLast P md ops Q S ds fuel l a w := h ⟨hcont⟩
theorem new_done {w wN wx w9 : World} {cap : Int} {fs ps : List Int} {Af Ap : Option Addr} {cf cp gm gd : Nat} (hN : Below w.heap.size w wN) (hx : Below wN.heap.size wN wx) (rf : Kd.R (Kd.int .i64) 3 wx wN.heap.size (fun _ => True) (.slice Af fs.length cf) fs) (rp : Kd.R (Kd.int .i64) 3 wx wN.heap.size (fun _ => True) (.slice Ap ps.length cp) ps)
    (ho : HStrMap.Owns m69 wx gm 0 []) (hgm : wN.heap.size ≤ gm) (hgd : gd = wx.heap.size) (hbd : w9.heap[gd]? = some (.cells #[.bool true, .int .i64 (max cap 0), .slice Af fs.length cf, .slice Ap ps.length cp, .map (some gm), .int .i64 0] 71 (0, 0))) (h9 : Below wx.heap.size wx w9) :
    ∃ gd' φ, (Ending.returned (.pointer (some ⟨gd, 0, none⟩)) : Ending) = .returned (.pointer (some ⟨gd', 0, none⟩)) ∧ DAt w9 φ w.heap.size gd' (newP cap fs ps) ∧ Below w.heap.size w w9 := by
  have hsz : w.heap.size ≤ wN.heap.size := hN.size
  have hs2 := hx.size
  have o1 : HStrMap.Owns m69 w9 gm 0 [] := ho.move (h9.block gm ho.lt)
  have key : ∀ {v : Value} {xs : List Int}, Kd.R (Kd.int .i64) 3 w9 wN.heap.size (fun _ => True) v xs → Kd.R (Kd.int .i64) 3 w9 0 (fun k => (if w.heap.size ≤ k ∧ k < w9.heap.size then Tg.disk else Tg.no) = .disk) v xs := fun {v xs} hr =>
    Kd.R_lower (Kd.R_mono (Kd.R_bound hr) (fun k hk => if_pos ⟨Nat.le_trans hsz hk.2.1, hk.2.2.1⟩)) (Nat.zero_le _)
  refine ⟨gd, fun k => if w.heap.size ≤ k ∧ k < w9.heap.size then .disk else .no, rfl, ⟨gm, 0, fun _ => 0, Af, cf, Ap, cp, ⟨hbd, if_pos ⟨by omega, blk_lt hbd⟩, if_pos ⟨by omega, o1.lt⟩, key (Kd.R_below rf h9), key (Kd.R_below rp h9), o1, List.Pairwise.nil, (fun p hp => by cases hp), fun k hk => ?_⟩, Int.le_refl _⟩, below_step hN (below_step hx h9)⟩
  by_cases e : w.heap.size ≤ k ∧ k < w9.heap.size
  · exact e
  · exact absurd (if_neg e) hk
set_option maxHeartbeats 8000000 in
set_option maxRecDepth 100000 in
theorem new_at (cap : Int) (A1 : Option Addr) (c1 : Nat) (fs : List Int) (A2 : Option Addr) (c2 : Nat) (ps : List Int) (w : World) (hr1 : Kd.C (Kd.int .i64) w A1 fs.length fs) (hc1 : fs.length ≤ c1) (hl1 : fs.length ≤ 1000000) (hr2 : Kd.C (Kd.int .i64) w A2 ps.length ps) (hc2 : ps.length ≤ c2) (hl2 : ps.length ≤ 1000000) :
    Calls Try.prog 12 #[.int .i64 cap, .agg #[.slice A1 fs.length c1, .slice A2 ps.length c2]] w fun e w' => ∃ gd φ, e = .returned (.pointer (some ⟨gd, 0, none⟩)) ∧ DAt w' φ w.heap.size gd (newP cap fs ps) ∧ Below w.heap.size w w' := by
  have HR1 := Aside0.mk hr1
  have HR2 := Aside0.mk hr2
  have HC1 := Aside0.mk hc1
  have HC2 := Aside0.mk hc2
  have HL1 := Aside0.mk hl1
  have HL2 := Aside0.mk hl2
  clear hr1 hr2 hc1 hc2 hl1 hl2
  go_enter Try.func12, Try.ntmps12
  go_upto_region 1 with (first | ((with_reducible refine gate_dst (N := 3) rfl ?_); refine box_event ?hg (N := 3) ?hd (cs := #[.slice A1 fs.length c1, .slice A2 ps.length c2]) (t := 24) ?hr ?_; (case hd => rfl); (case hg => rfl); (case hr => first | (go_simp; done) | (go_simp; rfl)); intro gb hgb wN hbox hb; have HBX := Aside0.mk hbox; have HBN := Aside0.mk hb; clear hbox hb hgb))
  refine start_ (n := 13) (S := fun w' => Below wN.heap.size wN w') (ds := [11]) #[false, false, false, false, false, false, false, false, false, false, false, false, false] (by kernel_rfl) rfl rfl (below_drew (Below.refl _ _)) (fun hHeld => ?_)
  refine with_tabW r12_1.tab r12_1.bits (fun HT_ HW_ => ?_)
  generalize wN.drew = wd at hHeld ⊢
  refine pure_ (i := 0) (N := some 5) (v := ?_) (a' := ?_) #[true, false, false, false, false, false, false, false, false, false, false, false, false] rfl rfl (any_of HT_.out (by kernel_rfl)) (fun _ _ _ h => h) (Or.inl ⟨by rfl, ?_⟩) ?_ ?_
  rotate_left
  · intro w'
    go_simp
    with_reducible rfl
  rotate_left
  · simp only [Act.put, List.setIfInBounds_toArray, List.set_cons_zero, List.set_cons_succ, i64_w, i32_w]
    rfl
  refine pure_ (i := 1) (N := some 6) (v := ?_) (a' := ?_) #[true, true, false, false, false, false, false, false, false, false, false, false, false] rfl rfl (any_of HT_.out (by kernel_rfl)) (fun _ _ _ h => h) (Or.inl ⟨by rfl, ?_⟩) ?_ ?_
  rotate_left
  · intro w'
    go_simp
    with_reducible rfl
  rotate_left
  · simp only [Act.put, List.setIfInBounds_toArray, List.set_cons_zero, List.set_cons_succ, i64_w, i32_w]
    rfl
  refine pure_ (i := 2) (N := some 7) (v := ?_) (a' := ?_) #[true, true, true, false, false, false, false, false, false, false, false, false, false] rfl rfl (any_of HT_.out (by kernel_rfl)) (fun _ _ _ h => h) (Or.inl ⟨by rfl, ?_⟩) ?_ ?_
  rotate_left
  · intro w'
    go_simp
    with_reducible rfl
  rotate_left
  · simp only [Act.put, List.setIfInBounds_toArray, List.set_cons_zero, List.set_cons_succ, i64_w, i32_w]
    rfl
  refine take_ (i := 3) (N := some 8) (v := ?_) (a' := ?_) #[true, true, true, true, false, false, false, false, false, false, false, false, false] rfl rfl (take_ofW HT_.out HW_.out (by kernel_rfl)) (fun _ _ _ h => h) (Or.inl ⟨by rfl, ?_⟩) hHeld ?_ ?_
  rotate_left
  · rintro w' hbq
    have c_b0 := blk_c' (blk_below HBX.out hbq) 0 rfl
    go_simp
    with_reducible rfl
  rotate_left
  · simp only [Act.put, List.setIfInBounds_toArray, List.set_cons_zero, List.set_cons_succ, i64_w, i32_w]
    rfl
  refine pure_ (i := 5) (N := some 10) (v := ?_) (a' := ?_) #[true, true, true, true, false, true, false, false, false, false, false, false, false] rfl rfl (any_of HT_.out (by kernel_rfl)) (fun _ _ _ h => h) (Or.inl ⟨by rfl, ?_⟩) ?_ ?_
  rotate_left
  · intro w'
    go_simp
    with_reducible rfl
  rotate_left
  · simp only [Act.put, List.setIfInBounds_toArray, List.set_cons_zero, List.set_cons_succ, i64_w, i32_w]
    rfl
  refine take_ (i := 6) (N := some 11) (v := ?_) (a' := ?_) #[true, true, true, true, false, true, true, false, false, false, false, false, false] rfl rfl (take_ofW HT_.out HW_.out (by kernel_rfl)) (fun _ _ _ h => h) (Or.inl ⟨by rfl, ?_⟩) hHeld ?_ ?_
  rotate_left
  · rintro w' hbq
    have c_b1 := blk_c' (blk_below HBX.out hbq) 1 rfl
    go_simp
    with_reducible rfl
  rotate_left
  · simp only [Act.put, List.setIfInBounds_toArray, List.set_cons_zero, List.set_cons_succ, i64_w, i32_w]
    rfl
  refine joinX (ι := Option Addr × Nat × Option Addr × Nat × Nat) 3 #[true, true, true, true, true, true, true, true, true, true, false, false, false] (fun i => [(9, .slice i.1 fs.length i.2.1), (12, .slice i.2.2.1 ps.length i.2.2.2.1), (13, .agg #[.slice i.1 fs.length i.2.1, .slice i.2.2.1 ps.length i.2.2.2.1]), (14, .map (some i.2.2.2.2))]) (fun i wx => Aside0 (Below wN.heap.size wN wx) ∧ Aside0 (Kd.R (Kd.int .i64) 3 wx wN.heap.size (fun _ => True) (.slice i.1 fs.length i.2.1) fs) ∧ Aside0 (Kd.R (Kd.int .i64) 3 wx wN.heap.size (fun _ => True) (.slice i.2.2.1 ps.length i.2.2.2.1) ps) ∧ Aside0 (HStrMap.Owns m69 wx i.2.2.2.2 0 []) ∧ Aside0 (wN.heap.size ≤ i.2.2.2.2)) ?_ (fun JJ => ?_)
  rotate_left
  · refine two_ (i := 4) (j := 9) (Ni := some 9) (Nj := some 14) #[true, true, true, true, true, true, true, false, false, false, false, false, false] #[true, true, true, true, false, true, true, false, false, true, false, false, false] rfl rfl rfl rfl (two_of HT_.out (by kernel_rfl)) (by decide) (by decide) (fun K hK => ?_) (fun K hK => ?_)
    · refine goes_ Try.func33 (by kernel_rfl) rfl #[.slice A1 fs.length c1] (by rfl) rfl rfl (by first | done | rfl | (simp only [List.map_toArray, List.map_cons, List.map_nil]; rfl)) ?_
      refine (clone33_at A1 c1 fs _ (Kd.C_below HR1.out (below_step HBN.out hHeld)) HC1.out HL1.out).mono ?_
      rintro e0 wxf ⟨Af, cf, rfl, hR, hb⟩
      refine ⟨_, rfl, ?_⟩
      have RF := Aside0.mk (Kd.R_lower hR (below_size hHeld))
      refine hK.out _ _ (below_step hHeld hb) (fun hHeld => ?_)
      clear hK K hR hb
      refine norm_ (a' := ?_) ?_ ?_
      rotate_left
      · show Act.put _ (some 9) _ = _
        simp only [Act.put, List.setIfInBounds_toArray, List.set_cons_zero, List.set_cons_succ, i64_w, i32_w]
        rfl
      refine two_ (i := 7) (j := 9) (Ni := some 12) (Nj := some 14) #[true, true, true, true, true, true, true, true, false, false, false, false, false] #[true, true, true, true, true, true, true, false, false, true, false, false, false] rfl rfl rfl rfl (two_of HT_.out (by kernel_rfl)) (by decide) (by decide) (fun K hK => ?_) (fun K hK => ?_)
      · refine goes_ Try.func33 (by kernel_rfl) rfl #[.slice A2 ps.length c2] (by rfl) rfl rfl (by first | done | rfl | (simp only [List.map_toArray, List.map_cons, List.map_nil]; rfl)) ?_
        refine (clone33_at A2 c2 ps _ (Kd.C_below HR2.out (below_step HBN.out hHeld)) HC2.out HL2.out).mono ?_
        rintro e0 wxp ⟨Ap, cp, rfl, hR, hb⟩
        refine ⟨_, rfl, ?_⟩
        have n_RF := Aside0.mk (Kd.R_below RF.out hb)
        clear RF
        have RF := n_RF
        clear n_RF
        have RP := Aside0.mk (Kd.R_lower hR (below_size hHeld))
        refine hK.out _ _ (below_step hHeld hb) (fun hHeld => ?_)
        clear hK K hR hb
        refine norm_ (a' := ?_) ?_ ?_
        rotate_left
        · show Act.put _ (some 12) _ = _
          simp only [Act.put, List.setIfInBounds_toArray, List.set_cons_zero, List.set_cons_succ, i64_w, i32_w]
          rfl
        refine pure_ (i := 8) (N := some 13) (v := ?_) (a' := ?_) #[true, true, true, true, true, true, true, true, true, false, false, false, false] rfl rfl (any_of HT_.out (by kernel_rfl)) (fun _ _ _ h => h) (Or.inl ⟨by rfl, ?_⟩) ?_ ?_
        rotate_left
        · intro w'
          go_simp
          with_reducible rfl
        rotate_left
        · simp only [Act.put, List.setIfInBounds_toArray, List.set_cons_zero, List.set_cons_succ, i64_w, i32_w]
          rfl
        refine one_ (i := 9) (N := some 14) #[true, true, true, true, true, true, true, true, true, true, false, false, false] rfl rfl (one_of HT_.out (by kernel_rfl)) (by decide) (fun K hK => ?_)
        refine mkmap_step (by rfl) rfl ?_
        intro gm hgm wm hwm hb
        have n_RF := Aside0.mk (Kd.R_below RF.out hb)
        have n_RP := Aside0.mk (Kd.R_below RP.out hb)
        clear RF RP
        have RF := n_RF
        have RP := n_RP
        clear n_RF n_RP
        have OM : Aside0 (HStrMap.Owns m69 wm gm 0 []) := ⟨by rw [hwm, hgm]; exact HStrMap.owns_made m69 _⟩
        have GM : Aside0 (wN.heap.size ≤ gm) := ⟨by rw [hgm]; exact below_size hHeld⟩
        refine hK.out _ _ (below_step hHeld hb) (fun hHeld => ?_)
        clear hK K hb hgm hwm
        refine norm_ ?_ (JJ.out (Af, cf, Ap, cp, gm) _ ⟨⟨hHeld⟩, RF, RP, OM, GM⟩)
        show Act.put _ (some 14) _ = _
        simp only [putAll, Act.put, List.setIfInBounds_toArray, List.set_cons_zero, List.set_cons_succ]
      · refine mkmap_step (by rfl) rfl ?_
        intro gm hgm wm hwm hb
        have n_RF := Aside0.mk (Kd.R_below RF.out hb)
        clear RF
        have RF := n_RF
        clear n_RF
        have OM : Aside0 (HStrMap.Owns m69 wm gm 0 []) := ⟨by rw [hwm, hgm]; exact HStrMap.owns_made m69 _⟩
        have GM : Aside0 (wN.heap.size ≤ gm) := ⟨by rw [hgm]; exact below_size hHeld⟩
        refine hK.out _ _ (below_step hHeld hb) (fun hHeld => ?_)
        clear hK K hb hgm hwm
        refine norm_ (a' := ?_) ?_ ?_
        rotate_left
        · show Act.put _ (some 14) _ = _
          simp only [Act.put, List.setIfInBounds_toArray, List.set_cons_zero, List.set_cons_succ, i64_w, i32_w]
          rfl
        refine one_ (i := 7) (N := some 12) #[true, true, true, true, true, true, true, true, false, true, false, false, false] rfl rfl (one_of HT_.out (by kernel_rfl)) (by decide) (fun K hK => ?_)
        refine goes_ Try.func33 (by kernel_rfl) rfl #[.slice A2 ps.length c2] (by rfl) rfl rfl (by first | done | rfl | (simp only [List.map_toArray, List.map_cons, List.map_nil]; rfl)) ?_
        refine (clone33_at A2 c2 ps _ (Kd.C_below HR2.out (below_step HBN.out hHeld)) HC2.out HL2.out).mono ?_
        rintro e0 wxp ⟨Ap, cp, rfl, hR, hb⟩
        refine ⟨_, rfl, ?_⟩
        have n_RF := Aside0.mk (Kd.R_below RF.out hb)
        have n_OM := Aside0.mk (OM.out.move (hb.block gm OM.out.lt))
        have n_GM := Aside0.mk (GM.out)
        clear RF OM GM
        have RF := n_RF
        have OM := n_OM
        have GM := n_GM
        clear n_RF n_OM n_GM
        have RP := Aside0.mk (Kd.R_lower hR (below_size hHeld))
        refine hK.out _ _ (below_step hHeld hb) (fun hHeld => ?_)
        clear hK K hR hb
        refine norm_ (a' := ?_) ?_ ?_
        rotate_left
        · show Act.put _ (some 12) _ = _
          simp only [Act.put, List.setIfInBounds_toArray, List.set_cons_zero, List.set_cons_succ, i64_w, i32_w]
          rfl
        refine pure_ (i := 8) (N := some 13) (v := ?_) (a' := ?_) #[true, true, true, true, true, true, true, true, true, true, false, false, false] rfl rfl (any_of HT_.out (by kernel_rfl)) (fun _ _ _ h => h) (Or.inl ⟨by rfl, ?_⟩) ?_ ?_
        rotate_left
        · intro w'
          go_simp
          with_reducible rfl
        rotate_left
        · simp only [Act.put, List.setIfInBounds_toArray, List.set_cons_zero, List.set_cons_succ, i64_w, i32_w]
          rfl
        refine norm_ ?_ (JJ.out (Af, cf, Ap, cp, gm) _ ⟨⟨hHeld⟩, RF, RP, OM, GM⟩)
        simp only [putAll, Act.put, List.setIfInBounds_toArray, List.set_cons_zero, List.set_cons_succ]
    · refine mkmap_step (by rfl) rfl ?_
      intro gm hgm wm hwm hb
      have OM : Aside0 (HStrMap.Owns m69 wm gm 0 []) := ⟨by rw [hwm, hgm]; exact HStrMap.owns_made m69 _⟩
      have GM : Aside0 (wN.heap.size ≤ gm) := ⟨by rw [hgm]; exact below_size hHeld⟩
      refine hK.out _ _ (below_step hHeld hb) (fun hHeld => ?_)
      clear hK K hb hgm hwm
      refine norm_ (a' := ?_) ?_ ?_
      rotate_left
      · show Act.put _ (some 14) _ = _
        simp only [Act.put, List.setIfInBounds_toArray, List.set_cons_zero, List.set_cons_succ, i64_w, i32_w]
        rfl
      refine one_ (i := 4) (N := some 9) #[true, true, true, true, true, true, true, false, false, true, false, false, false] rfl rfl (one_of HT_.out (by kernel_rfl)) (by decide) (fun K hK => ?_)
      refine goes_ Try.func33 (by kernel_rfl) rfl #[.slice A1 fs.length c1] (by rfl) rfl rfl (by first | done | rfl | (simp only [List.map_toArray, List.map_cons, List.map_nil]; rfl)) ?_
      refine (clone33_at A1 c1 fs _ (Kd.C_below HR1.out (below_step HBN.out hHeld)) HC1.out HL1.out).mono ?_
      rintro e0 wxf ⟨Af, cf, rfl, hR, hb⟩
      refine ⟨_, rfl, ?_⟩
      have n_OM := Aside0.mk (OM.out.move (hb.block gm OM.out.lt))
      have n_GM := Aside0.mk (GM.out)
      clear OM GM
      have OM := n_OM
      have GM := n_GM
      clear n_OM n_GM
      have RF := Aside0.mk (Kd.R_lower hR (below_size hHeld))
      refine hK.out _ _ (below_step hHeld hb) (fun hHeld => ?_)
      clear hK K hR hb
      refine norm_ (a' := ?_) ?_ ?_
      rotate_left
      · show Act.put _ (some 9) _ = _
        simp only [Act.put, List.setIfInBounds_toArray, List.set_cons_zero, List.set_cons_succ, i64_w, i32_w]
        rfl
      refine one_ (i := 7) (N := some 12) #[true, true, true, true, true, true, true, true, false, true, false, false, false] rfl rfl (one_of HT_.out (by kernel_rfl)) (by decide) (fun K hK => ?_)
      refine goes_ Try.func33 (by kernel_rfl) rfl #[.slice A2 ps.length c2] (by rfl) rfl rfl (by first | done | rfl | (simp only [List.map_toArray, List.map_cons, List.map_nil]; rfl)) ?_
      refine (clone33_at A2 c2 ps _ (Kd.C_below HR2.out (below_step HBN.out hHeld)) HC2.out HL2.out).mono ?_
      rintro e0 wxp ⟨Ap, cp, rfl, hR, hb⟩
      refine ⟨_, rfl, ?_⟩
      have n_OM := Aside0.mk (OM.out.move (hb.block gm OM.out.lt))
      have n_GM := Aside0.mk (GM.out)
      have n_RF := Aside0.mk (Kd.R_below RF.out hb)
      clear OM GM RF
      have OM := n_OM
      have GM := n_GM
      have RF := n_RF
      clear n_OM n_GM n_RF
      have RP := Aside0.mk (Kd.R_lower hR (below_size hHeld))
      refine hK.out _ _ (below_step hHeld hb) (fun hHeld => ?_)
      clear hK K hR hb
      refine norm_ (a' := ?_) ?_ ?_
      rotate_left
      · show Act.put _ (some 12) _ = _
        simp only [Act.put, List.setIfInBounds_toArray, List.set_cons_zero, List.set_cons_succ, i64_w, i32_w]
        rfl
      refine pure_ (i := 8) (N := some 13) (v := ?_) (a' := ?_) #[true, true, true, true, true, true, true, true, true, true, false, false, false] rfl rfl (any_of HT_.out (by kernel_rfl)) (fun _ _ _ h => h) (Or.inl ⟨by rfl, ?_⟩) ?_ ?_
      rotate_left
      · intro w'
        go_simp
        with_reducible rfl
      rotate_left
      · simp only [Act.put, List.setIfInBounds_toArray, List.set_cons_zero, List.set_cons_succ, i64_w, i32_w]
        rfl
      refine norm_ ?_ (JJ.out (Af, cf, Ap, cp, gm) _ ⟨⟨hHeld⟩, RF, RP, OM, GM⟩)
      simp only [putAll, Act.put, List.setIfInBounds_toArray, List.set_cons_zero, List.set_cons_succ]
  rintro ⟨Af, cf, Ap, cp, gm⟩ wx ⟨HHX, RF, RP, OM, GM⟩
  dsimp only at RF RP OM GM ⊢
  simp only [putAll, Act.put, List.setIfInBounds_toArray, List.set_cons_zero, List.set_cons_succ]
  clear hHeld
  have hHeld := HHX.out
  refine pure_ (i := 10) (N := some 15) (v := ?_) (a' := ?_) #[true, true, true, true, true, true, true, true, true, true, true, false, false] rfl rfl (any_of HT_.out (by kernel_rfl)) (fun _ _ _ h => h) (Or.inl ⟨by rfl, ?_⟩) ?_ ?_
  rotate_left
  · intro w'
    go_simp
    with_reducible rfl
  rotate_left
  · simp only [Act.put, List.setIfInBounds_toArray, List.set_cons_zero, List.set_cons_succ, i64_w, i32_w]
    rfl
  refine last_ (i := 11) (N := some 16) #[true, true, true, true, true, true, true, true, true, true, true, true, false] rfl rfl (one_of HT_.out (by kernel_rfl)) (by decide) (fun K hK => ?_)
  refine box_step (N := 16) (cs := #[.bool true, .int .i64 (max cap 0), .slice Af fs.length cf, .slice Ap ps.length cp, .map (some gm), .int .i64 0]) (t := 71) (by rfl) rfl (by first | (go_simp; done) | (go_simp; rfl)) ?_
  intro gd hgd w9 hbox hb
  have HGD := Aside0.mk hgd
  have HBD := Aside0.mk hbox
  have HB9 := Aside0.mk hb
  refine hK.out _ _ ?_
  clear hK K hb hgd hbox hHeld
  refine norm_ (a' := ?_) ?_ ?_
  rotate_left
  · show Act.put _ (some 16) _ = _
    simp only [Act.put, List.setIfInBounds_toArray, List.set_cons_zero, List.set_cons_succ, i64_w, i32_w]
    rfl
  refine pure_ (i := 12) (N := some 4) (v := ?_) (a' := ?_) #[true, true, true, true, true, true, true, true, true, true, true, true, true] rfl rfl (any_of HT_.out (by kernel_rfl)) (fun _ _ _ h => h) (Or.inl ⟨by rfl, ?_⟩) ?_ ?_
  rotate_left
  · intro w'
    go_simp
    with_reducible rfl
  rotate_left
  · simp only [Act.put, List.setIfInBounds_toArray, List.set_cons_zero, List.set_cons_succ, i64_w, i32_w]
    rfl
  refine done_ (done_of HT_.out (by kernel_rfl)) ?_
  go_wp2
  go_ret
  exact new_done HBN.out HHX.out RF.out RP.out OM.out GM.out HGD.out HBD.out HB9.out
theorem Ranges.nodup_todo {P : Program} {t : TypeId} {M : HStrMap.SM P t} {w : World} {b r n cnt : Nat} {l todo : List (ByteArray × Value)} (h : HStrMap.Ranges M w b r n l todo cnt) : (todo.map Prod.fst).Nodup := by
  obtain ⟨es, lf, h1, h2, h3, h4, h5, h6, h7⟩ := h
  exact h6
/-- What of the files is still to come. -/
def LeftOf (l F : List (Nm × FA)) (todo : List (ByteArray × Value)) : Prop := ∀ nm, (str nm ∈ todo.map Prod.fst ∧ get F nm = none) ∨ (str nm ∉ todo.map Prod.fst ∧ get F nm = get l nm)
theorem copy_none (l : List (Nm × FA)) (V : Nm → Nat) : LeftOf l [] (mapL l V) := fun nm => by
  by_cases h : str nm ∈ (mapL l V).map Prod.fst
  · exact .inl ⟨h, rfl⟩
  · refine .inr ⟨h, ?_⟩
    cases hg : get l nm with
    | none => rfl
    | some f => exact absurd (List.mem_map.2 ⟨(str nm, .pointer (some ⟨V nm, 0, none⟩)), List.mem_map.2 ⟨(nm, f), get_mem hg, rfl⟩, rfl⟩) h
theorem copy_next {l F : List (Nm × FA)} {todo todo' : List (ByteArray × Value)} {p : Nm × FA} {v : Value} (hr : Rising F) (hF : LeftOf l F todo) (hp : todo.Perm ((str p.1, v) :: todo')) (hn : (todo.map Prod.fst).Nodup) (hg : get l p.1 = some p.2) :
    LeftOf l (put p.1 p.2 F) todo' := by
  intro nm
  have hm : ∀ x, x ∈ todo.map Prod.fst ↔ x = str p.1 ∨ x ∈ todo'.map Prod.fst := fun x => by rw [(hp.map Prod.fst).mem_iff, List.map_cons, List.mem_cons]
  have hnd : (((str p.1, v) :: todo').map Prod.fst).Nodup := (hp.map _).nodup_iff.1 hn
  rw [List.map_cons, List.nodup_cons] at hnd
  rw [get_put hr]
  by_cases e : nm = p.1
  · rw [if_pos e, e, hg]
    exact .inr ⟨hnd.1, rfl⟩
  · rw [if_neg e]
    have he : str nm ≠ str p.1 := fun q => e (str_inj q)
    rcases hF nm with ⟨h1, h2⟩ | ⟨h1, h2⟩
    · exact .inl ⟨((hm _).1 h1).resolve_left he, h2⟩
    · exact .inr ⟨fun q => h1 ((hm _).2 (.inr q)), h2⟩
theorem copy_base {w W w2 : World} {φ2 : Nat → Tg} {gc : Nat} {S : DA} (hs : w.heap.size ≤ W.heap.size) (h : DAt w2 φ2 W.heap.size gc (newP S.room S.fails S.parts)) (hr : max S.room 0 = S.room) : DAt w2 φ2 w.heap.size gc { S with calls := 0, files := [] } := by
  obtain ⟨gm, n, V, Af, cf, Ap, cp, hd, hn⟩ := h
  unfold newP at hd
  rw [hr] at hd
  exact ⟨gm, n, V, Af, cf, Ap, cp, ⟨hd.blk, hd.tgd, hd.tgm, hd.fls, hd.pts, hd.own, hd.rise, hd.file, fun k hk => ⟨Nat.le_trans hs (hd.dom k hk).1, (hd.dom k hk).2⟩⟩, hn⟩
theorem copy_b6 {w9 wb w6 : World} {gm2 k : Nat} (hb : Below w9.heap.size w9 wb) (hg : wb.grownBy w6 (some gm2)) (hk : k < w9.heap.size) (hne : k ≠ gm2) : w6.heap[k]? = w9.heap[k]? :=
  (hg.block k (Nat.lt_of_lt_of_le hk hb.size) (fun e => hne (Option.some.inj e))).trans (hb.block k hk)
theorem copy_add {w9 wc wb w6 : World} {ψ : Nat → Tg} {B gc : Nat} {S : DA} {F : List (Nm × FA)} {gm2 nq : Nat} {Vq : Nm → Nat} {Af : Option Addr} {cf : Nat} {Ap : Option Addr} {cp : Nat} {l : List (Nm × FA)} {todo todo' : List (ByteArray × Value)} {p : Nm × FA} {v : Value} {A1 : Option Addr} {c1 gb : Nat}
    (h : DIn w9 ψ B gc { S with files := F } gm2 nq Vq Af cf Ap cp) (hhb : Below w9.heap.size w9 wb) (hF : LeftOf l F todo) (hp : todo.Perm ((str p.1, v) :: todo')) (hxc : Below w9.heap.size w9 wc)
    (hr : Kd.R (Kd.int .u8) 5 wc w9.heap.size (fun _ => True) (.slice A1 p.2.b.length c1) p.2.b) (hgb : gb = wc.heap.size) (hbx : wb.heap[gb]? = some (.cells #[.slice A1 p.2.b.length c1, .int .i64 p.2.safe] 82 (0, 0))) (hbb : Below wc.heap.size wc wb)
    (ho : HStrMap.Owns m69 w6 gm2 (nq + 1) ((str p.1, .pointer (some ⟨gb, 0, none⟩)) :: HStrMap.without (mapL F Vq) (str p.1))) (hg : wb.grownBy w6 (some gm2)) :
    ∃ ψ', DIn w6 ψ' B gc { S with files := put p.1 p.2 F } gm2 (nq + 1) (fun m => if m = p.1 then gb else Vq m) Af cf Ap cp ∧ Step w9 w6 ψ ψ' := by
  have hgm := (h.dom gm2 (by rw [h.tgm]; intro e; cases e)).2
  have hn : get F p.1 = none := (hF p.1).elim (fun h => h.2) (fun h => absurd (by rw [(hp.map Prod.fst).mem_iff]; exact List.mem_cons_self) h.1)
  have hr2 := Kd.R_bound (Kd.R_below hr hbb)
  have hr3 := Kd.R_move hr2 (fun k hk => hg.block k hk.2.2.1 (fun e => by have := Option.some.inj e; have := hk.2.1; omega))
  refine h.add (f := p.2) (A := A1) (c := c1) (by rw [hgb]; exact hxc.size) hn ho ((hg.block gb (blk_lt hbx) (fun e => by have := Option.some.inj e; have := hxc.size; omega)).trans hbx) (Kd.R_mono hr3 (fun _ _ => trivial)) ?_
  exact (Chg.of_below _ hhb).trans (Chg.of_grown hg) (fun k hk => .inl hk)
def r29_3.T : Bool × List (List Nat × List Nat) := (true, [([], []), ([0], [0]), ([1], [1]), ([2], [2]), ([], []), ([4], [4]), ([5], [5]), ([6], [6]), ([3, 7], [3, 7]), ([8, 8, 0, 1, 2, 3, 4, 5, 6, 7, 8], [8])])
def r29_3.B : List Nat := [0, 1, 3, 7, 0, 16, 48, 112, 255, 511]
theorem r29_3.tab : rtab .any (opsOf Try.f29 3) = r29_3.T := by kernel_rfl
theorem r29_3.bits : waitsOk r29_3.T.2 r29_3.B = true := by kernel_rfl
def r29_8.T : Bool × List (List Nat × List Nat) := (true, [([], []), ([0], [0]), ([1], [1]), ([2], [2]), ([], []), ([], []), ([5], [5]), ([6], [6]), ([7], [7]), ([8], [8]), ([], []), ([10], [10]), ([11], [11]), ([12], [12]), ([9, 13], [9, 13]), ([14], [14]), ([3, 4, 15, 9, 0, 1, 2, 3, 4, 5, 6, 7, 8, 9, 10, 11, 12, 13, 14, 15], [3, 4, 15])])
def r29_8.B : List Nat := [0, 1, 3, 7, 0, 0, 32, 96, 224, 480, 0, 1024, 3072, 7168, 16352, 32736, 65535]
theorem r29_8.tab : rtab .any (opsOf Try.f29 8) = r29_8.T := by kernel_rfl
theorem r29_8.bits : waitsOk r29_8.T.2 r29_8.B = true := by kernel_rfl
def CopyRel (w : World) (gm rr n : Nat) (V : Nm → Nat) (S : DA) (gc gm2 : Nat) (Af2 : Option Addr) (cf2 : Nat) (Ap2 : Option Addr) (cp2 : Nat) (wq : World) : Prop := ∃ (todo : List (ByteArray × Value)) (cnt nq : Nat) (F : List (Nm × FA)) (Vq : Nm → Nat) (ψ : Nat → Tg), Aside0 (HStrMap.Ranges m69 wq gm rr n (mapL S.files V) todo cnt) ∧ Aside0 (nq + todo.length ≤ S.files.length) ∧ Aside0 (LeftOf S.files F todo) ∧ Aside0 (DIn wq ψ w.heap.size gc { S with files := F } gm2 nq Vq Af2 cf2 Ap2 cp2) ∧ Aside0 (Below w.heap.size w wq) ∧ Aside0 (ψ rr = .no)
set_option maxHeartbeats 8000000 in
set_option maxRecDepth 100000 in
theorem copy_at (gd B : Nat) (φ : Nat → Tg) (S : DA) (w : World) (h : DAt w φ B gd S) (hS : Small S) (hF : Fits S) (hnl : ∀ p ∈ S.files, p.1.length ≤ 1000) :
    Calls Try.prog 29 #[.pointer (some ⟨gd, 0, none⟩)] w fun e w' => ∃ gc ψ, e = .returned (.pointer (some ⟨gc, 0, none⟩)) ∧ DAt w' ψ w.heap.size gc S ∧ Below w.heap.size w w' := by
  obtain ⟨gm, n, V, Af, cf, Ap, cp, hd, hn⟩ := h
  have HD := Aside0.mk hd
  have HN := Aside0.mk hn
  have HS := Aside0.mk hS
  have HF := Aside0.mk hF
  have HNL := Aside0.mk hnl
  have k0 : w.cell? ⟨gd, 0, none⟩ = some (.bool true) := (blk_cell hd.blk 0).trans rfl
  have k1 : w.cell? ⟨gd, 1, none⟩ = some (.int .i64 S.room) := (blk_cell hd.blk 1).trans rfl
  have k2 : w.cell? ⟨gd, 2, none⟩ = some (.slice Af S.fails.length cf) := (blk_cell hd.blk 2).trans rfl
  have k3 : w.cell? ⟨gd, 3, none⟩ = some (.slice Ap S.parts.length cp) := (blk_cell hd.blk 3).trans rfl
  have HNEW : Aside0 (∀ W, Below w.heap.size w W → Calls Try.prog 12 #[.int .i64 S.room, .agg #[.slice Af S.fails.length cf, .slice Ap S.parts.length cp]] W fun e w' => ∃ gd φ, e = .returned (.pointer (some ⟨gd, 0, none⟩)) ∧ DAt w' φ W.heap.size gd (newP S.room S.fails S.parts) ∧ Below W.heap.size W w') := ⟨fun W hb => new_at S.room Af cf S.fails Ap cp S.parts W (Kd.C_below (Kd.R_reads' hd.fls).2.2 hb) (Kd.R_reads' hd.fls).2.1 hS.fl (Kd.C_below (Kd.R_reads' hd.pts).2.2 hb) (Kd.R_reads' hd.pts).2.1 hS.pl⟩
  have hroom : max S.room 0 = S.room := by have := hF.fit; have := used_nonneg S.files; omega
  have HRM := Aside0.mk hroom
  clear hd hn hS hF hnl hroom
  go_enter Try.func29, Try.ntmps29
  go_upto_region 3 with (first | (go_at_call 34; refine (is_made gd true _ k0).mono ?_; rintro e w5 ⟨rfl, rfl⟩))
  refine start_ (n := 10) (S := fun w' => Below w.heap.size w w') (ds := []) #[false, false, false, false, false, false, false, false, false, false] (by kernel_rfl) rfl rfl (below_drew (Below.refl _ _)) (fun hHeld => ?_)
  refine with_tabW r29_3.tab r29_3.bits (fun HT_ HW_ => ?_)
  generalize w.drew = wd at hHeld ⊢
  refine pure_ (i := 0) (N := some 9) (v := ?_) (a' := ?_) #[true, false, false, false, false, false, false, false, false, false] rfl rfl (any_of HT_.out (by kernel_rfl)) (fun _ _ _ h => h) (Or.inl ⟨by rfl, ?_⟩) ?_ ?_
  rotate_left
  · intro w'
    go_simp
    with_reducible rfl
  rotate_left
  · simp only [Act.put, List.setIfInBounds_toArray, List.set_cons_zero, List.set_cons_succ, i64_w, i32_w]
    rfl
  refine take_ (i := 1) (N := some 10) (v := ?_) (a' := ?_) #[true, true, false, false, false, false, false, false, false, false] rfl rfl (take_ofW HT_.out HW_.out (by kernel_rfl)) (fun _ _ _ h => h) (Or.inl ⟨by rfl, ?_⟩) hHeld ?_ ?_
  rotate_left
  · rintro w' hbq
    have c_k0 := (hbq.cell (World.block_lt_of_cell? w _ k0)).trans k0
    go_simp
    with_reducible rfl
  rotate_left
  · simp only [Act.put, List.setIfInBounds_toArray, List.set_cons_zero, List.set_cons_succ, i64_w, i32_w]
    rfl
  refine pure_ (i := 2) (N := some 11) (v := ?_) (a' := ?_) #[true, true, true, false, false, false, false, false, false, false] rfl rfl (any_of HT_.out (by kernel_rfl)) (fun _ _ _ h => h) (Or.inl ⟨by rfl, ?_⟩) ?_ ?_
  rotate_left
  · intro w'
    go_simp
    with_reducible rfl
  rotate_left
  · simp only [Act.put, List.setIfInBounds_toArray, List.set_cons_zero, List.set_cons_succ, i64_w, i32_w]
    rfl
  refine take_ (i := 3) (N := some 12) (v := ?_) (a' := ?_) #[true, true, true, true, false, false, false, false, false, false] rfl rfl (take_ofW HT_.out HW_.out (by kernel_rfl)) (fun _ _ _ h => h) (Or.inl ⟨by rfl, ?_⟩) hHeld ?_ ?_
  rotate_left
  · rintro w' hbq
    have c_k1 := (hbq.cell (World.block_lt_of_cell? w _ k1)).trans k1
    go_simp
    with_reducible rfl
  rotate_left
  · simp only [Act.put, List.setIfInBounds_toArray, List.set_cons_zero, List.set_cons_succ, i64_w, i32_w]
    rfl
  refine pure_ (i := 4) (N := some 13) (v := ?_) (a' := ?_) #[true, true, true, true, true, false, false, false, false, false] rfl rfl (any_of HT_.out (by kernel_rfl)) (fun _ _ _ h => h) (Or.inl ⟨by rfl, ?_⟩) ?_ ?_
  rotate_left
  · intro w'
    go_simp
    with_reducible rfl
  rotate_left
  · simp only [Act.put, List.setIfInBounds_toArray, List.set_cons_zero, List.set_cons_succ, i64_w, i32_w]
    rfl
  refine take_ (i := 5) (N := some 14) (v := ?_) (a' := ?_) #[true, true, true, true, true, true, false, false, false, false] rfl rfl (take_ofW HT_.out HW_.out (by kernel_rfl)) (fun _ _ _ h => h) (Or.inl ⟨by rfl, ?_⟩) hHeld ?_ ?_
  rotate_left
  · rintro w' hbq
    have c_k0 := (hbq.cell (World.block_lt_of_cell? w _ k0)).trans k0
    go_simp
    with_reducible rfl
  rotate_left
  · simp only [Act.put, List.setIfInBounds_toArray, List.set_cons_zero, List.set_cons_succ, i64_w, i32_w]
    rfl
  refine pure_ (i := 6) (N := some 15) (v := ?_) (a' := ?_) #[true, true, true, true, true, true, true, false, false, false] rfl rfl (any_of HT_.out (by kernel_rfl)) (fun _ _ _ h => h) (Or.inl ⟨by rfl, ?_⟩) ?_ ?_
  rotate_left
  · intro w'
    go_simp
    with_reducible rfl
  rotate_left
  · simp only [Act.put, List.setIfInBounds_toArray, List.set_cons_zero, List.set_cons_succ, i64_w, i32_w]
    rfl
  refine take_ (i := 7) (N := some 16) (v := ?_) (a' := ?_) #[true, true, true, true, true, true, true, true, false, false] rfl rfl (take_ofW HT_.out HW_.out (by kernel_rfl)) (fun _ _ _ h => h) (Or.inl ⟨by rfl, ?_⟩) hHeld ?_ ?_
  rotate_left
  · rintro w' hbq
    have c_k2 := (hbq.cell (World.block_lt_of_cell? w _ k2)).trans k2
    have c_k3 := (hbq.cell (World.block_lt_of_cell? w _ k3)).trans k3
    go_simp
    with_reducible rfl
  rotate_left
  · simp only [Act.put, List.setIfInBounds_toArray, List.set_cons_zero, List.set_cons_succ, i64_w, i32_w]
    rfl
  refine one_ (i := 8) (N := some 17) #[true, true, true, true, true, true, true, true, true, false] rfl rfl (one_of HT_.out (by kernel_rfl)) (by decide) (fun K hK => ?_)
  refine goes_ Try.func12 (by kernel_rfl) rfl #[.int .i64 S.room, .agg #[.slice Af S.fails.length cf, .slice Ap S.parts.length cp]] (by rfl) rfl rfl (by first | done | rfl | (simp only [List.map_toArray, List.map_cons, List.map_nil]; rfl)) ?_
  refine (HNEW.out _ hHeld).mono ?_
  rintro e0 w2 ⟨gc, φ2, rfl, hd2, hb⟩
  refine ⟨_, rfl, ?_⟩
  have HB2 := Aside0.mk (below_step hHeld hb)
  have HD2 := Aside0.mk (copy_base (below_size hHeld) hd2 HRM.out)
  refine hK.out _ _ HB2.out (fun hHeld => ?_)
  clear hK K hb hd2 hHeld
  refine norm_ (a' := ?_) ?_ ?_
  rotate_left
  · show Act.put _ (some 17) _ = _
    simp only [Act.put, List.setIfInBounds_toArray, List.set_cons_zero, List.set_cons_succ, i64_w, i32_w]
    rfl
  refine pure_ (i := 9) (N := some 3) (v := ?_) (a' := ?_) #[true, true, true, true, true, true, true, true, true, true] rfl rfl (any_of HT_.out (by kernel_rfl)) (fun _ _ _ h => h) (Or.inl ⟨by rfl, ?_⟩) ?_ ?_
  rotate_left
  · intro w'
    go_simp
    with_reducible rfl
  rotate_left
  · simp only [Act.put, List.setIfInBounds_toArray, List.set_cons_zero, List.set_cons_succ, i64_w, i32_w]
    rfl
  refine done_ (done_of HT_.out (by kernel_rfl)) ?_
  obtain ⟨gm2, n2, V2, Af2, cf2, Ap2, cp2, hd2, hn20⟩ := HD2.out
  have hn2 : (n2 : Int) ≤ 0 := hn20
  obtain rfl : n2 = 0 := by omega
  clear hn2 hn20
  have HDC := Aside0.mk hd2
  clear HD2
  have q5 : w2.cell? ⟨gd, 5, none⟩ = some (.int .i64 S.calls) := (HB2.out.cell (World.block_lt_of_cell? w ⟨gd, 5, none⟩ ((blk_cell HD.out.blk 5).trans rfl))).trans ((blk_cell HD.out.blk 5).trans rfl)
  have q4 : w2.cell? ⟨gd, 4, none⟩ = some (.map (some gm)) := (HB2.out.cell (World.block_lt_of_cell? w ⟨gd, 4, none⟩ ((blk_cell HD.out.blk 4).trans rfl))).trans ((blk_cell HD.out.blk 4).trans rfl)
  have q0 : w2.cell? ⟨gc, 5, none⟩ = some (.int .i64 0) := (blk_cell hd2.blk 5).trans rfl
  have qz := fun j => blk_frozen hd2.blk j
  have hne : gc ≠ gd := fun e => by have h1 := (hd2.dom gc (by rw [hd2.tgd]; intro e; cases e)).1; have h2 := (HD.out.dom gd (by rw [HD.out.tgd]; intro e; cases e)).2; omega
  have q4' : (w2.setCell ⟨gc, 5, none⟩ (.int .i64 S.calls)).cell? ⟨gd, 4, none⟩ = some (.map (some gm)) := cell_set q4 (fun e => hne e.symm)
  have HDC2 := Aside0.mk (hd2.count S.calls)
  clear hd2 hne
  go_upto_region 5 with (fail)
  generalize hw3 : w2.setCell ⟨gc, 5, none⟩ (.int .i64 S.calls) = w3 at HDC2 q4' ⊢
  have HB3 : Aside0 (Below w.heap.size w w3) := ⟨by rw [← hw3]; exact HB2.out.setCell (p := ⟨gc, 5, none⟩) (HDC.out.dom gc (by rw [HDC.out.tgd]; intro e; cases e)).1 _⟩
  clear q5 q4 q0 qz hw3 k0 k1 k2 k3
  obtain ⟨rr, hrr0⟩ : ∃ rr, rr = w3.heap.size := ⟨_, rfl⟩
  have HRR := Aside0.mk hrr0
  clear hrr0
  have HOW3 := Aside0.mk (HD.out.own.move (HB3.out.block gm (HD.out.dom gm (by rw [HD.out.tgm]; intro e; cases e)).2))
  go_upto_region 6 with (at_range; (with_reducible refine HStrMap.wp_range m69 _ rfl (.tmp 28) rfl gm n _ ?h1 HOW3.out ?_); (case h1 => rfl); intro w9 cnt hr9 hg9 hs9; have RG := Aside0.mk hr9; have HB9 := Aside0.mk (pw_below_grown (Below.refl w3.heap.size w3) none (Nat.le_refl _) hg9 (fun k e => by cases e)); clear hr9 hg9 hs9)
  rw [← HRR.out]
  rw [← HRR.out] at RG
  go_loopw [4] (fun v4 wq => CopyRel w gm rr n V S gc gm2 Af2 cf2 Ap2 cp2 wq) (fun v4 wq => wq.rangeLeft gm rr)
  case atStart => exact ⟨_, cnt, 0, [], V2, φ2, RG, ⟨by simp [mapL]⟩, ⟨copy_none S.files V⟩, ⟨HDC2.out.below HB9.out⟩, ⟨below_step HB3.out HB9.out⟩, ⟨Classical.byContradiction (fun q => by have := (HDC2.out.dom rr q).2; have := HRR.out; omega)⟩⟩
  case round =>
    obtain ⟨todo, cnt, nq, F, Vq, ψ, RQ, HQ, HG, HDQ, HBQ, HNO⟩ := hrel
    rename World => wq
    clear RG HB9
    go_wp2_with (at_next; (with_reducible refine HStrMap.wp_next m69 _ rfl (.tmp 29) rfl gm rr n cnt _ todo ?h1 RQ.out ?_ ?_); (case h1 => rfl))
    · intro hdone
      have HDN := Aside0.mk hdone
      clear hdone
      go_wp2
      go_ret
      have hG := HG.out
      rw [HDN.out] at hG
      have hFS : F = S.files := rising_ext HDQ.out.rise HD.out.rise (fun nm => (hG nm).elim (fun h => by cases h.1) (fun h => h.2))
      have hl := HD.out.own.len
      have hq := HQ.out
      refine ⟨gc, ψ, rfl, ⟨gm2, nq, Vq, Af2, cf2, Ap2, cp2, by have := HDQ.out; rw [hFS] at this; exact this, ?_⟩, HBQ.out⟩
      have := HN.out
      rw [HDN.out] at hq
      simp only [mapL, List.length_map, List.length_nil] at hl hq
      show (nq : Int) ≤ S.calls
      omega
    · intro s v todo' w9 cnt9 hsz hperm hr9 hlt9 hg9 hs9 hen
      have RG9 := Aside0.mk hr9
      have HLT := Aside0.mk hlt9
      have HPM := Aside0.mk hperm
      have HSZ := Aside0.mk hsz
      have HB9 := Aside0.mk (pw_below_grown HBQ.out _ (below_size HBQ.out) hg9 (fun k e => by cases e; rw [HRR.out]; exact below_size HB3.out))
      have HD9 := Aside0.mk (HDQ.out.move hg9.size (fun k hk => hg9.block k (HDQ.out.dom k hk).2 (fun e => by cases e; exact hk HNO.out)))
      have hmem := RQ.out.mem (s, v) (hperm.mem_iff.2 List.mem_cons_self)
      clear hsz hperm hr9 hlt9 hg9 hs9
      obtain ⟨p, hp, hpe⟩ := List.mem_map.1 hmem
      simp only [Prod.mk.injEq] at hpe
      obtain ⟨rfl, rfl⟩ := hpe
      obtain ⟨A, c, f1, f2, f3⟩ := HD.out.file p hp
      have f19 := blk_below f1 HB9.out
      have hc0 : w9.cell? ⟨V p.1, 0, none⟩ = some (.slice A p.2.b.length c) := (blk_cell f19 0).trans rfl
      have hc1 : w9.cell? ⟨V p.1, 1, none⟩ = some (.int .i64 p.2.safe) := (blk_cell f19 1).trans rfl
      have k4 : w9.cell? ⟨gc, 4, none⟩ = some (.map (some gm2)) := (blk_cell HD9.out.blk 4).trans rfl
      have HRA := Aside0.mk (Kd.C_below f3.reads.2.2 HB9.out)
      have HRC := Aside0.mk f3.reads.2.1
      have HRL := Aside0.mk (HS.out.len p hp)
      have HPG := Aside0.mk (mem_get HD.out.rise hp)
      clear hmem f1 f2 f3 f19 hp
      go_upto_region 8 with (fail)
      refine start_ (n := 17) (S := fun w' => Below w9.heap.size w9 w') (ds := [16]) #[false, false, false, false, false, false, false, false, false, false, false, false, false, false, false, false, false] (by kernel_rfl) rfl rfl (below_drew (Below.refl _ _)) (fun hHeld => ?_)
      refine with_tabW r29_8.tab r29_8.bits (fun HT_ HW_ => ?_)
      generalize w9.drew = wd at hHeld ⊢
      refine pure_ (i := 0) (N := some 35) (v := ?_) (a' := ?_) #[true, false, false, false, false, false, false, false, false, false, false, false, false, false, false, false, false] rfl rfl (any_of HT_.out (by kernel_rfl)) (fun _ _ _ h => h) (Or.inl ⟨by rfl, ?_⟩) ?_ ?_
      rotate_left
      · intro w'
        go_simp
        with_reducible rfl
      rotate_left
      · simp only [Act.put, List.setIfInBounds_toArray, List.set_cons_zero, List.set_cons_succ, i64_w, i32_w]
        rfl
      refine pure_ (i := 1) (N := some 36) (v := ?_) (a' := ?_) #[true, true, false, false, false, false, false, false, false, false, false, false, false, false, false, false, false] rfl rfl (any_of HT_.out (by kernel_rfl)) (fun _ _ _ h => h) (Or.inl ⟨by rfl, ?_⟩) ?_ ?_
      rotate_left
      · intro w'
        go_simp
        with_reducible rfl
      rotate_left
      · simp only [Act.put, List.setIfInBounds_toArray, List.set_cons_zero, List.set_cons_succ, i64_w, i32_w]
        rfl
      refine pure_ (i := 2) (N := some 37) (v := ?_) (a' := ?_) #[true, true, true, false, false, false, false, false, false, false, false, false, false, false, false, false, false] rfl rfl (any_of HT_.out (by kernel_rfl)) (fun _ _ _ h => h) (Or.inl ⟨by rfl, ?_⟩) ?_ ?_
      rotate_left
      · intro w'
        go_simp
        with_reducible rfl
      rotate_left
      · simp only [Act.put, List.setIfInBounds_toArray, List.set_cons_zero, List.set_cons_succ, i64_w, i32_w]
        rfl
      refine take_ (i := 3) (N := some 38) (v := ?_) (a' := ?_) #[true, true, true, true, false, false, false, false, false, false, false, false, false, false, false, false, false] rfl rfl (take_ofW HT_.out HW_.out (by kernel_rfl)) (fun _ _ _ h => h) (Or.inl ⟨by rfl, ?_⟩) hHeld ?_ ?_
      rotate_left
      · rintro w' hbq
        have c_k4 := (hbq.cell (World.block_lt_of_cell? w9 _ k4)).trans k4
        go_simp
        with_reducible rfl
      rotate_left
      · simp only [Act.put, List.setIfInBounds_toArray, List.set_cons_zero, List.set_cons_succ, i64_w, i32_w]
        rfl
      refine pure_ (i := 4) (N := some 39) (v := ?_) (a' := ?_) #[true, true, true, true, true, false, false, false, false, false, false, false, false, false, false, false, false] rfl rfl (any_of HT_.out (by kernel_rfl)) (fun _ _ _ h => h) (Or.inl ⟨by rfl, ?_⟩) ?_ ?_
      rotate_left
      · intro w'
        go_simp
        with_reducible rfl
      rotate_left
      · simp only [Act.put, List.setIfInBounds_toArray, List.set_cons_zero, List.set_cons_succ, i64_w, i32_w]
        rfl
      refine pure_ (i := 5) (N := some 40) (v := ?_) (a' := ?_) #[true, true, true, true, true, true, false, false, false, false, false, false, false, false, false, false, false] rfl rfl (any_of HT_.out (by kernel_rfl)) (fun _ _ _ h => h) (Or.inl ⟨by rfl, ?_⟩) ?_ ?_
      rotate_left
      · intro w'
        go_simp
        with_reducible rfl
      rotate_left
      · simp only [Act.put, List.setIfInBounds_toArray, List.set_cons_zero, List.set_cons_succ, i64_w, i32_w]
        rfl
      refine pure_ (i := 6) (N := some 41) (v := ?_) (a' := ?_) #[true, true, true, true, true, true, true, false, false, false, false, false, false, false, false, false, false] rfl rfl (any_of HT_.out (by kernel_rfl)) (fun _ _ _ h => h) (Or.inl ⟨by rfl, ?_⟩) ?_ ?_
      rotate_left
      · intro w'
        go_simp
        with_reducible rfl
      rotate_left
      · simp only [Act.put, List.setIfInBounds_toArray, List.set_cons_zero, List.set_cons_succ, i64_w, i32_w]
        rfl
      refine pure_ (i := 7) (N := some 42) (v := ?_) (a' := ?_) #[true, true, true, true, true, true, true, true, false, false, false, false, false, false, false, false, false] rfl rfl (any_of HT_.out (by kernel_rfl)) (fun _ _ _ h => h) (Or.inl ⟨by rfl, ?_⟩) ?_ ?_
      rotate_left
      · intro w'
        go_simp
        with_reducible rfl
      rotate_left
      · simp only [Act.put, List.setIfInBounds_toArray, List.set_cons_zero, List.set_cons_succ, i64_w, i32_w]
        rfl
      refine take_ (i := 8) (N := some 43) (v := ?_) (a' := ?_) #[true, true, true, true, true, true, true, true, true, false, false, false, false, false, false, false, false] rfl rfl (take_ofW HT_.out HW_.out (by kernel_rfl)) (fun _ _ _ h => h) (Or.inl ⟨by rfl, ?_⟩) hHeld ?_ ?_
      rotate_left
      · rintro w' hbq
        have c_hc0 := (hbq.cell (World.block_lt_of_cell? w9 _ hc0)).trans hc0
        go_simp
        with_reducible rfl
      rotate_left
      · simp only [Act.put, List.setIfInBounds_toArray, List.set_cons_zero, List.set_cons_succ, i64_w, i32_w]
        rfl
      refine pure_ (i := 10) (N := some 45) (v := ?_) (a' := ?_) #[true, true, true, true, true, true, true, true, true, false, true, false, false, false, false, false, false] rfl rfl (any_of HT_.out (by kernel_rfl)) (fun _ _ _ h => h) (Or.inl ⟨by rfl, ?_⟩) ?_ ?_
      rotate_left
      · intro w'
        go_simp
        with_reducible rfl
      rotate_left
      · simp only [Act.put, List.setIfInBounds_toArray, List.set_cons_zero, List.set_cons_succ, i64_w, i32_w]
        rfl
      refine pure_ (i := 11) (N := some 46) (v := ?_) (a' := ?_) #[true, true, true, true, true, true, true, true, true, false, true, true, false, false, false, false, false] rfl rfl (any_of HT_.out (by kernel_rfl)) (fun _ _ _ h => h) (Or.inl ⟨by rfl, ?_⟩) ?_ ?_
      rotate_left
      · intro w'
        go_simp
        with_reducible rfl
      rotate_left
      · simp only [Act.put, List.setIfInBounds_toArray, List.set_cons_zero, List.set_cons_succ, i64_w, i32_w]
        rfl
      refine pure_ (i := 12) (N := some 47) (v := ?_) (a' := ?_) #[true, true, true, true, true, true, true, true, true, false, true, true, true, false, false, false, false] rfl rfl (any_of HT_.out (by kernel_rfl)) (fun _ _ _ h => h) (Or.inl ⟨by rfl, ?_⟩) ?_ ?_
      rotate_left
      · intro w'
        go_simp
        with_reducible rfl
      rotate_left
      · simp only [Act.put, List.setIfInBounds_toArray, List.set_cons_zero, List.set_cons_succ, i64_w, i32_w]
        rfl
      refine take_ (i := 13) (N := some 48) (v := ?_) (a' := ?_) #[true, true, true, true, true, true, true, true, true, false, true, true, true, true, false, false, false] rfl rfl (take_ofW HT_.out HW_.out (by kernel_rfl)) (fun _ _ _ h => h) (Or.inl ⟨by rfl, ?_⟩) hHeld ?_ ?_
      rotate_left
      · rintro w' hbq
        have c_hc1 := (hbq.cell (World.block_lt_of_cell? w9 _ hc1)).trans hc1
        go_simp
        with_reducible rfl
      rotate_left
      · simp only [Act.put, List.setIfInBounds_toArray, List.set_cons_zero, List.set_cons_succ, i64_w, i32_w]
        rfl
      refine one_ (i := 9) (N := some 44) #[true, true, true, true, true, true, true, true, true, true, true, true, true, true, false, false, false] rfl rfl (one_of HT_.out (by kernel_rfl)) (by decide) (fun K hK => ?_)
      refine goes_ Try.func46 (by kernel_rfl) rfl #[.slice A p.2.b.length c] (by rfl) rfl rfl (by first | done | rfl | (simp only [List.map_toArray, List.map_cons, List.map_nil]; rfl)) ?_
      refine (clone46_at A c p.2.b _ (Kd.C_below HRA.out hHeld) HRC.out HRL.out).mono ?_
      rintro e0 wc ⟨A1, c1, rfl, hR, hb⟩
      refine ⟨_, rfl, ?_⟩
      have HOR := Aside0.mk (Kd.R_lower hR (below_size hHeld))
      have HXC := Aside0.mk (below_step hHeld hb)
      refine hK.out _ _ HXC.out (fun hHeld => ?_)
      clear hK K hR hb
      refine norm_ (a' := ?_) ?_ ?_
      rotate_left
      · show Act.put _ (some 44) _ = _
        simp only [Act.put, List.setIfInBounds_toArray, List.set_cons_zero, List.set_cons_succ, i64_w, i32_w]
        rfl
      refine pure_ (i := 14) (N := some 49) (v := ?_) (a' := ?_) #[true, true, true, true, true, true, true, true, true, true, true, true, true, true, true, false, false] rfl rfl (any_of HT_.out (by kernel_rfl)) (fun _ _ _ h => h) (Or.inl ⟨by rfl, ?_⟩) ?_ ?_
      rotate_left
      · intro w'
        go_simp
        with_reducible rfl
      rotate_left
      · simp only [Act.put, List.setIfInBounds_toArray, List.set_cons_zero, List.set_cons_succ, i64_w, i32_w]
        rfl
      refine one_ (i := 15) (N := some 50) #[true, true, true, true, true, true, true, true, true, true, true, true, true, true, true, true, false] rfl rfl (one_of HT_.out (by kernel_rfl)) (by decide) (fun K hK => ?_)
      refine box_step (N := 50) (cs := #[.slice A1 p.2.b.length c1, .int .i64 p.2.safe]) (t := 82) (by rfl) rfl (by first | (go_simp; done) | (go_simp; rfl)) ?_
      intro gb hgb wb hbox hb
      have HGB := Aside0.mk hgb
      have HBX := Aside0.mk hbox
      have HBB := Aside0.mk hb
      refine hK.out _ _ (below_step hHeld hb) (fun hHeld => ?_)
      have HHB := Aside0.mk hHeld
      clear hK K hbox hb hgb
      refine norm_ (a' := ?_) ?_ ?_
      rotate_left
      · show Act.put _ (some 50) _ = _
        simp only [Act.put, List.setIfInBounds_toArray, List.set_cons_zero, List.set_cons_succ, i64_w, i32_w]
        rfl
      refine last_ (i := 16) (N := none) #[true, true, true, true, true, true, true, true, true, true, true, true, true, true, true, true, true] rfl rfl (one_of HT_.out (by kernel_rfl)) (by decide) (fun K hK => ?_)
      refine HStrMap.step_store m69 _ (by rfl) (.tmp 38) (.tmp 39) (.tmp 50) rfl gm2 nq _ rfl (HD9.out.own.move (HHB.out.block gm2 (HD9.out.dom gm2 (by rw [HD9.out.tgm]; intro e; cases e)).2)) (by have h1 := HQ.out; have h2 := HD.out.own.len; have h3 := HN.out; have h4 := HS.out.c1; have h5 := HPM.out.length_eq; simp only [mapL, List.length_map, List.length_cons] at h2 h5; unfold maxLen; omega) (str p.1) rfl HSZ.out _ rfl ?_
      intro w6 ho6 hg6 hs6
      have HO6 := Aside0.mk ho6
      have HG6 := Aside0.mk hg6
      refine hK.out _ _ ?_
      clear hK K ho6 hg6 hs6 hHeld
      refine done_ (done_of HT_.out (by kernel_rfl)) ?_
      go_wp2
      go_roundw
      case rel =>
        obtain ⟨ψ', d1, d2⟩ := copy_add HD9.out HHB.out (HG.out) HPM.out HXC.out HOR.out HGB.out HBX.out HBB.out HO6.out HG6.out
        have hno := d2.2 rr (RG9.out.lt) HNO.out
        have hne : gm ≠ gm2 := fun e => by have h1 := (HD9.out.dom gm2 (by rw [HD9.out.tgm]; intro e; cases e)).1; have h2 := (HD.out.dom gm (by rw [HD.out.tgm]; intro e; cases e)).2; omega
        have hrne : rr ≠ gm2 := fun e => by have h1 := HNO.out; rw [e, HD9.out.tgm] at h1; cases h1
        have b6 : ∀ k, k < w9.heap.size → k ≠ gm2 → w6.heap[k]? = w9.heap[k]? := fun k h1 h2 => (HG6.out.block k (Nat.lt_of_lt_of_le h1 HHB.out.size) (fun e => h2 (Option.some.inj e))).trans (HHB.out.block k h1)
        refine ⟨todo', cnt9, nq + 1, _, _, ψ', ⟨RG9.out.move (b6 gm (RG9.out.owns.lt) hne) (b6 rr RG9.out.lt hrne)⟩, ⟨by have h1 := HQ.out; have h5 := HPM.out.length_eq; simp only [List.length_cons] at h5; omega⟩, ⟨copy_next HDQ.out.rise HG.out HPM.out (Ranges.nodup_todo RQ.out) HPG.out⟩, ⟨d1⟩, ⟨?_⟩, ⟨hno⟩⟩
        refine ⟨HG6.out.os.trans (HHB.out.os.trans HB9.out.os), HG6.out.tape.trans (HHB.out.tape.trans HB9.out.tape), HG6.out.output.trans (HHB.out.output.trans HB9.out.output), Nat.le_trans HB9.out.size (Nat.le_trans HHB.out.size HG6.out.size), fun k hk => ?_⟩
        refine (b6 k (Nat.lt_of_lt_of_le hk HB9.out.size) (fun e => ?_)).trans (HB9.out.block k hk)
        have h1 := (HD9.out.dom gm2 (by rw [HD9.out.tgm]; intro e; cases e)).1
        omega
      case measure =>
        have h1 := (HD9.out.dom gm2 (by rw [HD9.out.tgm]; intro e; cases e)).1
        have h2 := (HD.out.dom gm (by rw [HD.out.tgm]; intro e; cases e)).2
        have h3 : rr ≠ gm2 := fun e => by have h1 := HNO.out; rw [e, HD9.out.tgm] at h1; cases h1
        have e1 := HStrMap.Ranges.left (HStrMap.Ranges.move RG9.out (copy_b6 HHB.out HG6.out RG9.out.owns.lt (by omega)) (copy_b6 HHB.out HG6.out RG9.out.lt h3))
        rw [e1, HStrMap.Ranges.left RQ.out]
        exact HLT.out
end Go.Proofs.Yteibdmpjlpcgbaa.XDisk
