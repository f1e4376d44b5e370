/- What becomes of a disk in memory: a call counts, a file is made, taken away, called otherwise, or its content turns. -/
import Derived.Test.YteibdmpjlpcgbaaTHCall
namespace Go.Proofs.Yteibdmpjlpcgbaa.XDisk
open Go Go.RowKit Go.Proofs.YteibdmpjlpcgbaaW.PrintWords Go.Proofs.YteibdmpjlpcgbaaW.PrintLast Go.Proofs.YteibdmpjlpcgbaaW.PrintMore
open Go.Proofs.Yteibdmpjlpcgbaa
set_option linter.unusedVariables false
set_option linter.unusedSimpArgs false
variable {W W' : World} {φ : Nat → Tg} {B gd : Nat} {S : DA} {gm n : Nat} {V : Nm → Nat} {Af : Option Addr} {cf : Nat} {Ap : Option Addr} {cp : Nat}
theorem DIn.map_ne (h : DIn W φ B gd S gm n V Af cf Ap cp) : gd ≠ gm := by
  obtain ⟨es, c, hm⟩ := h.own.obj
  intro e
  rw [← e, h.blk] at hm
  cases hm
/-- A call counts. -/
theorem DIn.count (h : DIn W φ B gd S gm n V Af cf Ap cp) (c : Int) : DIn (W.setCell ⟨gd, 5, none⟩ (.int .i64 c)) φ B gd { S with calls := c } gm n V Af cf Ap cp := by
  have hb : ∀ k, k ≠ gd → (W.setCell ⟨gd, 5, none⟩ (.int .i64 c)).heap[k]? = W.heap[k]? := fun k hk => Below.heap_setCell W ⟨gd, 5, none⟩ _ k hk
  exact ⟨blk_put (cs' := #[.bool true, .int .i64 S.room, .slice Af S.fails.length cf, .slice Ap S.parts.length cp, .map (some gm), .int .i64 c]) h.blk 5 (.int .i64 c) rfl, h.tgd, h.tgm,
    Kd.R_set h.fls h.blk (by decide) 5 _, Kd.R_set h.pts h.blk (by decide) 5 _, h.own.move (hb gm h.map_ne.symm), h.rise,
    fun p hp => (h.file p hp).move (fun k hk => hb k (fun e => by rw [e, h.tgd] at hk; cases hk)), fun k hk => ⟨(h.dom k hk).1, by simpa using (h.dom k hk).2⟩⟩
theorem DIn.count_step (h : DIn W φ B gd S gm n V Af cf Ap cp) (c : Int) : Step W (W.setCell ⟨gd, 5, none⟩ (.int .i64 c)) φ φ :=
  ⟨(Chg.set _ _ _).mono (fun k hk => by subst hk; rw [h.tgd]; intro e; cases e), fun k _ h => h⟩
/-- The disk's own rows, where only other blocks turn. -/
theorem DIn.rows (h : DIn W φ B gd S gm n V Af cf Ap cp) {φ' : Nat → Tg} (hφ : ∀ k, φ k = .disk → φ' k = .disk) (hm : ∀ k, φ k = .disk → k ≠ gm → W'.heap[k]? = W.heap[k]?) :
    Kd.R (Kd.int .i64) 3 W' 0 (fun k => φ' k = .disk) (.slice Af S.fails.length cf) S.fails ∧ Kd.R (Kd.int .i64) 3 W' 0 (fun k => φ' k = .disk) (.slice Ap S.parts.length cp) S.parts := by
  obtain ⟨es, c, ho⟩ := h.own.obj
  have key : ∀ {v : Value} {xs : List Int}, Kd.R (Kd.int .i64) 3 W 0 (fun k => φ k = .disk) v xs → Kd.R (Kd.int .i64) 3 W' 0 (fun k => φ' k = .disk) v xs := fun {v xs} hr => by
    have h1 := Kd.R_bound hr
    refine Kd.R_mono (Kd.R_move h1 (fun k hk => hm k hk.1 (fun e => ?_))) (fun k hk => hφ k hk.1)
    obtain ⟨q, _, cells, hc⟩ := hk.2.2.2
    rw [e, ho] at hc
    cases hc
  exact ⟨key h.fls, key h.pts⟩
/-- A file is made. -/
theorem DIn.make (h : DIn W φ B gd S gm n V Af cf Ap cp) {nm : Nm} {g : Nat} (hg : W.heap.size ≤ g) (hn : get S.files nm = none)
    (ho : HStrMap.Owns m69 W' gm (n + 1) ((str nm, .pointer (some ⟨g, 0, none⟩)) :: HStrMap.without (mapL S.files V) (str nm))) (hb : W'.heap[g]? = some (.cells #[.slice none 0 0, .int .i64 0] 82 (0, 0))) (hc : Chg W W' (fun k => k = gm)) :
    ∃ φ', DIn W' φ' B gd { S with files := put nm ⟨[], 0⟩ S.files } gm (n + 1) (fun m => if m = nm then g else V m) Af cf Ap cp ∧ Step W W' φ φ' := by
  have hB : B ≤ W.heap.size := Nat.le_trans (h.dom gd (by rw [h.tgd]; intro e; cases e)).1 (Nat.le_of_lt (h.dom gd (by rw [h.tgd]; intro e; cases e)).2)
  have hlt : ∀ k, φ k ≠ .no → k ≠ g := fun k hk e => by have := (h.dom k hk).2; omega
  have hk0 : ∀ k, φ k ≠ .no → k ≠ gm → W'.heap[k]? = W.heap[k]? := fun k hk hne => hc.block k (h.dom k hk).2 hne
  have hd : ∀ k, φ k = .disk → (fun k => if k = g then Tg.file nm else φ k) k = .disk := fun k hk => by
    show (if k = g then Tg.file nm else φ k) = .disk
    rw [if_neg (hlt k (by rw [hk]; intro e; cases e))]
    exact hk
  obtain ⟨r1, r2⟩ := h.rows (W' := W') hd (fun k hk hne => hk0 k (by rw [hk]; intro e; cases e) hne)
  refine ⟨fun k => if k = g then .file nm else φ k, ⟨(hk0 gd (by rw [h.tgd]; intro e; cases e) h.map_ne).trans h.blk, hd gd h.tgd, hd gm h.tgm, r1, r2, ho.perm (mapL_put _ _ _ _ _), put_rising h.rise _ _, ?_, ?_⟩, hc.mono (fun k hk => by subst hk; rw [h.tgm]; intro e; cases e), ?_⟩
  · intro p hp
    rcases mem_put.1 hp with rfl | ⟨hp, hne⟩
    · show FileAt W' _ nm ⟨[], 0⟩ (if nm = nm then g else V nm)
      rw [if_pos rfl]
      exact ⟨none, 0, hb, if_pos rfl, FRow.nil⟩
    · show FileAt W' _ p.1 p.2 (if p.1 = nm then g else V p.1)
      rw [if_neg hne]
      obtain ⟨A, c, f1, f2, f3⟩ := h.file p hp
      have hx : ∀ k, φ k = .file p.1 → W'.heap[k]? = W.heap[k]? := fun k hk => hk0 k (by rw [hk]; intro e; cases e) (fun e => by rw [e, h.tgm] at hk; cases hk)
      have hy : ∀ k, φ k = .file p.1 → (if k = g then Tg.file nm else φ k) = .file p.1 := fun k hk => by rw [if_neg (hlt k (by rw [hk]; intro e; cases e))]; exact hk
      exact ⟨A, c, (hx _ f2).trans f1, hy _ f2, (f3.move hx).mono hy⟩
  · intro k hk
    by_cases e : k = g
    · subst e
      exact ⟨Nat.le_trans hB hg, blk_lt hb⟩
    · have hk' : φ k ≠ .no := fun q => hk (by show (if k = g then Tg.file nm else φ k) = .no; rw [if_neg e]; exact q)
      exact ⟨(h.dom k hk').1, Nat.lt_of_lt_of_le (h.dom k hk').2 hc.size⟩
  · intro k hk h0
    show (if k = g then Tg.file nm else φ k) = .no
    rw [if_neg (by omega)]
    exact h0
/-- A file, and the others. -/
theorem split_perm : ∀ {l : List (Nm × FA)}, Rising l → ∀ {nm : Nm} {f : FA}, get l nm = some f → l.Perm ((nm, f) :: del nm l)
  | [], _, nm, f, h => by simp [get] at h
  | p :: l, hr, nm, f, h => by
    have hr' := hr
    unfold Rising at hr
    rw [List.pairwise_cons] at hr
    by_cases e : p.1 = nm
    · have h1 : p = (nm, f) := by
        have : get (p :: l) nm = some p.2 := by simp [get, e]
        rw [this] at h
        have := Option.some.inj h
        cases p
        simp only at e this
        rw [e, this]
      subst h1
      have h2 : del nm ((nm, f) :: l) = l := by
        unfold del
        rw [List.filter_cons, if_neg (by simp)]
        refine List.filter_eq_self.2 (fun q hq => ?_)
        have := hr.1 q hq
        simp [Ne.symm (lt_ne' this)]
      rw [h2]
    · have h1 : get l nm = some f := by
        have : get (p :: l) nm = get l nm := by simp [get, e]
        rw [← this]; exact h
      have h2 : del nm (p :: l) = p :: del nm l := by
        unfold del
        rw [List.filter_cons, if_pos (by simp [e])]
      rw [h2]
      exact ((split_perm hr.2 h1).cons p).trans (List.Perm.swap _ _ _)
theorem DIn.bound (h : DIn W φ B gd S gm n V Af cf Ap cp) : B ≤ W.heap.size := by
  have := h.dom gd (by rw [h.tgd]; intro e; cases e)
  omega
/-- Other files, where only blocks of other tags turn. -/
theorem FileAt.turn {nm : Nm} {f : FA} {g : Nat} (h : FileAt W φ nm f g) {φ' : Nat → Tg} {nm' : Nm} (hm : ∀ k, φ k = .file nm → W'.heap[k]? = W.heap[k]?) (hφ : ∀ k, φ k = .file nm → φ' k = .file nm') : FileAt W' φ' nm' f g := by
  obtain ⟨A, c, h1, h2, h3⟩ := h
  exact ⟨A, c, (hm g h2).trans h1, hφ g h2, (h3.move (fun k hk => hm k hk)).mono hφ⟩
/-- A file is taken away. -/
theorem DIn.drop (h : DIn W φ B gd S gm n V Af cf Ap cp) {nm : Nm} (ho : HStrMap.Owns m69 W' gm n (HStrMap.without (mapL S.files V) (str nm))) (hc : Chg W W' (fun k => k = gm)) :
    ∃ φ', DIn W' φ' B gd { S with files := del nm S.files } gm n V Af cf Ap cp ∧ Step W W' φ φ' := by
  have hk0 : ∀ k, φ k ≠ .no → k ≠ gm → W'.heap[k]? = W.heap[k]? := fun k hk hne => hc.block k (h.dom k hk).2 hne
  have hd : ∀ k, φ k = .disk → (fun k => if φ k = Tg.file nm then Tg.no else φ k) k = .disk := fun k hk => by
    show (if φ k = Tg.file nm then Tg.no else φ k) = .disk
    rw [if_neg (by rw [hk]; intro e; cases e)]
    exact hk
  obtain ⟨r1, r2⟩ := h.rows (W' := W') hd (fun k hk hne => hk0 k (by rw [hk]; intro e; cases e) hne)
  refine ⟨fun k => if φ k = .file nm then .no else φ k, ⟨(hk0 gd (by rw [h.tgd]; intro e; cases e) h.map_ne).trans h.blk, hd gd h.tgd, hd gm h.tgm, r1, r2, by rw [mapL_del]; exact ho, del_rising h.rise _, ?_, ?_⟩, hc.mono (fun k hk => by subst hk; rw [h.tgm]; intro e; cases e), ?_⟩
  · intro p hp
    obtain ⟨hp, hne⟩ := mem_del.1 hp
    refine (h.file p hp).turn (fun k hk => hk0 k (by rw [hk]; intro e; cases e) (fun e => by rw [e, h.tgm] at hk; cases hk)) (fun k hk => ?_)
    show (if φ k = Tg.file nm then Tg.no else φ k) = .file p.1
    rw [if_neg (fun e => by rw [hk] at e; injection e with e; exact hne e)]
    exact hk
  · intro k hk
    have hk' : φ k ≠ .no := fun q => hk (by show (if φ k = Tg.file nm then Tg.no else φ k) = .no; rw [if_neg (by rw [q]; intro e; cases e)]; exact q)
    exact ⟨(h.dom k hk').1, Nat.lt_of_lt_of_le (h.dom k hk').2 hc.size⟩
  · intro k hk h0
    show (if φ k = Tg.file nm then Tg.no else φ k) = .no
    rw [if_neg (by rw [h0]; intro e; cases e)]
    exact h0
/-- A file is called otherwise. -/
theorem DIn.rename (h : DIn W φ B gd S gm n V Af cf Ap cp) {old nm : Nm} {f : FA} (hf : get S.files old = some f)
    (ho : HStrMap.Owns m69 W' gm (n + 1) ((str nm, .pointer (some ⟨V old, 0, none⟩)) :: HStrMap.without (HStrMap.without (mapL S.files V) (str old)) (str nm))) (hc : Chg W W' (fun k => k = gm)) :
    ∃ φ', DIn W' φ' B gd { S with files := put nm f (del old S.files) } gm (n + 1) (fun m => if m = nm then V old else V m) Af cf Ap cp ∧ Step W W' φ φ' := by
  have hk0 : ∀ k, φ k ≠ .no → k ≠ gm → W'.heap[k]? = W.heap[k]? := fun k hk hne => hc.block k (h.dom k hk).2 hne
  have hkf : ∀ m k, φ k = .file m → W'.heap[k]? = W.heap[k]? := fun m k hk => hk0 k (by rw [hk]; intro e; cases e) (fun e => by rw [e, h.tgm] at hk; cases hk)
  have hd : ∀ k, φ k = .disk → (fun k => if φ k = Tg.file old then Tg.file nm else if φ k = Tg.file nm then Tg.no else φ k) k = .disk := fun k hk => by
    show (if φ k = Tg.file old then Tg.file nm else if φ k = Tg.file nm then Tg.no else φ k) = .disk
    rw [if_neg (by rw [hk]; intro e; cases e), if_neg (by rw [hk]; intro e; cases e)]
    exact hk
  obtain ⟨r1, r2⟩ := h.rows (W' := W') hd (fun k hk hne => hk0 k (by rw [hk]; intro e; cases e) hne)
  refine ⟨fun k => if φ k = .file old then .file nm else if φ k = .file nm then .no else φ k, ⟨(hk0 gd (by rw [h.tgd]; intro e; cases e) h.map_ne).trans h.blk, hd gd h.tgd, hd gm h.tgm, r1, r2, ?_, put_rising (del_rising h.rise _) _ _, ?_, ?_⟩, hc.mono (fun k hk => by subst hk; rw [h.tgm]; intro e; cases e), ?_⟩
  · rw [← mapL_del] at ho
    exact ho.perm (mapL_put _ _ _ _ _)
  · intro p hp
    rcases mem_put.1 hp with rfl | ⟨hp, hne⟩
    · show FileAt W' _ nm f (if nm = nm then V old else V nm)
      rw [if_pos rfl]
      exact (h.file (old, f) (get_mem hf)).turn (hkf old) (fun k hk => if_pos hk)
    · obtain ⟨hp, hne2⟩ := mem_del.1 hp
      show FileAt W' _ p.1 p.2 (if p.1 = nm then V old else V p.1)
      rw [if_neg hne]
      refine (h.file p hp).turn (hkf p.1) (fun k hk => ?_)
      show (if φ k = Tg.file old then Tg.file nm else if φ k = Tg.file nm then Tg.no else φ k) = .file p.1
      rw [if_neg (fun e => by rw [hk] at e; injection e with e; exact hne2 e), if_neg (fun e => by rw [hk] at e; injection e with e; exact hne e)]
      exact hk
  · intro k hk
    have hk' : φ k ≠ .no := fun q => hk (by show (if φ k = Tg.file old then Tg.file nm else if φ k = Tg.file nm then Tg.no else φ k) = .no; rw [if_neg (by rw [q]; intro e; cases e), if_neg (by rw [q]; intro e; cases e)]; exact q)
    exact ⟨(h.dom k hk').1, Nat.lt_of_lt_of_le (h.dom k hk').2 hc.size⟩
  · intro k hk h0
    show (if φ k = Tg.file old then Tg.file nm else if φ k = Tg.file nm then Tg.no else φ k) = .no
    rw [if_neg (by rw [h0]; intro e; cases e), if_neg (by rw [h0]; intro e; cases e)]
    exact h0
/-- A file's content turns. -/
theorem DIn.content (h : DIn W φ B gd S gm n V Af cf Ap cp) {nm : Nm} {f f' : FA} {φ' : Nat → Tg} (hf : get S.files nm = some f) (hc : Chg W W' (fun k => φ k = .file nm))
    (hold : ∀ k, k < W.heap.size → φ' k = φ k) (hnew : ∀ k, W.heap.size ≤ k → φ' k ≠ .no → k < W'.heap.size) (hF : FileAt W' φ' nm f' (V nm)) :
    DIn W' φ' B gd { S with files := put nm f' S.files } gm n V Af cf Ap cp ∧ Step W W' φ φ' := by
  have hk0 : ∀ k, φ k ≠ .no → φ k ≠ .file nm → W'.heap[k]? = W.heap[k]? := fun k hk hne => hc.block k (h.dom k hk).2 hne
  have hφ : ∀ k, φ k ≠ .no → φ' k = φ k := fun k hk => hold k (h.dom k hk).2
  have hd : ∀ k, φ k = .disk → φ' k = .disk := fun k hk => (hφ k (by rw [hk]; intro e; cases e)).trans hk
  have hdk : ∀ k, φ k = .disk → W'.heap[k]? = W.heap[k]? := fun k hk => hk0 k (by rw [hk]; intro e; cases e) (by rw [hk]; intro e; cases e)
  obtain ⟨r1, r2⟩ := h.rows (W' := W') hd (fun k hk _ => hdk k hk)
  refine ⟨⟨(hdk gd h.tgd).trans h.blk, hd gd h.tgd, hd gm h.tgm, r1, r2, ?_, put_rising h.rise _ _, ?_, ?_⟩, hc.mono (fun k hk => by rw [hk]; intro e; cases e), fun k hk h0 => (hold k hk).trans h0⟩
  · have hp := mapL_put S.files V nm f' (V nm)
    have e1 : (fun m => if m = nm then V nm else V m) = V := by
      funext m
      by_cases e : m = nm
      · rw [if_pos e, e]
      · rw [if_neg e]
    rw [e1] at hp
    refine HStrMap.Owns.perm (h.own.move (hdk gm h.tgm)) (List.Perm.trans ?_ hp)
    have h3 := (split_perm h.rise hf).map (fun p : Nm × FA => (str p.1, Value.pointer (some ⟨V p.1, 0, none⟩)))
    refine h3.trans ?_
    rw [← mapL_del]
    exact .refl _
  · intro p hp
    rcases mem_put.1 hp with rfl | ⟨hp, hne⟩
    · exact hF
    · refine (h.file p hp).turn (fun k hk => hk0 k (by rw [hk]; intro e; cases e) (fun e => by rw [hk] at e; injection e with e; exact hne e)) (fun k hk => (hφ k (by rw [hk]; intro e; cases e)).trans hk)
  · intro k hk
    by_cases hlt : k < W.heap.size
    · rw [hold k hlt] at hk
      exact ⟨(h.dom k hk).1, Nat.lt_of_lt_of_le hlt hc.size⟩
    · exact ⟨Nat.le_trans h.bound (Nat.le_of_not_lt hlt), hnew k (Nat.le_of_not_lt hlt) hk⟩
end Go.Proofs.Yteibdmpjlpcgbaa.XDisk
