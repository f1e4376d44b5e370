/- A disk that few calls have been made of: what stays true of it. -/
import Derived.Test.YteibdmpjlpcgbaaTHFiles
namespace Go.Proofs.Yteibdmpjlpcgbaa.XDisk
open Go Go.RowKit Go.Proofs.YteibdmpjlpcgbaaW.PrintWords Go.Proofs.YteibdmpjlpcgbaaW.PrintLast Go.Proofs.YteibdmpjlpcgbaaW.PrintMore
open Go.Proofs.Yteibdmpjlpcgbaa
set_option linter.unusedVariables false
set_option linter.unusedSimpArgs false
theorem used_perm {a b : List (Nm × FA)} (h : a.Perm b) : used a = used b := by
  induction h with
  | nil => rfl
  | cons x _ ih => simp only [used]; omega
  | swap x y l' => simp only [used]; omega
  | trans _ _ h1 h2 => omega
theorem used_put (n : Nm) (f : FA) (l : List (Nm × FA)) : used (put n f l) = f.b.length + used (del n l) := by rw [used_perm (put_perm n f l)]; rfl
theorem used_del_le (n : Nm) : ∀ l, used (del n l) ≤ used l
  | [] => Int.le_refl _
  | p :: l => by
    have ih := used_del_le n l
    unfold del at ih ⊢
    rw [List.filter_cons]
    split
    · simp only [used]; omega
    · simp only [used]; omega
theorem used_split {l : List (Nm × FA)} (hr : Rising l) {n : Nm} {f : FA} (hg : get l n = some f) : used l = f.b.length + used (del n l) := by rw [used_perm (split_perm hr hg)]; rfl
theorem used_mem : ∀ {l : List (Nm × FA)} {p : Nm × FA}, p ∈ l → (p.2.b.length : Int) ≤ used l
  | q :: l, p, h => by
    rcases List.mem_cons.1 h with rfl | h
    · have := used_nonneg l
      simp only [used]; omega
    · have := used_mem h
      simp only [used]; omega
theorem len_del (n : Nm) (l : List (Nm × FA)) : (del n l).length ≤ l.length := List.length_filter_le _ _
theorem len_put (n : Nm) (f : FA) (l : List (Nm × FA)) : (put n f l).length = (del n l).length + 1 := by rw [(put_perm n f l).length_eq]; rfl
theorem len_split {l : List (Nm × FA)} (hr : Rising l) {n : Nm} {f : FA} (hg : get l n = some f) : l.length = (del n l).length + 1 := by rw [(split_perm hr hg).length_eq]; rfl
theorem keepN_bound (k : Int) {f : FA} (h : 0 ≤ f.safe ∧ f.safe ≤ f.b.length) : 0 ≤ keepN k f ∧ f.safe + keepN k f ≤ f.b.length := by unfold keepN; omega
theorem crashF_len (k : Int) {f : FA} (h : 0 ≤ f.safe ∧ f.safe ≤ f.b.length) : ((crashF k f).b.length : Int) = (crashF k f).safe ∧ 0 ≤ (crashF k f).safe ∧ (crashF k f).safe ≤ f.b.length := by
  have := keepN_bound k h
  unfold crashF
  simp only [List.length_take]
  omega
theorem crashN_used : ∀ (m : Nat) (ks : List Int) (l : List (Nm × FA)), Sane l → used (crashN ks m l) ≤ used l
  | 0, _, _, _ => Int.le_refl _
  | _ + 1, _, [], _ => Int.le_refl _
  | m + 1, ks, p :: l, h => by
    have ih := crashN_used m ks.tail l (fun q hq => h q (List.mem_cons_of_mem _ hq))
    have := crashF_len (ks.headD 0) (h p List.mem_cons_self)
    simp only [crashN, used]
    omega
theorem crashN_sane : ∀ (m : Nat) (ks : List Int) (l : List (Nm × FA)), Sane l → Sane (crashN ks m l)
  | 0, _, _, h => h
  | _ + 1, _, [], h => h
  | m + 1, ks, p :: l, h => by
    intro q hq
    rcases List.mem_cons.1 hq with rfl | hq
    · have := crashF_len (ks.headD 0) (h p List.mem_cons_self)
      show 0 ≤ (crashF _ p.2).safe ∧ (crashF _ p.2).safe ≤ ((crashF _ p.2).b.length : Int)
      omega
    · exact crashN_sane m ks.tail l (fun q hq => h q (List.mem_cons_of_mem _ hq)) q hq
theorem named_of {l l' : List (Nm × FA)} (h : Named l) (e : l'.map Prod.fst = l.map Prod.fst) : Named l' := fun p hp => by
  have h1 : p.1 ∈ l.map Prod.fst := by rw [← e]; exact List.mem_map.2 ⟨p, hp, rfl⟩
  obtain ⟨q, hq, e⟩ := List.mem_map.1 h1
  rw [← e]; exact h q hq
theorem len_of_names {l l' : List (Nm × FA)} (e : l'.map Prod.fst = l.map Prod.fst) : l'.length = l.length := by
  have := congrArg List.length e
  simpa using this
/-- A disk behind at most k calls. -/
structure Good (k : Nat) (S : DA) : Prop where
  c0 : 0 ≤ S.calls
  c1 : S.calls ≤ k
  fl : S.fails.length ≤ 60
  pl : S.parts.length ≤ 60
  room : S.room ≤ 9223372036854775807
  rise : Rising S.files
  sane : Sane S.files
  named : Named S.files
  few : S.files.length ≤ k
  fit : used S.files ≤ S.room
  used : used S.files ≤ 60 * k
namespace Good
variable {k : Nat} {S : DA}
theorem ok (h : Good k S) (hk : k ≤ 10000) : Ok S :=
  ⟨⟨h.c0, by have := h.c1; omega, by have := h.fl; omega, by have := h.pl; omega, fun p hp => by have := used_mem hp; have := h.used; omega⟩, ⟨h.room, h.fit, by have := h.used; omega⟩, h.sane, fun p hp => by have := vN_len (h.named p hp); omega, by have := h.few; omega⟩
theorem upto (h : Good k S) {k' : Nat} (hk : k ≤ k') : Good k' S :=
  ⟨h.c0, by have := h.c1; omega, h.fl, h.pl, h.room, h.rise, h.sane, h.named, by have := h.few; omega, h.fit, by have := h.used; omega⟩
theorem turn (h : Good k S) {F : List (Nm × FA)} (hr : Rising F) (hs : Sane F) (hn : Named F) (hl : F.length ≤ k + 1) (hu : XDisk.used F ≤ S.room) (hu2 : XDisk.used F ≤ 60 * (k + 1)) : Good (k + 1) { cnt S with files := F } :=
  ⟨by have := h.c0; show 0 ≤ S.calls + 1; omega, by have := h.c1; show S.calls + 1 ≤ ((k + 1 : Nat) : Int); omega, h.fl, h.pl, h.room, hr, hs, hn, hl, hu, by show XDisk.used F ≤ 60 * ((k + 1 : Nat) : Int); omega⟩
theorem counted (h : Good k S) : Good (k + 1) (cnt S) := h.turn h.rise h.sane h.named (by have := h.few; omega) h.fit (by have := h.used; omega)
theorem new {cap : Int} {fs ps : List Int} (hc : cap ≤ 9223372036854775807) (hf : fs.length ≤ 60) (hp : ps.length ≤ 60) : Good 0 (newP cap fs ps) :=
  ⟨Int.le_refl _, Int.le_refl _, hf, hp, by show max cap 0 ≤ _; omega, List.Pairwise.nil, (fun p hp => by cases hp), (fun p hp => by cases hp), Nat.le_refl _, by show 0 ≤ max cap 0; omega, by show (0 : Int) ≤ _; omega⟩
theorem sane_put {l : List (Nm × FA)} (h : Sane l) (n : Nm) {f : FA} (hf : 0 ≤ f.safe ∧ f.safe ≤ f.b.length) : Sane (put n f l) := fun p hp => by
  rcases mem_put.1 hp with rfl | ⟨hp, _⟩
  · exact hf
  · exact h p hp
theorem named_put {l : List (Nm × FA)} (h : Named l) {n : Nm} (f : FA) (hn : vN n = true) : Named (put n f l) := fun p hp => by
  rcases mem_put.1 hp with rfl | ⟨hp, _⟩
  · exact hn
  · exact h p hp
theorem sane_del {l : List (Nm × FA)} (h : Sane l) (n : Nm) : Sane (del n l) := fun p hp => h p (mem_del.1 hp).1
theorem named_del {l : List (Nm × FA)} (h : Named l) (n : Nm) : Named (del n l) := fun p hp => h p (mem_del.1 hp).1
theorem create (h : Good k S) (n : Nm) : Good (k + 1) (createP S n).1 := by
  unfold createP
  split
  · exact h.counted
  · rename_i hv
    split
    · exact h.counted
    · split
      · exact h.counted
      · have h1 := used_put n ⟨[], 0⟩ S.files
        have h2 := used_del_le n S.files
        have h3 := h.fit
        have h4 := h.used
        have h5 := len_put n ⟨[], 0⟩ S.files
        have h6 := len_del n S.files
        have h7 := h.few
        simp only [List.length_nil] at h1
        exact h.turn (put_rising h.rise _ _) (sane_put h.sane _ ⟨Int.le_refl _, Int.le_refl _⟩) (named_put h.named _ (by simpa using hv)) (by omega) (by omega) (by omega)
theorem remove (h : Good k S) (n : Nm) : Good (k + 1) (removeP S n).1 := by
  unfold removeP
  split
  · exact h.counted
  · split
    · exact h.counted
    · split
      · exact h.counted
      · have h2 := used_del_le n S.files
        have h3 := h.fit
        have h4 := h.used
        have h6 := len_del n S.files
        have h7 := h.few
        exact h.turn (del_rising h.rise _) (sane_del h.sane _) (named_del h.named _) (by omega) (by omega) (by omega)
theorem sync (h : Good k S) (n : Nm) : Good (k + 1) (syncP S n).1 := by
  unfold syncP
  split
  · exact h.counted
  · rename_i hv
    split
    · exact h.counted
    · rename_i f hg
      split
      · exact h.counted
      · have h1 := used_put n ⟨f.b, f.b.length⟩ S.files
        have h2 := used_split h.rise hg
        have h3 := h.fit
        have h4 := h.used
        have h5 := len_put n ⟨f.b, f.b.length⟩ S.files
        have h6 := len_del n S.files
        have h7 := h.few
        simp only at h1
        exact h.turn (put_rising h.rise _ _) (sane_put h.sane _ ⟨by show (0 : Int) ≤ (f.b.length : Int); omega, Int.le_refl _⟩) (named_put h.named _ (by simpa using hv)) (by omega) (by omega) (by omega)
theorem rename (h : Good k S) (old n : Nm) : Good (k + 1) (renameP S old n).1 := by
  unfold renameP
  split
  · exact h.counted
  · rename_i hv
    split
    · exact h.counted
    · rename_i f hg
      split
      · exact h.counted
      · have h1 := used_put n f (del old S.files)
        have h2 := used_split h.rise hg
        have h3 := h.fit
        have h4 := h.used
        have h5 := len_put n f (del old S.files)
        have h6 := len_del n (del old S.files)
        have h7 := h.few
        have h8 := used_del_le n (del old S.files)
        have h9 := len_del old S.files
        have hm := h.sane _ (get_mem hg)
        exact h.turn (put_rising (del_rising h.rise _) _ _) (sane_put (sane_del h.sane _) _ hm) (named_put (named_del h.named _) _ (by rcases Bool.eq_false_or_eq_true (vN n) with q | q; exact q; exact absurd (.inr q) hv)) (by omega) (by omega) (by omega)
theorem appX_le {b : List Int} {part : Int} {no : Bool} (hf : 0 ≤ left S) (hp : 0 ≤ part) : ((appX S b part no).1 : Int) ≤ left S ∧ (appX S b part no).1 ≤ b.length := by
  unfold appX
  split
  · show (((min (min part b.length) (left S)).toNat : Nat) : Int) ≤ left S ∧ (min (min part b.length) (left S)).toNat ≤ b.length
    omega
  · split
    · exact ⟨hf, Nat.zero_le _⟩
    · rename_i h
      exact ⟨by show ((b.length : Nat) : Int) ≤ left S; omega, Nat.le_refl _⟩
theorem append (h : Good k S) (n : Nm) {b : List Int} (hb : b.length ≤ 60) : Good (k + 1) (appendP S n b).1 := by
  unfold appendP
  split
  · exact h.counted
  · rename_i hv
    split
    · exact h.counted
    · rename_i f hg
      obtain ⟨r, hr⟩ : ∃ r, appX S b (partOf (refusedP S.fails S.parts (S.calls + 1))) (isRef S) = r := ⟨_, rfl⟩
      have h3 := h.fit
      have hx := appX_le (S := S) (b := b) (no := isRef S) (by unfold left; omega) (part_nonneg S.fails S.parts (S.calls + 1))
      rw [hr] at hx ⊢
      have h1 := used_put n ⟨f.b ++ b.take r.1, f.safe⟩ S.files
      have h2 := used_split h.rise hg
      have h4 := h.used
      have h5 := len_put n ⟨f.b ++ b.take r.1, f.safe⟩ S.files
      have h6 := len_split h.rise hg
      have h7 := h.few
      have hm := h.sane _ (get_mem hg)
      have hl : (f.b ++ b.take r.1).length = f.b.length + r.1 := by rw [List.length_append, List.length_take]; omega
      simp only [hl] at h1
      have hleft : left S = S.room - XDisk.used S.files := rfl
      simp only at hm
      exact h.turn (put_rising h.rise _ _) (sane_put h.sane _ ⟨hm.1, by show f.safe ≤ ((f.b ++ b.take r.1).length : Int); rw [hl]; omega⟩) (named_put h.named _ (by simpa using hv)) (by omega) (by omega) (by omega)
theorem crash (h : Good k S) (ks : List Int) : Good k (crashP S ks) := by
  have h1 := crashN_used S.files.length ks S.files h.sane
  have h2 := crashN_names S.files.length ks S.files
  have h3 := h.fit
  have h4 := h.used
  have h5 := len_of_names h2
  have h6 := h.few
  exact ⟨h.c0, h.c1, h.fl, h.pl, h.room, rising_names h.rise h2, crashN_sane _ _ _ h.sane, named_of h.named h2, by show (crashN ks S.files.length S.files).length ≤ k; omega, by show XDisk.used (crashN ks S.files.length S.files) ≤ S.room; omega, by show XDisk.used (crashN ks S.files.length S.files) ≤ 60 * k; omega⟩
theorem does (h : Good k S) (a : Int) (n1 n2 : Nm) {b : List Int} (ks : List Int) (hb : b.length ≤ 60) : Good (k + 1) (doesP S a n1 n2 b ks).1 := by
  unfold doesP
  repeat' split
  · exact h.create _
  · exact h.append _ hb
  · exact h.sync _
  · exact h.rename _ _
  · exact h.remove _
  · exact (h.crash _).upto (Nat.le_succ _)
  · exact h.upto (Nat.le_succ _)
end Good
end Go.Proofs.Yteibdmpjlpcgbaa.XDisk
