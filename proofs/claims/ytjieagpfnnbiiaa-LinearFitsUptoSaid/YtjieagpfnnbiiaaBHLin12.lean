/- What try's world holds. -/
import Derived.Test.YtjieagpfnnbiiaaBHLin11
import Derived.Test.YtjieagpfnnbiiaaBHStrMap
namespace Go.Proofs.Ytjieagpfnnbiiaa.XLin
open Go Go.RowKit Go.Proofs.YtjieagpfnnbiiaaW.PrintWords Go.Proofs.YtjieagpfnnbiiaaW.PrintLast Go.Proofs.YtjieagpfnnbiiaaW.PrintMore
open Go.Proofs.Ytjieagpfnnbiiaa
set_option linter.unusedVariables false
set_option linter.unusedSimpArgs false
set_option maxHeartbeats 8000000 in
set_option maxRecDepth 100000 in
/-- A map's pairs are small. -/
def Small (m : List S25) : Prop := ∀ p ∈ m, p.f0.size ≤ 64 ∧ p.f1.size ≤ 256
theorem opOk_small {o : S71} (h : opOk o = true) : o.f1.size ≤ 64 ∧ o.f2.size ≤ 256 := by
  have h1 := opOk_eq o
  rw [h] at h1
  unfold batch_Op.f ikey_Entry.f at h1
  split at h1
  all_goals
    cases hk : ikey_Right.f o.f1 0 o.f0 with
    | none => rw [hk] at h1; simp at h1
    | some t =>
      rw [hk] at h1
      cases t with
      | false => simp at h1
      | true =>
        simp only [Option.bind_some, if_true, Option.some.injEq, decide_eq_true_eq] at h1
        refine ⟨?_, by omega⟩
        unfold ikey_Right.f at hk
        repeat' split at hk
        all_goals first | omega | (simp at hk; done) | (simp at hk; omega)
theorem insP_small {m : List S25} {i : Nat} {p : S25} (h : Small m) (hp : p.f0.size ≤ 64 ∧ p.f1.size ≤ 256) : Small (insP m i p) := by
  intro q hq
  unfold insP at hq
  rcases List.mem_append.1 hq with h1 | h1
  · exact h q (List.mem_of_mem_take h1)
  · rcases List.mem_cons.1 h1 with rfl | h2
    · exact hp
    · exact h q (List.mem_of_mem_drop h2)
theorem applyOne_small {m : List S25} (o : S71) (h : Small m) : Small (applyOne m o) := by
  unfold applyOne
  split
  · exact h
  · next hk =>
    have hs := opOk_small (Bool.of_not_eq_false hk)
    split
    · split
      · exact fun p hp => h p (List.mem_of_mem_eraseIdx hp)
      · exact h
    · split
      · intro p hp
        rcases List.mem_or_eq_of_mem_set hp with h1 | h1
        · exact h p h1
        · subst h1
          exact hs
      · exact insP_small h hs
theorem applyP_small : ∀ (l : List S71) (m : List S25), Small m → Small (applyP m l)
  | [], _, h => h
  | o :: l, m, h => applyP_small l (applyOne m o) (applyOne_small o h)
theorem thenP_small {m : List S25} (x : S36) (h : Small m) : Small (thenP m x).1 := by
  unfold thenP
  split
  · exact applyP_small _ _ h
  · exact h
theorem pairs_size : ∀ (m : List S25), Small m → (m.flatMap pairKey).length ≤ m.length * 400
  | [], _ => Nat.zero_le _
  | p :: m, h => by
    have h1 := pairs_size m (fun q hq => h q (List.mem_cons_of_mem _ hq))
    have h2 := h p List.mem_cons_self
    rw [List.flatMap_cons, List.length_append, List.length_cons, Nat.succ_mul]
    have h3 : (pairKey p).length ≤ 400 := by
      unfold pairKey
      rw [List.length_append, List.length_append, bytesOf_length, bytesOf_length]
      simp
      omega
    omega
theorem keyP_size {done : List Int} {m : List S25} (h : Small m) : (keyP done m).size ≤ done.length + m.length * 400 := by
  unfold keyP strOfNums
  have := pairs_size m h
  simp only [ByteArray.size, List.size_toArray, List.length_map, List.length_append]
  omega
/-- How many calls of try there are. -/
def tb (n : Nat) : Nat → Nat
  | 0 => 1
  | k + 1 => 1 + n * tb n k
theorem count_set : ∀ (done : List Int) (n : Nat), n < done.length → done.getD n 0 = 0 → (done.set n 1).count 0 + 1 = done.count 0
  | [], n, h, _ => by simp at h
  | x :: l, 0, _, h => by
    simp at h
    subst h
    simp
  | x :: l, n + 1, h, h0 => by
    have := count_set l n (by simpa using h) (by simpa using h0)
    simp only [List.set_cons_succ, List.count_cons]
    omega
theorem set_back : ∀ (done : List Int) (n : Nat), done.getD n 0 = 0 → n < done.length → (done.set n 1).set n 0 = done
  | [], n, _, h => by simp at h
  | x :: l, 0, h, _ => by
    simp at h
    subst h
    rfl
  | x :: l, n + 1, h, hl => by
    have := set_back l n (by simpa using h) (by simpa using hl)
    simp only [List.set_cons_succ, this]
theorem sm_z (W : World) : (zeroValue 3).run Try.prog W = .ok (.int .i64 0) W := Try.zeroValue3 W
def sm67 : HStrMap.SM Try.prog 67 := ⟨9, 3, .int .i64 0, Try.underlying67, Try.underlying9, sm_z⟩
/-- What was tried: the map holds each of T, with a count. -/
def Tried (w : World) (gm N : Nat) (T : List ByteArray) : Prop :=
  ∃ lm, HStrMap.Owns sm67 w gm N lm ∧ (∀ s, HStrMap.look lm s = none ↔ s ∉ T) ∧ ∀ s v, HStrMap.look lm s = some v → ∃ c : Int, v = .int .i64 c ∧ 1 ≤ c ∧ c ≤ (N : Int)
theorem look_put (lm : List (ByteArray × Value)) (s y : ByteArray) (v : Value) : HStrMap.look ((s, v) :: HStrMap.without lm s) y = if s = y then some v else HStrMap.look lm y := by
  unfold HStrMap.look
  by_cases h : s = y
  · subst h
    simp
  · rw [if_neg h, List.find?_cons_of_neg (by simpa using h)]
    unfold HStrMap.without
    rw [List.find?_filter]
    congr 2
    funext p
    by_cases h1 : p.1 = y
    · simp [h1, Ne.symm h]
    · simp [h1]
theorem tried_look {w : World} {gm N : Nat} {T : List ByteArray} {lm : List (ByteArray × Value)} (h1 : ∀ s, HStrMap.look lm s = none ↔ s ∉ T) (h2 : ∀ s v, HStrMap.look lm s = some v → ∃ c : Int, v = .int .i64 c ∧ 1 ≤ c ∧ c ≤ (N : Int)) (s : ByteArray) :
    ∃ z : Int, (HStrMap.look lm s).getD (.int .i64 0) = .int .i64 z ∧ 0 ≤ z ∧ z ≤ (N : Int) ∧ (s ∉ T → z = 0) ∧ (s ∈ T → 1 ≤ z) := by
  cases hl : HStrMap.look lm s with
  | none => exact ⟨0, rfl, by omega, by omega, fun _ => rfl, fun h => absurd h ((h1 s).1 hl)⟩
  | some v =>
    obtain ⟨c, rfl, hc, hc2⟩ := h2 s v hl
    refine ⟨c, rfl, by omega, hc2, fun h => ?_, fun _ => hc⟩
    rw [(h1 s).2 h] at hl
    cases hl
theorem tried_put {w : World} {gm N : Nat} {T : List ByteArray} {lm : List (ByteArray × Value)} (h1 : ∀ s, HStrMap.look lm s = none ↔ s ∉ T) (h2 : ∀ s v, HStrMap.look lm s = some v → ∃ c : Int, v = .int .i64 c ∧ 1 ≤ c ∧ c ≤ (N : Int)) {s : ByteArray} {z1 : Int} (hz : 1 ≤ z1) (hzN : z1 ≤ ((N + 1 : Nat) : Int))
    (ho : HStrMap.Owns sm67 w gm (N + 1) ((s, .int .i64 z1) :: HStrMap.without lm s)) (T' : List ByteArray) (hT : ∀ y, y ∈ T' ↔ y = s ∨ y ∈ T) : Tried w gm (N + 1) T' := by
  refine ⟨_, ho, fun y => ?_, fun y v hv => ?_⟩
  · rw [look_put, hT]
    by_cases h : s = y
    · subst h
      simp
    · rw [if_neg h, h1]
      have h' := Ne.symm h
      simp [h']
  · rw [look_put] at hv
    by_cases h : s = y
    · rw [if_pos h] at hv
      obtain rfl := Option.some.inj hv
      exact ⟨z1, rfl, hz, hzN⟩
    · rw [if_neg h] at hv
      obtain ⟨c, e, h3, h4⟩ := h2 y v hv
      exact ⟨c, e, h3, by omega⟩
/-- But for done's row and the map, nothing turns. -/
structure Fr (gd gm : Nat) (w w' : World) : Prop where
  size : w.heap.size ≤ w'.heap.size
  blk : ∀ k, k < w.heap.size → k ≠ gm → k ≠ gd → w'.heap[k]? = w.heap[k]?
theorem Fr.refl (gd gm : Nat) (w : World) : Fr gd gm w w := ⟨Nat.le_refl _, fun _ _ _ _ => rfl⟩
theorem Fr.trans {gd gm : Nat} {a b c : World} (h : Fr gd gm a b) (k : Fr gd gm b c) : Fr gd gm a c := ⟨Nat.le_trans h.size k.size, fun i hi h1 h2 => (k.blk i (Nat.lt_of_lt_of_le hi h.size) h1 h2).trans (h.blk i hi h1 h2)⟩
theorem Fr.of {gd gm : Nat} {a b : World} (h : Below a.heap.size a b) : Fr gd gm a b := ⟨h.size, fun k hk _ _ => h.block k hk⟩
/-- What is said once for all: the calls l, and which blocks lie apart. -/
structure TryOf (w0 : World) (gd gm g3 g5 g6 g7 : Nat) (L : Option Addr) (cl : Nat) (l : List S36) : Prop where
  hL : Kd.C k36 w0 L l.length l
  hcl : l.length ≤ cl
  h12 : l.length ≤ 12
  ops : ∀ x ∈ l, opsN x ≤ 1000
  gd0 : w0.heap.size ≤ gd
  gm0 : w0.heap.size ≤ gm
  ne : gd ≠ gm ∧ (g3 ≠ gd ∧ g3 ≠ gm) ∧ (g5 ≠ gd ∧ g5 ≠ gm) ∧ (g6 ≠ gd ∧ g6 ≠ gm) ∧ (g7 ≠ gd ∧ g7 ≠ gm)
abbrev tryV (g3 g5 g6 g7 : Nat) : Value := .func (.func 29) #[] #[.pointer (some ⟨g5, 0, none⟩), .pointer (some ⟨g6, 0, none⟩), .pointer (some ⟨g3, 0, none⟩), .pointer (some ⟨g7, 0, none⟩)]
structure TSt (w0 : World) (gd gm g3 g5 g6 g7 : Nat) (L : Option Addr) (cl nl : Nat) (done : List Int) (T : List ByteArray) (N : Nat) (w wr : World) : Prop where
  hb : Below w0.heap.size w0 wr
  fr : Fr gd gm w wr
  b3 : wr.heap[g3]? = some (.cells #[.slice L nl cl] 26 (0, 0))
  b5 : wr.heap[g5]? = some (.cells #[.slice (some ⟨gd, 0, none⟩) nl nl] 66 (0, 0))
  b6 : wr.heap[g6]? = some (.cells #[.map (some gm)] 67 (0, 0))
  b7 : wr.heap[g7]? = some (.cells #[tryV g3 g5 g6 g7] 59 (0, 0))
  bd : wr.heap[gd]? = some (.cells (nums .u8 done).toArray 5 (0, 0))
  tr : Tried wr gm N T
section
variable {w0 w wr w' : World} {gd gm g3 g5 g6 g7 cl : Nat} {L : Option Addr} {l : List S36} {done done' : List Int} {T T' : List ByteArray} {N N' : Nat}
theorem Tried.move (h : Tried wr gm N T) (hg : w'.heap[gm]? = wr.heap[gm]?) : Tried w' gm N T := by
  obtain ⟨lm, h1, h2⟩ := h
  exact ⟨lm, h1.move hg, h2⟩
theorem Tried.lt (h : Tried wr gm N T) : gm < wr.heap.size := by
  obtain ⟨lm, h1, h2⟩ := h
  exact h1.lt
/-- One step on: what was and what is now. -/
theorem TSt.on (hs : TryOf w0 gd gm g3 g5 g6 g7 L cl l) (h : TSt w0 gd gm g3 g5 g6 g7 L cl l.length done T N w wr) (hf : Fr gd gm wr w') (hb : Below w0.heap.size w0 w') (hd : w'.heap[gd]? = some (.cells (nums .u8 done').toArray 5 (0, 0))) (ht : Tried w' gm N' T') :
    TSt w0 gd gm g3 g5 g6 g7 L cl l.length done' T' N' w w' := by
  obtain ⟨_, h3, h5, h6, h7⟩ := hs.ne
  exact ⟨hb, h.fr.trans hf, (hf.blk g3 (blk_lt h.b3) h3.2 h3.1).trans h.b3, (hf.blk g5 (blk_lt h.b5) h5.2 h5.1).trans h.b5, (hf.blk g6 (blk_lt h.b6) h6.2 h6.1).trans h.b6, (hf.blk g7 (blk_lt h.b7) h7.2 h7.1).trans h.b7, hd, ht⟩
theorem TSt.below (h : TSt w0 gd gm g3 g5 g6 g7 L cl l.length done T N w wr) (hb : Below wr.heap.size wr w') : TSt w0 gd gm g3 g5 g6 g7 L cl l.length done T N w w' :=
  ⟨below_step h.hb hb, h.fr.trans (Fr.of hb), blk_below h.b3 hb, blk_below h.b5 hb, blk_below h.b6 hb, blk_below h.b7 hb, blk_below h.bd hb, h.tr.move (hb.block gm h.tr.lt)⟩
theorem TSt.restart (h : TSt w0 gd gm g3 g5 g6 g7 L cl l.length done T N w wr) : TSt w0 gd gm g3 g5 g6 g7 L cl l.length done T N wr wr := ⟨h.hb, Fr.refl _ _ _, h.b3, h.b5, h.b6, h.b7, h.bd, h.tr⟩
theorem nums_put (done : List Int) (i : Nat) (v : Int) : (nums .u8 done).toArray.setIfInBounds i (.int .u8 v) = (nums .u8 (done.set i v)).toArray := by
  rw [List.setIfInBounds_toArray]
  unfold nums
  rw [List.map_set]
theorem TSt.put (hs : TryOf w0 gd gm g3 g5 g6 g7 L cl l) (h : TSt w0 gd gm g3 g5 g6 g7 L cl l.length done T N w wr) (i : Nat) (v : Int) : TSt w0 gd gm g3 g5 g6 g7 L cl l.length (done.set i v) T N w (wr.setCell ⟨gd, i, none⟩ (.int .u8 v)) :=
  TSt.on hs h ⟨by simp [World.setCell], fun k _ _ h2 => Below.heap_setCell wr ⟨gd, i, none⟩ _ k h2⟩ (h.hb.setCell (p := ⟨gd, i, none⟩) hs.gd0 _) (blk_put h.bd i _ (nums_put _ _ _)) (h.tr.move (Below.heap_setCell wr ⟨gd, i, none⟩ _ gm (Ne.symm hs.ne.1)))
theorem TSt.mapped (hs : TryOf w0 gd gm g3 g5 g6 g7 L cl l) (h : TSt w0 gd gm g3 g5 g6 g7 L cl l.length done T N w wr) (hg : wr.grownBy w' (some gm)) (ht : Tried w' gm N' T') : TSt w0 gd gm g3 g5 g6 g7 L cl l.length done T' N' w w' :=
  TSt.on hs h ⟨hg.size, fun k hk h1 _ => hg.block k hk (fun e => h1 (Option.some.inj e))⟩ (h.hb.grown hg h.hb.size (fun k e => by cases e; exact hs.gm0)) ((hg.block gd (blk_lt h.bd) (fun e => hs.ne.1 (Option.some.inj e))).trans h.bd) ht
theorem TSt.dcell (h : TSt w0 gd gm g3 g5 g6 g7 L cl l.length done T N w wr) {i : Nat} (hi : i < done.length) : wr.cell? ⟨gd, i, none⟩ = some (.int .u8 (done.getD i 0)) := by
  rw [blk_cell h.bd i]
  unfold nums
  simp [List.getD_eq_getElem?_getD, hi]
theorem F_fr {A : Option Addr} {n : Nat} {m : List S25} (h : Kd.F k25 wr (fun k => k ≠ gm ∧ k ≠ gd) A n m) (hf : Fr gd gm wr w') : Kd.F k25 w' (fun k => k ≠ gm ∧ k ≠ gd) A n m :=
  Kd.F_step h (fun k hk hlt => hf.blk k hlt hk.1 hk.2)
theorem done_C (h : TSt w0 gd gm g3 g5 g6 g7 L cl l.length done T N w wr) (hd : done.length ≤ 1000) : Kd.C (Kd.int .u8) wr (some ⟨gd, 0, none⟩) done.length done := lit_C done h.bd rfl hd
end

end Go.Proofs.Ytjieagpfnnbiiaa.XLin
