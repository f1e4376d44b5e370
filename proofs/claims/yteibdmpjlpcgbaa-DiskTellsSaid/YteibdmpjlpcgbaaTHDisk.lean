/- What a disk of the given program is in memory, and what it stands for: plain lists. -/
import Derived.Test.YteibdmpjlpcgbaaTXDisk8
namespace Go.Proofs.Yteibdmpjlpcgbaa.XDisk
open Go Go.RowKit Go.Proofs.YteibdmpjlpcgbaaW.PrintWords Go.Proofs.YteibdmpjlpcgbaaW.PrintLast Go.Proofs.YteibdmpjlpcgbaaW.PrintMore
open Go.Proofs.Yteibdmpjlpcgbaa
set_option linter.unusedVariables false
set_option linter.unusedSimpArgs false
/-! ### What a disk stands for -/
abbrev Nm := List UInt8
/-- A file: its bytes, how many of them are synced. -/
structure FA where
  b : List Int
  safe : Int
/-- A disk: its files by rising names. -/
structure DA where
  room : Int
  fails : List Int
  parts : List Int
  calls : Int
  files : List (Nm × FA)
def str (n : Nm) : ByteArray := ⟨n.toArray⟩
theorem str_inj {m n : Nm} (h : str m = str n) : m = n := by
  have : (str m).data.toList = (str n).data.toList := by rw [h]
  simpa [str] using this
theorem str_of (s : ByteArray) : str s.data.toList = s := by cases s; rfl
theorem str_size (n : Nm) : (str n).size = n.length := by simp [str, ByteArray.size]
/-- What a name finds. -/
def get (l : List (Nm × FA)) (n : Nm) : Option FA := (l.find? (fun p => decide (p.1 = n))).map Prod.snd
/-- Names rise. -/
def Rising (l : List (Nm × FA)) : Prop := l.Pairwise (fun p q => p.1 < q.1)
/-- A file is put where its name belongs, in the place of one of that name. -/
def put (n : Nm) (f : FA) (l : List (Nm × FA)) : List (Nm × FA) := l.filter (fun p => decide (p.1 < n)) ++ (n, f) :: l.filter (fun p => decide (n < p.1))
def del (n : Nm) (l : List (Nm × FA)) : List (Nm × FA) := l.filter (fun p => !decide (p.1 = n))
/-! ### In memory -/
theorem zero80 : ∀ W : World, (zeroValue 80).run Try.prog W = .ok (.pointer none) W := Try.zeroValue80
def m69 : HStrMap.SM Try.prog 69 := ⟨9, 80, .pointer none, Try.underlying69, Try.underlying9, zero80⟩
/-- Whose a block is: nobody's here, the disk's own, a file's. -/
inductive Tg
  | no
  | disk
  | file (n : Nm)
deriving DecidableEq
/-- A file's bytes: a row of its own, or one that a crash has cut: full, in a block that may be greater. -/
def FRow (W : World) (ok : Nat → Prop) (v : Value) (xs : List Int) : Prop :=
  Kd.R (Kd.int .u8) 5 W 0 ok v xs ∨ ∃ g cur, v = .slice (some ⟨g, 0, none⟩) xs.length xs.length ∧ ok g ∧ W.heap[g]? = some (.cells cur 5 (0, 0)) ∧ (∀ j, j < xs.length → cur[j]? = some (.int .u8 (xs.getD j 0))) ∧ xs.length ≤ 9223372036854775807
namespace FRow
variable {W W' : World} {ok ok' : Nat → Prop} {v : Value} {xs : List Int}
theorem mono (h : FRow W ok v xs) (hok : ∀ k, ok k → ok' k) : FRow W ok' v xs := by
  rcases h with h | ⟨g, cur, h1, h2, h3⟩
  · exact .inl (Kd.R_mono h hok)
  · exact .inr ⟨g, cur, h1, hok g h2, h3⟩
theorem move (h : FRow W ok v xs) (hm : ∀ k, ok k → W'.heap[k]? = W.heap[k]?) : FRow W' ok v xs := by
  rcases h with h | ⟨g, cur, h1, h2, h3, h4⟩
  · exact .inl (Kd.R_move h hm)
  · exact .inr ⟨g, cur, h1, h2, (hm g h2).trans h3, h4⟩
theorem bound (h : FRow W ok v xs) : FRow W (fun k => ok k ∧ k < W.heap.size ∧ ∃ cells, W.heap[k]? = some (.cells cells 5 (0, 0))) v xs := by
  rcases h with h | ⟨g, cur, h1, h2, h3, h4⟩
  · refine .inl (Kd.R_mono (Kd.R_bound h) (fun k hk => ⟨hk.1, hk.2.2.1, ?_⟩))
    obtain ⟨q, hq, cells, hc⟩ := hk.2.2.2
    have hq2 : q = 5 := by simpa [Kd.int, Kd.scalar] using hq
    exact ⟨cells, by rw [hc, hq2]⟩
  · exact .inr ⟨g, cur, h1, ⟨h2, blk_lt h3, cur, h3⟩, h3, h4⟩
theorem own (h : FRow W ok v xs) (k : Nat) (hk : v.ownBlock = some k) : ok k := by
  rcases h with h | ⟨g, cur, rfl, h2, h3⟩
  · exact h.1 k hk
  · simp only [Value.ownBlock, Option.some.injEq] at hk
    rw [← hk]; exact h2
theorem form (h : FRow W ok v xs) : ∃ A c, v = .slice A xs.length c := by
  rcases h with h | ⟨g, cur, rfl, h2, h3⟩
  · obtain ⟨inner, ho⟩ := Kd.R_own h
    rcases ho.2 with ⟨h1, h2⟩ | ⟨g, cap, cur, h1, _⟩
    · rw [← h2] at h1; exact ⟨none, 0, by rw [h1, h2]⟩
    · exact ⟨_, _, h1⟩
  · exact ⟨_, _, rfl⟩
theorem reads {A : Option Addr} {n c : Nat} (h : FRow W ok (.slice A n c) xs) : n = xs.length ∧ n ≤ c ∧ Kd.C (Kd.int .u8) W A xs.length xs := by
  rcases h with h | ⟨g, cur, h1, h2, h3, h4, h5⟩
  · exact Kd.R_reads' h
  · simp only [Value.slice.injEq] at h1
    obtain ⟨rfl, rfl, rfl⟩ := h1
    exact ⟨rfl, Nat.le_refl _, Kd.C_of_reads (d := 0) ⟨rfl, h5, fun _ => ⟨_, rfl, fun j hj => (by
      have h6 := blk_cell h3 j
      rw [h4 j hj] at h6
      have e : (⟨g, 0, none⟩ : Addr).add j = ⟨g, j, none⟩ := by simp [Addr.add]; intro h; exact h.symm
      rw [e]; exact h6)⟩⟩⟩
theorem nil : FRow W ok (.slice none 0 0) [] := .inl (Kd.R_nil _ _ _ _ _)
/-- Only a block of another type turns. -/
theorem other {g t : Nat} {cs : Array Value} (h : FRow W ok v xs) (hb : W.heap[g]? = some (.cells cs t (0, 0))) (ht : 5 ≠ t) (hc : ∀ k, k < W.heap.size → k ≠ g → W'.heap[k]? = W.heap[k]?) : FRow W' ok v xs := by
  refine (h.bound.move (fun k hk => hc k hk.2.1 (fun e => ?_))).mono (fun k hk => hk.1)
  obtain ⟨cells, hcell⟩ := hk.2.2
  rw [e, hb] at hcell
  simp only [Option.some.injEq, Obj.cells.injEq] at hcell
  exact ht hcell.2.1.symm
theorem ne_other {g t : Nat} {cs : Array Value} (h : FRow W ok v xs) (hb : W.heap[g]? = some (.cells cs t (0, 0))) (ht : 5 ≠ t) : some g ≠ v.ownBlock := by
  intro e
  obtain ⟨cells, hcell⟩ := (h.bound.own g e.symm).2.2
  rw [hb] at hcell
  simp only [Option.some.injEq, Obj.cells.injEq] at hcell
  exact ht hcell.2.1.symm
/-- Cut to a front, and full. -/
theorem cut {A : Option Addr} {n c : Nat} (h : FRow W ok (.slice A n c) xs) (k : Nat) (hk : k ≤ xs.length) : FRow W ok (.slice A k k) (xs.take k) := by
  have hl : (xs.take k).length = k := by rw [List.length_take]; omega
  have hgd : ∀ j, j < k → (xs.take k).getD j 0 = xs.getD j 0 := fun j hj => by
    rw [List.getD_eq_getElem?_getD, List.getD_eq_getElem?_getD, List.getElem?_take_of_lt hj]
  rcases h with h | ⟨g, cur, h1, h2, h3, h4, h5⟩
  · have ho := Kd.own_of_R h
    have hr := (Kd.R_reads' h).2.2
    rcases ho.2 with ⟨h1, h2⟩ | ⟨g, cap, cur, h1, h2, h3, h4, h5, h6, h7⟩
    · simp only [Value.slice.injEq] at h1
      obtain ⟨rfl, -, -⟩ := h1
      obtain rfl : k = 0 := by omega
      exact nil
    · simp only [Value.slice.injEq] at h1
      obtain ⟨rfl, -, rfl⟩ := h1
      refine .inr ⟨g, cur, by rw [hl], h.1 g rfl, h3, fun j hj => ?_, by have := hr.2.1; omega⟩
      rw [hl] at hj
      rw [hgd j hj]
      obtain ⟨ad, e, hc⟩ := (Kd.reads_of_C (d := (0 : Int)) hr).2.2 (by omega)
      simp only [Option.some.injEq] at e
      subst e
      have h8 := hc j (by omega)
      have e : (⟨g, 0, none⟩ : Addr).add j = ⟨g, j, none⟩ := by simp [Addr.add]; intro h; exact h.symm
      rw [e, blk_cell h3 j] at h8
      exact h8
  · simp only [Value.slice.injEq] at h1
    obtain ⟨rfl, -, -⟩ := h1
    refine .inr ⟨g, cur, by rw [hl], h2, h3, fun j hj => ?_, by omega⟩
    rw [hl] at hj
    rw [hgd j hj]
    exact h4 j (by omega)
end FRow
/-- A file, at the block g. -/
def FileAt (W : World) (φ : Nat → Tg) (n : Nm) (f : FA) (g : Nat) : Prop :=
  ∃ (A : Option Addr) (c : Nat), W.heap[g]? = some (.cells #[.slice A f.b.length c, .int .i64 f.safe] 82 (0, 0)) ∧ φ g = .file n ∧ FRow W (fun k => φ k = .file n) (.slice A f.b.length c) f.b
/-- The map's pairs. -/
def mapL (l : List (Nm × FA)) (V : Nm → Nat) : List (ByteArray × Value) := l.map (fun p => (str p.1, .pointer (some ⟨V p.1, 0, none⟩)))
/-- A disk at the block gd, in blocks from B on; its map at gm (of at most n pairs), its files at V. -/
structure DIn (W : World) (φ : Nat → Tg) (B gd : Nat) (S : DA) (gm n : Nat) (V : Nm → Nat) (Af : Option Addr) (cf : Nat) (Ap : Option Addr) (cp : Nat) : Prop where
  blk : W.heap[gd]? = some (.cells #[.bool true, .int .i64 S.room, .slice Af S.fails.length cf, .slice Ap S.parts.length cp, .map (some gm), .int .i64 S.calls] 71 (0, 0))
  tgd : φ gd = .disk
  tgm : φ gm = .disk
  fls : Kd.R (Kd.int .i64) 3 W 0 (fun k => φ k = .disk) (.slice Af S.fails.length cf) S.fails
  pts : Kd.R (Kd.int .i64) 3 W 0 (fun k => φ k = .disk) (.slice Ap S.parts.length cp) S.parts
  own : HStrMap.Owns m69 W gm n (mapL S.files V)
  rise : Rising S.files
  file : ∀ p ∈ S.files, FileAt W φ p.1 p.2 (V p.1)
  dom : ∀ k, φ k ≠ .no → B ≤ k ∧ k < W.heap.size
/-- A disk that no call is under way of. -/
def DAt (W : World) (φ : Nat → Tg) (B gd : Nat) (S : DA) : Prop := ∃ gm n V Af cf Ap cp, DIn W φ B gd S gm n V Af cf Ap cp ∧ (n : Int) ≤ S.calls
/-- Only blocks of S turn, and new ones come. -/
structure Chg (W W' : World) (S : Nat → Prop) : Prop where
  os : W'.os = W.os
  tape : W'.tape = W.tape
  output : W'.output = W.output
  size : W.heap.size ≤ W'.heap.size
  block : ∀ k, k < W.heap.size → ¬ S k → W'.heap[k]? = W.heap[k]?
theorem Chg.refl (W : World) (S : Nat → Prop) : Chg W W S := ⟨rfl, rfl, rfl, Nat.le_refl _, fun _ _ _ => rfl⟩
theorem Chg.trans {W W' W2 : World} {S S' : Nat → Prop} (h : Chg W W' S) (k : Chg W' W2 S') (hs : ∀ k, S' k → S k ∨ W.heap.size ≤ k) : Chg W W2 S :=
  ⟨k.os.trans h.os, k.tape.trans h.tape, k.output.trans h.output, Nat.le_trans h.size k.size, fun i hi hn => (k.block i (Nat.lt_of_lt_of_le hi h.size) (fun hk => (hs i hk).elim hn (fun hle => absurd hle (Nat.not_le.2 hi)))).trans (h.block i hi hn)⟩
theorem Chg.mono {W W' : World} {S S' : Nat → Prop} (h : Chg W W' S) (hs : ∀ k, S k → S' k) : Chg W W' S' := ⟨h.os, h.tape, h.output, h.size, fun k hk hn => h.block k hk (fun q => hn (hs k q))⟩
theorem Chg.of_below {W W' : World} (S : Nat → Prop) (h : Below W.heap.size W W') : Chg W W' S := ⟨h.os, h.tape, h.output, h.size, fun k hk _ => h.block k hk⟩
theorem Chg.of_grown {W W' : World} {b : Nat} (h : W.grownBy W' (some b)) : Chg W W' (fun k => k = b) := ⟨h.os, h.tape, h.output, h.size, fun k hk hn => h.block k hk (fun e => hn (Option.some.inj e))⟩
theorem Chg.drewN {W W' : World} {S : Nat → Prop} (h : Chg W W' S) (n : Nat) : Chg W (W'.drewN n) S := ⟨h.os, h.tape, h.output, h.size, h.block⟩
theorem Chg.of_drewN {W W' : World} {S : Nat → Prop} {n : Nat} (h : Chg (W.drewN n) W' S) : Chg W W' S := ⟨h.os, h.tape, h.output, h.size, h.block⟩
theorem Chg.set (W : World) (p : Addr) (v : Value) : Chg W (W.setCell p v) (fun k => k = p.block) := by
  have h : Below 0 W (W.setCell p v) := (Below.refl 0 W).setCell (Nat.zero_le _) v
  exact ⟨h.os, h.tape, h.output, h.size, fun k _ hn => Below.heap_setCell W p v k hn⟩
/-- What a step may do: blocks of nobody here stay. -/
def Step (W W' : World) (φ φ' : Nat → Tg) : Prop := Chg W W' (fun k => φ k ≠ .no) ∧ ∀ k, k < W.heap.size → φ k = .no → φ' k = .no

theorem FileAt.move {W W' : World} {φ : Nat → Tg} {n : Nm} {f : FA} {g : Nat} (h : FileAt W φ n f g) (hm : ∀ k, φ k = .file n → W'.heap[k]? = W.heap[k]?) : FileAt W' φ n f g := by
  obtain ⟨A, c, h1, h2, h3⟩ := h
  exact ⟨A, c, (hm g h2).trans h1, h2, h3.move (fun k hk => hm k hk)⟩
theorem DIn.move {W W' : World} {φ : Nat → Tg} {B gd : Nat} {S : DA} {gm n : Nat} {V : Nm → Nat} {Af : Option Addr} {cf : Nat} {Ap : Option Addr} {cp : Nat} (h : DIn W φ B gd S gm n V Af cf Ap cp) (hs : W.heap.size ≤ W'.heap.size) (hm : ∀ k, φ k ≠ .no → W'.heap[k]? = W.heap[k]?) : DIn W' φ B gd S gm n V Af cf Ap cp := by
  have hd : ∀ k, φ k = .disk → W'.heap[k]? = W.heap[k]? := fun k hk => hm k (by rw [hk]; intro e; cases e)
  exact ⟨(hd gd h.tgd).trans h.blk, h.tgd, h.tgm, Kd.R_move h.fls hd, Kd.R_move h.pts hd, h.own.move (hd gm h.tgm), h.rise, fun p hp => (h.file p hp).move (fun k hk => hm k (by rw [hk]; intro e; cases e)), fun k hk => ⟨(h.dom k hk).1, Nat.lt_of_lt_of_le (h.dom k hk).2 hs⟩⟩
theorem DIn.below {W W' : World} {φ : Nat → Tg} {B gd : Nat} {S : DA} {gm n : Nat} {V : Nm → Nat} {Af : Option Addr} {cf : Nat} {Ap : Option Addr} {cp : Nat} (h : DIn W φ B gd S gm n V Af cf Ap cp) (hb : Below W.heap.size W W') : DIn W' φ B gd S gm n V Af cf Ap cp := h.move hb.size (fun k hk => hb.block k (h.dom k hk).2)
theorem DIn.drewN {W : World} {φ : Nat → Tg} {B gd : Nat} {S : DA} {gm n : Nat} {V : Nm → Nat} {Af : Option Addr} {cf : Nat} {Ap : Option Addr} {cp : Nat} (h : DIn W φ B gd S gm n V Af cf Ap cp) (m : Nat) : DIn (W.drewN m) φ B gd S gm n V Af cf Ap cp := h.move (Nat.le_refl _) (fun _ _ => rfl)
theorem DAt.move {W W' : World} {φ : Nat → Tg} {B gd : Nat} {S : DA} (h : DAt W φ B gd S) (hs : W.heap.size ≤ W'.heap.size) (hm : ∀ k, φ k ≠ .no → W'.heap[k]? = W.heap[k]?) : DAt W' φ B gd S := by
  obtain ⟨gm, n, V, Af, cf, Ap, cp, h1, h2⟩ := h
  exact ⟨gm, n, V, Af, cf, Ap, cp, h1.move hs hm, h2⟩
theorem DAt.dom {W : World} {φ : Nat → Tg} {B gd : Nat} {S : DA} (h : DAt W φ B gd S) (k : Nat) (hk : φ k ≠ .no) : B ≤ k ∧ k < W.heap.size := by
  obtain ⟨gm, n, V, Af, cf, Ap, cp, h1, h2⟩ := h
  exact h1.dom k hk
theorem DAt.below {W W' : World} {φ : Nat → Tg} {B gd : Nat} {S : DA} (h : DAt W φ B gd S) (hb : Below W.heap.size W W') : DAt W' φ B gd S := h.move hb.size (fun k hk => hb.block k (h.dom k hk).2)
theorem Step.refl (W : World) (φ : Nat → Tg) : Step W W φ φ := ⟨Chg.refl _ _, fun k _ h => h⟩
theorem Step.trans {W W' W2 : World} {φ φ' φ2 : Nat → Tg} (h : Step W W' φ φ') (k : Step W' W2 φ' φ2) : Step W W2 φ φ2 :=
  ⟨⟨k.1.os.trans h.1.os, k.1.tape.trans h.1.tape, k.1.output.trans h.1.output, Nat.le_trans h.1.size k.1.size, fun i hi hn => by
      have h0 : φ i = .no := Classical.byContradiction hn
      exact (k.1.block i (Nat.lt_of_lt_of_le hi h.1.size) (fun q => q (h.2 i hi h0))).trans (h.1.block i hi hn)⟩,
    fun i hi h0 => k.2 i (Nat.lt_of_lt_of_le hi h.1.size) (h.2 i hi h0)⟩
theorem Step.of_below {W W' : World} {φ : Nat → Tg} (hb : Below W.heap.size W W') : Step W W' φ φ := ⟨Chg.of_below _ hb, fun k _ h => h⟩
theorem Step.drewN {W W' : World} {φ φ' : Nat → Tg} (h : Step W W' φ φ') (n : Nat) : Step W (W'.drewN n) φ φ' := ⟨h.1.drewN n, h.2⟩
theorem Step.below {W W' : World} {φ φ' : Nat → Tg} {B : Nat} (h : Step W W' φ φ') (hB : B ≤ W.heap.size) (hd : ∀ k, φ k ≠ .no → B ≤ k) : Below B W W' :=
  ⟨h.1.os, h.1.tape, h.1.output, h.1.size, fun k hk => h.1.block k (Nat.lt_of_lt_of_le hk hB) (fun q => absurd (hd k q) (Nat.not_le.2 hk))⟩
theorem DAt.drewN {W : World} {φ : Nat → Tg} {B gd : Nat} {S : DA} (h : DAt W φ B gd S) (n : Nat) : DAt (W.drewN n) φ B gd S := h.move (Nat.le_refl _) (fun _ _ => rfl)
/-- What stays true whatever becomes of the disk. -/
def Stays (w : World) (φ : Nat → Tg) (P : World → Prop) : Prop := ∀ W, w.heap.size ≤ W.heap.size → (∀ k, k < w.heap.size → φ k = .no → W.heap[k]? = w.heap[k]?) → P W
theorem Stays.self {w : World} {φ : Nat → Tg} {P : World → Prop} (h : Stays w φ P) : P w := h w (Nat.le_refl _) (fun _ _ _ => rfl)
theorem Stays.below {w w' : World} {φ : Nat → Tg} {P : World → Prop} (h : Stays w φ P) (hb : Below w.heap.size w w') : Stays w' φ P := fun W hs hk =>
  h W (Nat.le_trans hb.size hs) (fun k h1 h2 => (hk k (Nat.lt_of_lt_of_le h1 hb.size) h2).trans (hb.block k h1))
theorem Stays.chg {w w' : World} {φ : Nat → Tg} {P : World → Prop} (h : Stays w φ P) (hc : Chg w w' (fun k => φ k ≠ .no)) : P w' :=
  h w' hc.size (fun k h1 h2 => hc.block k h1 (fun q => q h2))
/-- What lies below the disk. -/
theorem Stays.of_below {w0 w : World} {φ : Nat → Tg} {B : Nat} {P : World → Prop} (hB : Below w0.heap.size w0 w) (hw : w0.heap.size ≤ B) (hd : ∀ k, φ k ≠ .no → B ≤ k) (hP : ∀ W, w0.heap.size ≤ W.heap.size → (∀ k, k < w0.heap.size → W.heap[k]? = w0.heap[k]?) → P W) : Stays w φ P := fun W hs hk =>
  hP W (Nat.le_trans hB.size hs) (fun k h1 => (hk k (Nat.lt_of_lt_of_le h1 hB.size) (Classical.byContradiction (fun q => absurd (hd k q) (by omega)))).trans (hB.block k h1))
/-- What is nobody's. -/
theorem Stays.mk' {w : World} {φ : Nat → Tg} {P : World → Prop} (S : Nat → Prop) (hS : ∀ k, S k → k < w.heap.size ∧ φ k = .no) (hP : ∀ W, (∀ k, S k → W.heap[k]? = w.heap[k]?) → P W) : Stays w φ P := fun W _ hk => hP W (fun k h => hk k (hS k h).1 (hS k h).2)
/-! ### Finding a file -/
theorem look_mapL (l : List (Nm × FA)) (V : Nm → Nat) (n : Nm) : HStrMap.look (mapL l V) (str n) = (get l n).map (fun _ => .pointer (some ⟨V n, 0, none⟩)) := by
  unfold HStrMap.look get mapL
  rw [List.find?_map, Option.map_map, Option.map_map]
  have : ((fun p : ByteArray × Value => decide (p.1 = str n)) ∘ fun p : Nm × FA => (str p.1, Value.pointer (some ⟨V p.1, 0, none⟩))) = fun p => decide (p.1 = n) := by
    funext p
    simp only [Function.comp]
    by_cases h : p.1 = n
    · simp [h]
    · have : str p.1 ≠ str n := fun e => h (str_inj e)
      simp [h, this]
  rw [this]
  cases hf : l.find? (fun p => decide (p.1 = n)) with
  | none => rfl
  | some p =>
    have := List.find?_some hf
    simp only [decide_eq_true_eq] at this
    simp [this]
theorem get_mem {l : List (Nm × FA)} {n : Nm} {f : FA} (h : get l n = some f) : (n, f) ∈ l := by
  unfold get at h
  rw [Option.map_eq_some_iff] at h
  obtain ⟨p, hp, rfl⟩ := h
  have h1 := List.mem_of_find?_eq_some hp
  have h2 := List.find?_some hp
  simp only [decide_eq_true_eq] at h2
  rw [← h2]
  exact h1
theorem mem_get {l : List (Nm × FA)} (hr : Rising l) {n : Nm} {f : FA} (h : (n, f) ∈ l) : get l n = some f := by
  induction l with
  | nil => cases h
  | cons p l ih =>
    unfold Rising at hr
    rw [List.pairwise_cons] at hr
    rcases List.mem_cons.1 h with rfl | h
    · simp [get]
    · have h1 := hr.1 _ h
      have hne : p.1 ≠ n := fun e => by rw [e] at h1; exact List.lt_irrefl _ h1
      have : get (p :: l) n = get l n := by simp [get, hne]
      rw [this]
      exact ih hr.2 h
/-! ### Lists by rising names -/
theorem lt_tri (a b : Nm) : a < b ∨ a = b ∨ b < a := by
  rcases List.le_total a b with h | h
  · by_cases e : a = b
    · exact .inr (.inl e)
    · exact .inl (List.not_le.1 (fun h2 => e (List.le_antisymm h h2)))
  · by_cases e : a = b
    · exact .inr (.inl e)
    · exact .inr (.inr (List.not_le.1 (fun h2 => e (List.le_antisymm h2 h))))
theorem lt_no {a b : Nm} (h : a < b) : ¬ b < a := fun h2 => List.lt_irrefl a (List.lt_trans h h2)
theorem lt_ne' {a b : Nm} (h : a < b) : a ≠ b := fun e => List.lt_irrefl b (by rw [e] at h; exact h)
theorem put_perm (n : Nm) (f : FA) (l : List (Nm × FA)) : (put n f l).Perm ((n, f) :: del n l) := by
  unfold put
  refine List.perm_middle.trans (List.Perm.cons _ ?_)
  have h := List.filter_append_perm (fun p : Nm × FA => decide (p.1 < n)) (del n l)
  have e1 : (del n l).filter (fun p => decide (p.1 < n)) = l.filter (fun p => decide (p.1 < n)) := by
    unfold del
    rw [List.filter_filter]
    apply List.filter_congr
    intro p _
    by_cases h : p.1 < n
    · simp [h, lt_ne' h]
    · simp [h]
  have e2 : (del n l).filter (fun p => !decide (p.1 < n)) = l.filter (fun p => decide (n < p.1)) := by
    unfold del
    rw [List.filter_filter]
    apply List.filter_congr
    intro p _
    rcases lt_tri p.1 n with h | h | h
    · simp [h, lt_no h]
    · simp [h, List.lt_irrefl]
    · simp [h, lt_no h, Ne.symm (lt_ne' h)]
  rw [e1, e2] at h
  exact h
theorem del_rising {l : List (Nm × FA)} (h : Rising l) (n : Nm) : Rising (del n l) := h.sublist List.filter_sublist
theorem put_rising {l : List (Nm × FA)} (h : Rising l) (n : Nm) (f : FA) : Rising (put n f l) := by
  unfold put Rising
  rw [List.pairwise_append]
  refine ⟨h.sublist List.filter_sublist, ?_, ?_⟩
  · rw [List.pairwise_cons]
    refine ⟨fun q hq => ?_, h.sublist List.filter_sublist⟩
    simpa using (List.mem_filter.1 hq).2
  · intro p hp q hq
    have h1 : p.1 < n := by simpa using (List.mem_filter.1 hp).2
    rcases List.mem_cons.1 hq with rfl | hq
    · exact h1
    · have h2 : n < q.1 := by simpa using (List.mem_filter.1 hq).2
      exact List.lt_trans h1 h2
theorem mem_del {l : List (Nm × FA)} {n : Nm} {p : Nm × FA} : p ∈ del n l ↔ p ∈ l ∧ p.1 ≠ n := by
  unfold del
  rw [List.mem_filter]
  simp
theorem mem_put {l : List (Nm × FA)} {n : Nm} {f : FA} {p : Nm × FA} : p ∈ put n f l ↔ p = (n, f) ∨ (p ∈ l ∧ p.1 ≠ n) := by
  rw [(put_perm n f l).mem_iff, List.mem_cons, mem_del]
theorem get_put {l : List (Nm × FA)} (h : Rising l) (n m : Nm) (f : FA) : get (put n f l) m = if m = n then some f else get l m := by
  by_cases e : m = n
  · rw [if_pos e, e]
    exact mem_get (put_rising h n f) (mem_put.2 (.inl rfl))
  · rw [if_neg e]
    cases hg : get l m with
    | some x => exact mem_get (put_rising h n f) (mem_put.2 (.inr ⟨get_mem hg, e⟩))
    | none =>
      cases hp : get (put n f l) m with
      | none => rfl
      | some x =>
        rcases mem_put.1 (get_mem hp) with q | ⟨q, _⟩
        · exact absurd (congrArg Prod.fst q) e
        · rw [mem_get h q] at hg
          cases hg
theorem mapL_del (l : List (Nm × FA)) (V : Nm → Nat) (n : Nm) : mapL (del n l) V = HStrMap.without (mapL l V) (str n) := by
  unfold mapL del HStrMap.without
  rw [List.filter_map]
  congr 1
  apply List.filter_congr
  intro p _
  simp only [Function.comp]
  by_cases h : p.1 = n
  · simp [h]
  · have : str p.1 ≠ str n := fun e => h (str_inj e)
    simp [h, this]
theorem mapL_congr {l : List (Nm × FA)} {V V' : Nm → Nat} (h : ∀ p ∈ l, V p.1 = V' p.1) : mapL l V = mapL l V' := by
  unfold mapL
  exact List.map_congr_left (fun p hp => by rw [h p hp])
theorem mapL_put (l : List (Nm × FA)) (V : Nm → Nat) (n : Nm) (f : FA) (g : Nat) : ((str n, Value.pointer (some ⟨g, 0, none⟩)) :: HStrMap.without (mapL l V) (str n)).Perm (mapL (put n f l) (fun m => if m = n then g else V m)) := by
  refine List.Perm.trans ?_ ((put_perm n f l).map _).symm
  show (_ :: _).Perm ((str n, Value.pointer (some ⟨if n = n then g else V n, 0, none⟩)) :: mapL (del n l) (fun m => if m = n then g else V m))
  rw [if_pos rfl, ← mapL_del]
  refine List.Perm.cons _ ?_
  have := mapL_congr (l := del n l) (V := V) (V' := fun m => if m = n then g else V m) (fun p hp => by rw [if_neg (mem_del.1 hp).2])
  rw [this]
end Go.Proofs.Yteibdmpjlpcgbaa.XDisk
