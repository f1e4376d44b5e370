/- A map with strings as keys, its elements whatever values, told as a list of pairs; of any program. -/
import Derived.Maps.RangeWalk
import Derived.Maps.OwnOps
import Derived.Maps.OwnSet
import Derived.StringKeys
namespace Go.Proofs.Ytjieagpfnnbiiaa.HStrMap
open Go
open Go.Maps (Keyed)
set_option linter.unusedVariables false
set_option linter.unusedSimpArgs false

/-- What the types are: t a map type with strings as keys; z the elements' zero value. -/
structure SM (P : Program) (t : TypeId) where
  k : TypeId
  e : TypeId
  z : Value
  ht : P.underlying t = some (.map k e)
  hk : P.underlying k = some .string
  hz : ∀ W : World, (zeroValue e).run P W = .ok z W

/-- Each value reads as itself. -/
def RV (v : Value) : Option (DataW Value × List MemPlace) := some (.held v, [])
def key (s : ByteArray) : Lit := .string s.data.toList
def tok (p : ByteArray × Value) : Lit × DataW Value := (key p.1, .held p.2)
theorem key_inj {s t : ByteArray} (h : key s = key t) : s = t := by
  have h1 : s.data.toList = t.data.toList := by injection h
  cases s; cases t
  simp only at h1
  rw [Array.ext' h1]
theorem isKey (s : ByteArray) : WideAt.IsKeyLit (key s) := trivial
theorem same_key (s t : ByteArray) : (key s).sameKey (key t) = decide (s = t) := by
  by_cases h : s = t
  · subst h
    rw [WideAt.sameKey_self (isKey s)]
    simp
  · rw [Maps.sameKey_ne (fun e => h (key_inj e))]
    simp [h]

variable {P : Program} {t : TypeId}

/-- Block b is a map of at most n entries that holds the pairs l. -/
def Owns (M : SM P t) (w : World) (b n : Nat) (l : List (ByteArray × Value)) : Prop :=
  ∃ es, w.ownsMap P M.k RV b n (.map es) ∧ es.Perm (l.map tok) ∧ (l.map Prod.fst).Nodup ∧ ∀ p ∈ l, p.1.size ≤ maxLen
/-- What a key finds. -/
def look (l : List (ByteArray × Value)) (s : ByteArray) : Option Value := (l.find? (fun p => decide (p.1 = s))).map Prod.snd
/-- Without a key. -/
def without (l : List (ByteArray × Value)) (s : ByteArray) : List (ByteArray × Value) := l.filter (fun p => !decide (p.1 = s))

theorem owns_made (M : SM P t) (w : World) : Owns M (w.alloc (.map #[] 0)) w.heap.size 0 [] := ⟨[], World.ownsMap_made w P M.k _, .refl _, List.nodup_nil, fun p h => by cases h⟩
theorem Owns.mono {M : SM P t} {w : World} {b n n' : Nat} {l : List (ByteArray × Value)} (h : Owns M w b n l) (hn : n ≤ n') : Owns M w b n' l := by
  obtain ⟨es, h1, h2⟩ := h; exact ⟨es, h1.mono hn, h2⟩
theorem Owns.kept {M : SM P t} {w w' : World} {b n : Nat} {l : List (ByteArray × Value)} {row : Option Nat} (h : Owns M w b n l) (hg : w.grownBy w' row) (hne : some b ≠ row) : Owns M w' b n l := by
  obtain ⟨es, h1, h2⟩ := h; exact ⟨es, h1.kept hg hne, h2⟩
theorem Owns.move {M : SM P t} {w w' : World} {b n : Nat} {l : List (ByteArray × Value)} (h : Owns M w b n l) (hg : w'.heap[b]? = w.heap[b]?) : Owns M w' b n l := by
  obtain ⟨es, ⟨es', c, hb, h1⟩, h2⟩ := h
  exact ⟨es, ⟨es', c, hg.trans hb, h1⟩, h2⟩
theorem Owns.lt {M : SM P t} {w : World} {b n : Nat} {l : List (ByteArray × Value)} (h : Owns M w b n l) : b < w.heap.size := by
  obtain ⟨es, h1, h2⟩ := h; exact h1.lt
theorem Owns.nodup {M : SM P t} {w : World} {b n : Nat} {l : List (ByteArray × Value)} (h : Owns M w b n l) : (l.map Prod.fst).Nodup := by
  obtain ⟨es, h1, h2, h3, h4⟩ := h; exact h3
theorem Owns.len {M : SM P t} {w : World} {b n : Nat} {l : List (ByteArray × Value)} (h : Owns M w b n l) : l.length ≤ n := by
  obtain ⟨es, h1, h2, h3, h4⟩ := h
  have h5 := h1.size_le
  rw [Maps.size_eq, h2.length_eq, List.length_map] at h5
  exact h5
theorem look_none {l : List (ByteArray × Value)} {s : ByteArray} : look l s = none ↔ s ∉ l.map Prod.fst := by
  unfold look
  rw [Option.map_eq_none_iff, List.find?_eq_none]
  constructor
  · intro h hm
    obtain ⟨p, hp, rfl⟩ := List.mem_map.1 hm
    exact h p hp (by simp)
  · intro h p hp e
    exact h (List.mem_map.2 ⟨p, hp, by simpa using e⟩)
theorem look_some {l : List (ByteArray × Value)} (hn : (l.map Prod.fst).Nodup) {s : ByteArray} {v : Value} : look l s = some v ↔ (s, v) ∈ l := by
  induction l with
  | nil => simp [look]
  | cons p l ih =>
    obtain ⟨k, x⟩ := p
    rw [List.map_cons, List.nodup_cons] at hn
    have ih := ih hn.2
    by_cases e : k = s
    · subst e
      simp only [look, List.find?_cons, decide_true, Option.map_some, Option.some.injEq, List.mem_cons, Prod.mk.injEq, true_and]
      constructor
      · rintro rfl; exact .inl rfl
      · rintro (rfl | h)
        · rfl
        · exact absurd (List.mem_map.2 ⟨_, h, rfl⟩) hn.1
    · have : look ((k, x) :: l) s = look l s := by simp [look, List.find?_cons, e]
      rw [this, ih, List.mem_cons]
      constructor
      · exact .inr
      · rintro (h | h)
        · exact absurd (congrArg Prod.fst h).symm e
        · exact h

theorem find_tok {es : List (Lit × DataW Value)} {l : List (ByteArray × Value)} (hp : es.Perm (l.map tok)) (hn : (l.map Prod.fst).Nodup) (s : ByteArray) :
    es.find? (fun p => p.1.sameKey (key s)) = (look l s).map (fun v => (key s, .held v)) := by
  have hall : ∀ p ∈ es, ∃ q ∈ l, p = tok q := fun p hpm => by
    obtain ⟨q, hq, rfl⟩ := List.mem_map.1 (hp.mem_iff.1 hpm)
    exact ⟨q, hq, rfl⟩
  cases hl : look l s with
  | none =>
    rw [Option.map_none, List.find?_eq_none]
    intro p hpm hs
    obtain ⟨q, hq, rfl⟩ := hall p hpm
    have he : q.1 = s := by simpa [tok, same_key] using hs
    exact look_none.1 hl (List.mem_map.2 ⟨q, hq, he⟩)
  | some v =>
    have hm := (look_some hn).1 hl
    cases hf : es.find? (fun p => p.1.sameKey (key s)) with
    | none =>
      rw [List.find?_eq_none] at hf
      exact absurd (by simp [tok, same_key]) (hf (tok (s, v)) (hp.mem_iff.2 (List.mem_map.2 ⟨_, hm, rfl⟩)))
    | some p =>
      have hpm := List.mem_of_find?_eq_some hf
      have hs := List.find?_some hf
      obtain ⟨q, hq, rfl⟩ := hall p hpm
      have he : q.1 = s := by simpa [tok, same_key] using hs
      have hv : look l s = some q.2 := (look_some hn).2 (by rw [← he]; exact hq)
      rw [hl] at hv
      obtain rfl := Option.some.inj hv
      simp [tok, he]
theorem at_tok {es : List (Lit × DataW Value)} {l : List (ByteArray × Value)} (hp : es.Perm (l.map tok)) (hn : (l.map Prod.fst).Nodup) (s : ByteArray) (z : Value) : (DataW.map es).atKey (key s) (.held z) = .held ((look l s).getD z) := by
  unfold DataW.atKey
  simp only [find_tok hp hn s]
  cases look l s <;> rfl
theorem without_nodup {l : List (ByteArray × Value)} (hn : (l.map Prod.fst).Nodup) (s : ByteArray) : ((without l s).map Prod.fst).Nodup := by
  unfold without
  exact (List.Sublist.map _ List.filter_sublist).nodup hn
theorem without_not {l : List (ByteArray × Value)} {s : ByteArray} : s ∉ (without l s).map Prod.fst := by
  intro h
  obtain ⟨p, hp, e⟩ := List.mem_map.1 h
  have := (List.mem_filter.1 hp).2
  simp [e] at this
theorem filter_tok {es : List (Lit × DataW Value)} {l : List (ByteArray × Value)} (hp : es.Perm (l.map tok)) (s : ByteArray) : (es.filter (fun p => !p.1.sameKey (key s))).Perm ((without l s).map tok) := by
  have h1 := hp.filter (fun p => !p.1.sameKey (key s))
  have h2 : (l.map tok).filter (fun p => !p.1.sameKey (key s)) = (without l s).map tok := by
    unfold without
    rw [List.filter_map]
    congr 1
    apply List.filter_congr
    intro p _
    simp [Function.comp, tok, same_key]
  rw [h2] at h1
  exact h1

section
variable {ops : Array Oper} {rest : List Oper} {o : Oper} {a : Act} {Q : Exit → Act → World → Prop}
theorem hkey (M : SM P t) {s : ByteArray} (hs : s.size ≤ maxLen) : keyOf P M.k (.string s) = some (key s) := WideMaps.keyOf_string_mk M.hk hs
/-- 'm[k]', at the operation. -/
theorem run_look (M : SM P t) {w : World} {b n : Nat} {l : List (ByteArray × Value)} (h : Owns M w b n l) {s : ByteArray} (hs : s.size ≤ maxLen) :
    (Instr.lookup t (.map (some b)) (.string s) false).run P w = .ok ((look l s).getD M.z) w := by
  obtain ⟨es, h1, h2, h3, h4⟩ := h
  obtain ⟨v, ps, hrun, hv⟩ := h1.lookup (Maps.string_keyed M.hk) M.ht (M.hz w) (zd := .held M.z) (zp := []) rfl (hkey M hs)
  rw [at_tok h2 h3] at hv
  simp only [RV, Option.some.injEq, Prod.mk.injEq, DataW.held.injEq] at hv
  rw [← hv.1]
  exact hrun
/-- 'm[k] = v'. -/
theorem run_store (M : SM P t) {w : World} {b n : Nat} {l : List (ByteArray × Value)} (h : Owns M w b n l) (hn : n < maxLen) {s : ByteArray} (hs : s.size ≤ maxLen) (v : Value) :
    ∃ w', (Instr.mapUpdate t (.map (some b)) (.string s) v).run P w = .ok () w' ∧ Owns M w' b (n + 1) ((s, v) :: without l s) ∧ w.grownBy w' (some b) ∧ w'.heap.size = w.heap.size := by
  obtain ⟨es, h1, h2, h3, h4⟩ := h
  obtain ⟨w', hrun, h5, h6⟩ := h1.store (Maps.string_keyed M.hk) M.ht hn (hkey M hs) (val := v) (d := .held v) (ps := []) rfl
  refine ⟨w', hrun, ⟨_, by rw [DataW.put_eq] at h5; exact h5, ?_, ?_, ?_⟩, h6.grown, ?_⟩
  · unfold ChangeMaps.putKey
    refine (WideShapes.insert_perm _ _).trans ?_
    exact ((filter_tok h2 s).cons _)
  · rw [List.map_cons, List.nodup_cons]
    exact ⟨without_not, without_nodup h3 s⟩
  · intro p hp
    rcases List.mem_cons.1 hp with rfl | hp
    · exact hs
    · exact h4 p (List.mem_filter.1 hp).1
  · obtain ⟨_, _, _, _, _, rfl⟩ := h6
    simp [ChangeMaps.setBlock]
end

section
variable {ops : Array Oper} {rest : List Oper} {o : Oper} {a : Act} {Q : Exit → Act → World → Prop}
/-- 'm[k] = v', at the operation. -/
theorem wp_store (M : SM P t) (w : World) (hg : o.guard = none) (m x y : Operand) (hop : o.op = Op.mapUpdate t m x y) (b n : Nat) (l : List (ByteArray × Value))
    (hm : a.eval m = .map (some b)) (hown : Owns M w b n l) (hn : n < maxLen) (s : ByteArray) (hx : a.eval x = .string s) (hs : s.size ≤ maxLen) (v : Value) (hv : a.eval y = v)
    (hK : ∀ w', Owns M w' b (n + 1) ((s, v) :: without l s) → w.grownBy w' (some b) → w'.heap.size = w.heap.size → wpList P ops Q rest (a.put o.dst undef) w') : wpList P ops Q (o :: rest) a w := by
  refine wpList_plain hg fun K' hK' => ?_
  obtain ⟨w', hrun, r1, r2, r3⟩ := run_store M hown hn hs v
  unfold Oper.wp
  simp [execOp, hop, hm, hx, hv, hrun, Result.andThen]
  exact hK' _ _ (hK w' r1 r2 r3)
end
section
variable {ops : Array Oper} {rest : List Oper} {o : Oper} {a : Act} {Q : Exit → Act → World → Prop}
end
end Go.Proofs.Ytjieagpfnnbiiaa.HStrMap
