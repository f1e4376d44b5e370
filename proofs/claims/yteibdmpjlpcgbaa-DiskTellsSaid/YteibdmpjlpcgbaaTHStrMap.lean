/- A map with strings as keys, its elements whatever values, told as a list of pairs; of any program. -/
import Derived.Maps.RangeWalk
import Derived.Maps.OwnOps
import Derived.Maps.OwnSet
import Derived.StringKeys
namespace Go.Proofs.Yteibdmpjlpcgbaa.HStrMap
open Go
open Go.Maps (Keyed)
set_option linter.unusedVariables false
set_option linter.unusedSimpArgs false

/-- What the types are: t a map type with strings as keys; z the elements' zero value. -/
structure SM (P : Program) (t : TypeId) where
  k : TypeId
  e : TypeId
  z : Value
  ht : P.underlying t = some (.map k e)
  hk : P.underlying k = some .string
  hz : ∀ W : World, (zeroValue e).run P W = .ok z W

/-- Each value reads as itself. -/
def RV (v : Value) : Option (DataW Value × List MemPlace) := some (.held v, [])
def key (s : ByteArray) : Lit := .string s.data.toList
def tok (p : ByteArray × Value) : Lit × DataW Value := (key p.1, .held p.2)
theorem key_inj {s t : ByteArray} (h : key s = key t) : s = t := by
  have h1 : s.data.toList = t.data.toList := by injection h
  cases s; cases t
  simp only at h1
  rw [Array.ext' h1]
theorem isKey (s : ByteArray) : WideAt.IsKeyLit (key s) := trivial
theorem same_key (s t : ByteArray) : (key s).sameKey (key t) = decide (s = t) := by
  by_cases h : s = t
  · subst h
    rw [WideAt.sameKey_self (isKey s)]
    simp
  · rw [Maps.sameKey_ne (fun e => h (key_inj e))]
    simp [h]

variable {P : Program} {t : TypeId}

/-- Block b is a map of at most n entries that holds the pairs l. -/
def Owns (M : SM P t) (w : World) (b n : Nat) (l : List (ByteArray × Value)) : Prop :=
  ∃ es, w.ownsMap P M.k RV b n (.map es) ∧ es.Perm (l.map tok) ∧ (l.map Prod.fst).Nodup ∧ ∀ p ∈ l, p.1.size ≤ maxLen
/-- What a key finds. -/
def look (l : List (ByteArray × Value)) (s : ByteArray) : Option Value := (l.find? (fun p => decide (p.1 = s))).map Prod.snd
/-- Without a key. -/
def without (l : List (ByteArray × Value)) (s : ByteArray) : List (ByteArray × Value) := l.filter (fun p => !decide (p.1 = s))

theorem Owns.perm {M : SM P t} {w : World} {b n : Nat} {l l' : List (ByteArray × Value)} (h : Owns M w b n l) (hp : l.Perm l') : Owns M w b n l' := by
  obtain ⟨es, h1, h2, h3, h4⟩ := h
  exact ⟨es, h1, h2.trans (hp.map _), (hp.map _).nodup_iff.1 h3, fun p hp' => h4 p (hp.mem_iff.2 hp')⟩
theorem owns_made (M : SM P t) (w : World) : Owns M (w.alloc (.map #[] 0)) w.heap.size 0 [] := ⟨[], World.ownsMap_made w P M.k _, .refl _, List.nodup_nil, fun p h => by cases h⟩
theorem Owns.mono {M : SM P t} {w : World} {b n n' : Nat} {l : List (ByteArray × Value)} (h : Owns M w b n l) (hn : n ≤ n') : Owns M w b n' l := by
  obtain ⟨es, h1, h2⟩ := h; exact ⟨es, h1.mono hn, h2⟩
theorem Owns.kept {M : SM P t} {w w' : World} {b n : Nat} {l : List (ByteArray × Value)} {row : Option Nat} (h : Owns M w b n l) (hg : w.grownBy w' row) (hne : some b ≠ row) : Owns M w' b n l := by
  obtain ⟨es, h1, h2⟩ := h; exact ⟨es, h1.kept hg hne, h2⟩
theorem Owns.move {M : SM P t} {w w' : World} {b n : Nat} {l : List (ByteArray × Value)} (h : Owns M w b n l) (hg : w'.heap[b]? = w.heap[b]?) : Owns M w' b n l := by
  obtain ⟨es, ⟨es', c, hb, h1⟩, h2⟩ := h
  exact ⟨es, ⟨es', c, hg.trans hb, h1⟩, h2⟩
theorem Owns.lt {M : SM P t} {w : World} {b n : Nat} {l : List (ByteArray × Value)} (h : Owns M w b n l) : b < w.heap.size := by
  obtain ⟨es, h1, h2⟩ := h; exact h1.lt
theorem Owns.nodup {M : SM P t} {w : World} {b n : Nat} {l : List (ByteArray × Value)} (h : Owns M w b n l) : (l.map Prod.fst).Nodup := by
  obtain ⟨es, h1, h2, h3, h4⟩ := h; exact h3
theorem Owns.len {M : SM P t} {w : World} {b n : Nat} {l : List (ByteArray × Value)} (h : Owns M w b n l) : l.length ≤ n := by
  obtain ⟨es, h1, h2, h3, h4⟩ := h
  have h5 := h1.size_le
  rw [Maps.size_eq, h2.length_eq, List.length_map] at h5
  exact h5
theorem Owns.obj {M : SM P t} {w : World} {b n : Nat} {l : List (ByteArray × Value)} (h : Owns M w b n l) : ∃ es c, w.heap[b]? = some (.map es c) := by
  obtain ⟨es, ⟨es', c, hb, h1⟩, h2⟩ := h
  exact ⟨es', c, hb⟩

theorem look_none {l : List (ByteArray × Value)} {s : ByteArray} : look l s = none ↔ s ∉ l.map Prod.fst := by
  unfold look
  rw [Option.map_eq_none_iff, List.find?_eq_none]
  constructor
  · intro h hm
    obtain ⟨p, hp, rfl⟩ := List.mem_map.1 hm
    exact h p hp (by simp)
  · intro h p hp e
    exact h (List.mem_map.2 ⟨p, hp, by simpa using e⟩)
theorem look_some {l : List (ByteArray × Value)} (hn : (l.map Prod.fst).Nodup) {s : ByteArray} {v : Value} : look l s = some v ↔ (s, v) ∈ l := by
  induction l with
  | nil => simp [look]
  | cons p l ih =>
    obtain ⟨k, x⟩ := p
    rw [List.map_cons, List.nodup_cons] at hn
    have ih := ih hn.2
    by_cases e : k = s
    · subst e
      simp only [look, List.find?_cons, decide_true, Option.map_some, Option.some.injEq, List.mem_cons, Prod.mk.injEq, true_and]
      constructor
      · rintro rfl; exact .inl rfl
      · rintro (rfl | h)
        · rfl
        · exact absurd (List.mem_map.2 ⟨_, h, rfl⟩) hn.1
    · have : look ((k, x) :: l) s = look l s := by simp [look, List.find?_cons, e]
      rw [this, ih, List.mem_cons]
      constructor
      · exact .inr
      · rintro (h | h)
        · exact absurd (congrArg Prod.fst h).symm e
        · exact h

theorem find_tok {es : List (Lit × DataW Value)} {l : List (ByteArray × Value)} (hp : es.Perm (l.map tok)) (hn : (l.map Prod.fst).Nodup) (s : ByteArray) :
    es.find? (fun p => p.1.sameKey (key s)) = (look l s).map (fun v => (key s, .held v)) := by
  have hall : ∀ p ∈ es, ∃ q ∈ l, p = tok q := fun p hpm => by
    obtain ⟨q, hq, rfl⟩ := List.mem_map.1 (hp.mem_iff.1 hpm)
    exact ⟨q, hq, rfl⟩
  cases hl : look l s with
  | none =>
    rw [Option.map_none, List.find?_eq_none]
    intro p hpm hs
    obtain ⟨q, hq, rfl⟩ := hall p hpm
    have he : q.1 = s := by simpa [tok, same_key] using hs
    exact look_none.1 hl (List.mem_map.2 ⟨q, hq, he⟩)
  | some v =>
    have hm := (look_some hn).1 hl
    cases hf : es.find? (fun p => p.1.sameKey (key s)) with
    | none =>
      rw [List.find?_eq_none] at hf
      exact absurd (by simp [tok, same_key]) (hf (tok (s, v)) (hp.mem_iff.2 (List.mem_map.2 ⟨_, hm, rfl⟩)))
    | some p =>
      have hpm := List.mem_of_find?_eq_some hf
      have hs := List.find?_some hf
      obtain ⟨q, hq, rfl⟩ := hall p hpm
      have he : q.1 = s := by simpa [tok, same_key] using hs
      have hv : look l s = some q.2 := (look_some hn).2 (by rw [← he]; exact hq)
      rw [hl] at hv
      obtain rfl := Option.some.inj hv
      simp [tok, he]
theorem any_tok {es : List (Lit × DataW Value)} {l : List (ByteArray × Value)} (hp : es.Perm (l.map tok)) (hn : (l.map Prod.fst).Nodup) (s : ByteArray) : Maps.has (.map es) (key s) = (look l s).isSome := by
  rw [Maps.has_eq]
  have h1 := find_tok hp hn s
  cases hl : look l s with
  | none =>
    rw [hl, Option.map_none, List.find?_eq_none] at h1
    show _ = false
    rw [Bool.eq_false_iff]
    intro h
    obtain ⟨p, hp, hs⟩ := List.any_eq_true.1 h
    exact h1 p hp hs
  | some v =>
    rw [hl] at h1
    rw [Option.map_some] at h1
    have := List.mem_of_find?_eq_some h1
    exact List.any_eq_true.2 ⟨(key s, .held v), this, by simp [same_key]⟩
theorem at_tok {es : List (Lit × DataW Value)} {l : List (ByteArray × Value)} (hp : es.Perm (l.map tok)) (hn : (l.map Prod.fst).Nodup) (s : ByteArray) (z : Value) : (DataW.map es).atKey (key s) (.held z) = .held ((look l s).getD z) := by
  unfold DataW.atKey
  simp only [find_tok hp hn s]
  cases look l s <;> rfl
theorem without_nodup {l : List (ByteArray × Value)} (hn : (l.map Prod.fst).Nodup) (s : ByteArray) : ((without l s).map Prod.fst).Nodup := by
  unfold without
  exact (List.Sublist.map _ List.filter_sublist).nodup hn
theorem without_not {l : List (ByteArray × Value)} {s : ByteArray} : s ∉ (without l s).map Prod.fst := by
  intro h
  obtain ⟨p, hp, e⟩ := List.mem_map.1 h
  have := (List.mem_filter.1 hp).2
  simp [e] at this
theorem filter_tok {es : List (Lit × DataW Value)} {l : List (ByteArray × Value)} (hp : es.Perm (l.map tok)) (s : ByteArray) : (es.filter (fun p => !p.1.sameKey (key s))).Perm ((without l s).map tok) := by
  have h1 := hp.filter (fun p => !p.1.sameKey (key s))
  have h2 : (l.map tok).filter (fun p => !p.1.sameKey (key s)) = (without l s).map tok := by
    unfold without
    rw [List.filter_map]
    congr 1
    apply List.filter_congr
    intro p _
    simp [Function.comp, tok, same_key]
  rw [h2] at h1
  exact h1

section
variable {ops : Array Oper} {rest : List Oper} {o : Oper} {a : Act} {Q : Exit → Act → World → Prop}
theorem hkey (M : SM P t) {s : ByteArray} (hs : s.size ≤ maxLen) : keyOf P M.k (.string s) = some (key s) := WideMaps.keyOf_string_mk M.hk hs
/-- 'm[k]', at the operation. -/
theorem run_look (M : SM P t) {w : World} {b n : Nat} {l : List (ByteArray × Value)} (h : Owns M w b n l) {s : ByteArray} (hs : s.size ≤ maxLen) :
    (Instr.lookup t (.map (some b)) (.string s) false).run P w = .ok ((look l s).getD M.z) w := by
  obtain ⟨es, h1, h2, h3, h4⟩ := h
  obtain ⟨v, ps, hrun, hv⟩ := h1.lookup (Maps.string_keyed M.hk) M.ht (M.hz w) (zd := .held M.z) (zp := []) rfl (hkey M hs)
  rw [at_tok h2 h3] at hv
  simp only [RV, Option.some.injEq, Prod.mk.injEq, DataW.held.injEq] at hv
  rw [← hv.1]
  exact hrun
/-- 'm[k] = v'. -/
theorem run_store (M : SM P t) {w : World} {b n : Nat} {l : List (ByteArray × Value)} (h : Owns M w b n l) (hn : n < maxLen) {s : ByteArray} (hs : s.size ≤ maxLen) (v : Value) :
    ∃ w', (Instr.mapUpdate t (.map (some b)) (.string s) v).run P w = .ok () w' ∧ Owns M w' b (n + 1) ((s, v) :: without l s) ∧ w.grownBy w' (some b) ∧ w'.heap.size = w.heap.size := by
  obtain ⟨es, h1, h2, h3, h4⟩ := h
  obtain ⟨w', hrun, h5, h6⟩ := h1.store (Maps.string_keyed M.hk) M.ht hn (hkey M hs) (val := v) (d := .held v) (ps := []) rfl
  refine ⟨w', hrun, ⟨_, by rw [DataW.put_eq] at h5; exact h5, ?_, ?_, ?_⟩, h6.grown, ?_⟩
  · unfold ChangeMaps.putKey
    refine (WideShapes.insert_perm _ _).trans ?_
    exact ((filter_tok h2 s).cons _)
  · rw [List.map_cons, List.nodup_cons]
    exact ⟨without_not, without_nodup h3 s⟩
  · intro p hp
    rcases List.mem_cons.1 hp with rfl | hp
    · exact hs
    · exact h4 p (List.mem_filter.1 hp).1
  · obtain ⟨_, _, _, _, _, rfl⟩ := h6
    simp [ChangeMaps.setBlock]
/-- 'delete(m, k)'. -/
theorem run_drop (M : SM P t) {w : World} {b n : Nat} {l : List (ByteArray × Value)} (h : Owns M w b n l) {s : ByteArray} (hs : s.size ≤ maxLen) (ty : TypeId) :
    ∃ w', (Builtin.delete_ #[t, M.k] ty #[.map (some b), .string s]).run P w = .ok (.tuple #[]) w' ∧ Owns M w' b n (without l s) ∧ w.grownBy w' (some b) ∧ w'.heap.size = w.heap.size := by
  obtain ⟨es, h1, h2, h3, h4⟩ := h
  obtain ⟨w', hrun, h5, h6⟩ := h1.drop (Maps.string_keyed M.hk) M.ht (hkey M hs) ty
  refine ⟨w', hrun, ⟨_, by rw [DataW.del_eq] at h5; exact h5, filter_tok h2 s, without_nodup h3 s, fun p hp => h4 p (List.mem_filter.1 hp).1⟩, h6.grown, ?_⟩
  obtain ⟨_, _, _, _, _, rfl⟩ := h6
  simp [ChangeMaps.setBlock]
end

section
variable {ops : Array Oper} {rest : List Oper} {o : Oper} {a : Act} {Q : Exit → Act → World → Prop}
/-- 'delete(m, k)', at the operation. -/
theorem wp_drop (M : SM P t) (w : World) (hg : o.guard = none) (m x : Operand) (hop : o.op = Op.call { callee := Callee.builtin Builtin.delete, args := #[m, x], argTypes := #[t, M.k] }) (b n : Nat) (l : List (ByteArray × Value))
    (hm : a.eval m = .map (some b)) (hown : Owns M w b n l) (s : ByteArray) (hx : a.eval x = .string s) (hs : s.size ≤ maxLen)
    (hK : ∀ w', Owns M w' b n (without l s) → w.grownBy w' (some b) → w'.heap.size = w.heap.size → wpList P ops Q rest (a.put o.dst (.tuple #[])) w') : wpList P ops Q (o :: rest) a w := by
  refine wpList_plain hg fun K' hK' => ?_
  obtain ⟨w', hrun, r1, r2, r3⟩ := run_drop M hown hs o.type
  unfold Oper.wp
  simp [execOp, hop, resolve, invoke, builtin, hm, hx, hrun, Result.andThen]
  exact hK' _ _ (hK w' r1 r2 r3)
/-- 'm[k] = v', at the operation. -/
theorem wp_store (M : SM P t) (w : World) (hg : o.guard = none) (m x y : Operand) (hop : o.op = Op.mapUpdate t m x y) (b n : Nat) (l : List (ByteArray × Value))
    (hm : a.eval m = .map (some b)) (hown : Owns M w b n l) (hn : n < maxLen) (s : ByteArray) (hx : a.eval x = .string s) (hs : s.size ≤ maxLen) (v : Value) (hv : a.eval y = v)
    (hK : ∀ w', Owns M w' b (n + 1) ((s, v) :: without l s) → w.grownBy w' (some b) → w'.heap.size = w.heap.size → wpList P ops Q rest (a.put o.dst undef) w') : wpList P ops Q (o :: rest) a w := by
  refine wpList_plain hg fun K' hK' => ?_
  obtain ⟨w', hrun, r1, r2, r3⟩ := run_store M hown hn hs v
  unfold Oper.wp
  simp [execOp, hop, hm, hx, hv, hrun, Result.andThen]
  exact hK' _ _ (hK w' r1 r2 r3)
/-- .. in a region that draws its order. -/
theorem step_store (M : SM P t) (w : World) (hg : Region.wanted o (yielded ops a.tmps) = true) (m x y : Operand) (hop : o.op = Op.mapUpdate t m x y) (b n : Nat) (l : List (ByteArray × Value))
    (hm : a.eval m = .map (some b)) (hown : Owns M w b n l) (hn : n < maxLen) (s : ByteArray) (hx : a.eval x = .string s) (hs : s.size ≤ maxLen) (v : Value) (hv : a.eval y = v) {K : Act → World → Prop}
    (hK : ∀ w', Owns M w' b (n + 1) ((s, v) :: without l s) → w.grownBy w' (some b) → w'.heap.size = w.heap.size → K (a.put o.dst undef) w') : if Region.wanted o (yielded ops a.tmps) = true then Oper.wp P o a w K Q else K (a.put o.dst undef) w := by
  rw [if_pos hg]
  obtain ⟨w', hrun, r1, r2, r3⟩ := run_store M hown hn hs v
  unfold Oper.wp
  simp [execOp, hop, hm, hx, hv, hrun, Result.andThen]
  exact hK w' r1 r2 r3
end
/-- 'for k, v := range m' under way: the pairs of 'todo' are still to come. -/
def Ranges (M : SM P t) (w : World) (b r n : Nat) (l todo : List (ByteArray × Value)) (cnt : Nat) : Prop :=
  ∃ (es : List (Lit × DataW Value)) (left : Lit → Bool), w.ranges P M.k RV b r n (.map es) left cnt ∧ es.Perm (l.map tok) ∧ (l.map Prod.fst).Nodup ∧ (∀ p ∈ l, p.1.size ≤ maxLen) ∧ (∀ p ∈ todo, p ∈ l) ∧ (todo.map Prod.fst).Nodup ∧ ∀ s : ByteArray, left (key s) = true ↔ s ∈ todo.map Prod.fst
theorem Ranges.left {M : SM P t} {w : World} {b r n cnt : Nat} {l todo : List (ByteArray × Value)} (h : Ranges M w b r n l todo cnt) : w.rangeLeft b r = cnt := by
  obtain ⟨es, lf, h1, _⟩ := h; exact h1.left_eq
theorem Ranges.lt {M : SM P t} {w : World} {b r n cnt : Nat} {l todo : List (ByteArray × Value)} (h : Ranges M w b r n l todo cnt) : r < w.heap.size := by
  obtain ⟨es, lf, h1, _⟩ := h; exact h1.lt
theorem Ranges.mem {M : SM P t} {w : World} {b r n cnt : Nat} {l todo : List (ByteArray × Value)} (h : Ranges M w b r n l todo cnt) : ∀ p ∈ todo, p ∈ l := by
  obtain ⟨es, lf, h1, h2, h3, h4, h5, _⟩ := h; exact h5
theorem Ranges.kept {M : SM P t} {w w' : World} {b r n cnt : Nat} {l todo : List (ByteArray × Value)} {row : Option Nat} (h : Ranges M w b r n l todo cnt) (hg : w.grownBy w' row) (hb : some b ≠ row) (hr : some r ≠ row) : Ranges M w' b r n l todo cnt := by
  obtain ⟨es, lf, h1, h2⟩ := h; exact ⟨es, lf, h1.kept hg hb hr, h2⟩
theorem Ranges.move {M : SM P t} {w w' : World} {b r n cnt : Nat} {l todo : List (ByteArray × Value)} (h : Ranges M w b r n l todo cnt) (hb : w'.heap[b]? = w.heap[b]?) (hr : w'.heap[r]? = w.heap[r]?) : Ranges M w' b r n l todo cnt := by
  obtain ⟨es, lf, ⟨es', c, since, seen, c0, q1, q2, q3, q4, q5, q6⟩, h2⟩ := h
  exact ⟨es, lf, ⟨es', c, since, seen, c0, hb.trans q1, q2, q3, q4, hr.trans q5, q6⟩, h2⟩

section
variable {ops : Array Oper} {rest : List Oper} {o : Oper} {a : Act} {Q : Exit → Act → World → Prop}
theorem wp_range (M : SM P t) (w : World) (hg : o.guard = none) (m : Operand) (hop : o.op = Op.range t m) (b n : Nat) (l : List (ByteArray × Value)) (hm : a.eval m = .map (some b)) (hown : Owns M w b n l)
    (hK : ∀ w' cnt, Ranges M w' b w.heap.size n l l cnt → w.grownBy w' none → w'.heap.size = w.heap.size + 1 → wpList P ops Q rest (a.put o.dst (.pointer (some ⟨w.heap.size, 0, none⟩))) w') :
    wpList P ops Q (o :: rest) a w := by
  obtain ⟨es, h1, h2, h3, h4⟩ := hown
  refine wpList_range_own (H := Value) w hg m t hop M.k M.e (Maps.string_keyed M.hk) M.ht RV b n (.map es) hm h1 ?_
  intro w' hr hg' hs
  refine hK w' _ ⟨es, _, hr, h2, h3, h4, fun _ h => h, h3, fun s => ?_⟩ hg' hs
  rw [any_tok h2 h3]
  cases hl : look l s with
  | none => exact ⟨fun h => (by cases h), fun h => absurd h (look_none.1 hl)⟩
  | some v => exact ⟨fun _ => List.mem_map.2 ⟨_, (look_some h3).1 hl, rfl⟩, fun _ => rfl⟩
theorem keyOf_string_inv (M : SM P t) {key' : Value} {kl : Lit} (h : keyOf P M.k key' = some kl) : ∃ s : ByteArray, key' = .string s ∧ kl = key s ∧ s.size ≤ maxLen := by
  rw [Go.keyOf_string M.hk] at h
  unfold mapKey at h
  rw [M.hk] at h
  cases key' <;> simp at h
  exact ⟨_, rfl, h.2.symm, h.1⟩
theorem wp_next (M : SM P t) (w : World) (hg : o.guard = none) (it : Operand) (hop : o.op = Op.next it false) (b r n cnt : Nat) (l todo : List (ByteArray × Value)) (hit : a.eval it = .pointer (some ⟨r, 0, none⟩)) (h : Ranges M w b r n l todo cnt)
    (hDone : todo = [] → wpList P ops Q rest (a.put o.dst (.tuple #[.bool false])) w)
    (hMore : ∀ (s : ByteArray) (v : Value) (todo' : List (ByteArray × Value)) (w' : World) (cnt' : Nat), s.size ≤ maxLen → todo.Perm ((s, v) :: todo') → Ranges M w' b r n l todo' cnt' → cnt' < cnt →
      w.grownBy w' (some r) → w'.heap.size = w.heap.size → (Instr.entry (.pointer (some ⟨r, 0, none⟩))).run P w' = .ok (.tuple #[.string s, v]) w' → wpList P ops Q rest (a.put o.dst (.tuple #[.bool true, .string s, v])) w') :
    wpList P ops Q (o :: rest) a w := by
  obtain ⟨es, lf, h1, h2, h3, h4, h5, h6, h7⟩ := h
  refine wpList_next_ranges (H := Value) w hg it hop M.k (Maps.string_keyed M.hk) RV Value.string id (fun key' kl hk' => by obtain ⟨s, rfl, _⟩ := keyOf_string_inv M hk'; exact ⟨s, rfl⟩) (fun v y hv => ⟨v, rfl⟩) b r n (.map es) lf cnt hit h1 (fun _ hl => hDone ?_) ?_
  · cases todo with
    | nil => rfl
    | cons p q => exact absurd ((h7 p.1).2 List.mem_cons_self) (by rw [hl]; decide)
  · intro s v kl y w' cnt' hk' hl hv hat hr hlt hg' hs hen
    obtain ⟨s', e1, rfl, hsz⟩ := keyOf_string_inv M hk'
    obtain rfl : s = s' := by injection e1
    rw [h7] at hl
    obtain ⟨p, hp, hps⟩ := List.mem_map.1 hl
    have hpl := h5 p hp
    have hlk : look l s = some p.2 := (look_some h3).2 (by rw [← hps]; exact hpl)
    have hvp : v = p.2 := by
      have h8 := hat (.held M.z)
      rw [at_tok h2 h3, hlk] at h8
      simp only [RV, id, Option.some.injEq] at hv
      rw [← hv] at h8
      simp only [Option.getD_some, DataW.held.injEq] at h8
      exact h8.symm
    obtain rfl : p = (s, v) := by rw [hvp, ← hps]
    obtain ⟨t1, t2, rfl⟩ := List.append_of_mem hp
    have hperm : (t1 ++ (s, v) :: t2).Perm ((s, v) :: (t1 ++ t2)) := List.perm_middle
    generalize t1 ++ (s, v) :: t2 = todo at *
    generalize t1 ++ t2 = todo' at hperm
    have hnd : (((s, v) :: todo').map Prod.fst).Nodup := (hperm.map _).nodup_iff.1 h6
    rw [List.map_cons, List.nodup_cons] at hnd
    refine hMore s v todo' w' cnt' hsz hperm ⟨es, _, hr, h2, h3, h4, fun q hq => h5 q (hperm.mem_iff.2 (List.mem_cons_of_mem _ hq)), hnd.2, fun x => ?_⟩ hlt hg' hs hen
    show (lf (key x) && !(key x).sameKey (key s)) = true ↔ _
    have hx : x ∈ todo.map Prod.fst ↔ x = s ∨ x ∈ todo'.map Prod.fst := by
      rw [(hperm.map Prod.fst).mem_iff, List.map_cons, List.mem_cons]
    rw [Bool.and_eq_true, h7, same_key, hx]
    constructor
    · rintro ⟨h1 | h1, h2⟩
      · subst h1; simp at h2
      · exact h1
    · intro h1
      refine ⟨.inr h1, ?_⟩
      have : x ≠ s := fun e => hnd.1 (by rw [← e]; exact h1)
      simp [this]
end
end Go.Proofs.Yteibdmpjlpcgbaa.HStrMap
