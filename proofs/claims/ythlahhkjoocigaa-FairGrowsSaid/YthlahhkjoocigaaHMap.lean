/- Laws of a map block with whole numbers as keys, told by its entries: what a look-up and a store do; of any program. -/
import Derived.MapKept
import Derived.Maps.Own
import Derived.OwnWalk
import Derived.Below
namespace Go.Proofs.Ythlahhkjoocigaa.HMap
open Go Go.MapKept

/-- No entry has this key; all keys are whole numbers of kind q. -/
def Lacks (q : IntKind) (es : List MapEntry) (n : Int) : Prop := ∀ x ∈ es, ∃ m, x.key = .int q m ∧ m ≠ n

theorem findNow_lacks {q : IntKind} {n : Int} : ∀ (es : List MapEntry) (i : Nat), Lacks q es n → Instr.findNow (.int q) (.int q n) es i = some none
  | [], _, _ => rfl
  | e :: es, i, h => by
    obtain ⟨m, hm, hne⟩ := h e (.head _)
    have ih := findNow_lacks es (i + 1) (fun x hx => h x (.tail _ hx))
    have : (n == m) = false := by simp; omega
    simp [Instr.findNow, hm, Instr.sameNow, this, ih]

theorem findNow_at {q : IntKind} {n : Int} : ∀ (es : List MapEntry) (i : Nat) (j : Nat) (e : MapEntry), (∀ x ∈ es, ∃ m, x.key = .int q m) → es[j]? = some e → e.key = .int q n → (∀ k, k < j → ∀ x, es[k]? = some x → x.key ≠ .int q n) → Instr.findNow (.int q) (.int q n) es i = some (some (i + j, e.val))
  | [], _, _, _, _, h, _, _ => by simp at h
  | y :: es, i, 0, e, hk, h, he, _ => by
    obtain rfl : y = e := by simpa using h
    simp [Instr.findNow, he, Instr.sameNow]
  | y :: es, i, j + 1, e, hk, h, he, hb => by
    obtain ⟨m, hm⟩ := hk y (.head _)
    have hne : m ≠ n := fun q' => hb 0 (by omega) y rfl (by rw [hm, q'])
    have : (n == m) = false := by simp; omega
    have ih := findNow_at es (i + 1) j e (fun x hx => hk x (.tail _ hx)) (by simpa using h) he (fun k hk' x hx => hb (k + 1) (by omega) x (by simpa using hx))
    simp only [Instr.findNow, hm, Instr.sameNow, this, ih, if_true]
    congr 3; omega

theorem isKey_int (q : IntKind) (n : Int) : IsKey (.int q) (.int q n) := by simp [IsKey]

/-- A store of a new key into the map that was laid last. -/
theorem run_ins {P : Program} {t k e : TypeId} {q : IntKind} (ht : P.underlying t = some (.map k e)) (hk : P.underlying k = some (.int q)) (W : World) (es : Array MapEntry) (c : Nat) (n : Int) (v : Value) (h : Lacks q es.toList n) :
    (Instr.mapUpdate t (.map (some W.heap.size)) (.int q n) v).run P (W.alloc (.map es c)) = .ok () (W.alloc (.map (es.push ⟨.int q n, v, c⟩) (c + 1))) := by
  have hb : (W.alloc (.map es c)).heap[W.heap.size]? = some (.map es c) := (heap_alloc W _).1
  have h1 := findNow_lacks es.toList 0 h
  simp [Instr.mapUpdate, run_underlying ht, MapKept.run_getObj_map hb, run_checkKey hk (isKey_int q n), run_findKey hk h1, MapKept.run_setObj_map _ hb, Result.andThen]
  show ({ W with heap := (W.heap.push (.map es c)).setIfInBounds W.heap.size _ } : World) = { W with heap := W.heap.push _ }
  congr 1
  apply Array.ext'
  simp

/-- A look-up with 'ok' of a key that is not there. -/
theorem run_look_none {P : Program} {t k e : TypeId} {q : IntKind} (ht : P.underlying t = some (.map k e)) (hk : P.underlying k = some (.int q)) {W : World} {b : Nat} {es : Array MapEntry} {c : Nat} {z : Value} (hb : W.heap[b]? = some (.map es c))
    (hz : ∀ W : World, (zeroValue e).run P W = .ok z W) (n : Int) (h : Lacks q es.toList n) :
    (Instr.lookup t (.map (some b)) (.int q n) true).run P W = .ok (.tuple #[z, .bool false]) W := by
  have h1 := findNow_lacks es.toList 0 h
  simp [Instr.lookup, run_underlying ht, MapKept.run_getObj_map hb, run_checkKey hk (isKey_int q n), run_findKey hk h1, hz, Result.andThen]

/-- A look-up with 'ok' of a key that is there. -/
theorem run_look_some {P : Program} {t k e : TypeId} {q : IntKind} (ht : P.underlying t = some (.map k e)) (hk : P.underlying k = some (.int q)) {W : World} {b : Nat} {es : Array MapEntry} {c : Nat} (hb : W.heap[b]? = some (.map es c))
    (n : Int) {j : Nat} {x : MapEntry} (h1 : Instr.findNow (.int q) (.int q n) es.toList 0 = some (some (j, x.val))) :
    (Instr.lookup t (.map (some b)) (.int q n) true).run P W = .ok (.tuple #[x.val, .bool true]) W := by
  simp [Instr.lookup, run_underlying ht, MapKept.run_getObj_map hb, run_checkKey hk (isKey_int q n), run_findKey hk h1, Result.andThen]
end Go.Proofs.Ythlahhkjoocigaa.HMap
