/- The document's disk: what its questions answer. -/
import Derived.Test.YteibdmpjlpcgbaaTHDocP
namespace Go.Proofs.Yteibdmpjlpcgbaa.XDisk
open Go Go.RowKit Go.Proofs.YteibdmpjlpcgbaaW.PrintWords Go.Proofs.YteibdmpjlpcgbaaW.PrintLast Go.Proofs.YteibdmpjlpcgbaaW.PrintMore
open Go.Proofs.Yteibdmpjlpcgbaa
set_option linter.unusedVariables false
set_option linter.unusedSimpArgs false
theorem named_doc (n : Nm) (w : World) : Calls Try.prog 47 #[.string (str n)] w fun e w' => e = .returned (.bool (vN n)) ∧ Drawn0 w w' := by
  refine ratlineref01_Named.calls (str n) (vN n) w ?_
  unfold ratlineref01_Named.f vN
  rw [str_size]
  by_cases h : 0 < n.length
  · rw [if_pos (by omega), decide_eq_true h, Bool.true_and]
    congr 1
    exact decide_eq_decide.2 (by omega)
  · rw [if_neg (by omega), decide_eq_false h]
    rfl
/-- Where a file is. -/
def findI (n : Nm) : List (Nm × FA) → Nat → Int
  | [], _ => -1
  | p :: l, i => if p.1 = n then i else findI n l (i + 1)
theorem findI_cons (n : Nm) (p : Nm × FA) (l : List (Nm × FA)) (i : Nat) : findI n (p :: l) i = if p.1 = n then (i : Int) else findI n l (i + 1) := rfl
theorem get_cons (n : Nm) (p : Nm × FA) (l : List (Nm × FA)) : get (p :: l) n = if p.1 = n then some p.2 else get l n := by
  unfold get
  rw [List.find?_cons]
  by_cases h : p.1 = n
  · rw [if_pos h]; simp [h]
  · rw [if_neg h]; simp [h]
theorem findI_get (n : Nm) : ∀ (l : List (Nm × FA)) (i : Nat), (findI n l i = -1 ∧ get l n = none) ∨ ∃ (j : Nat) (p : Nm × FA), findI n l i = ((i + j : Nat) : Int) ∧ l[j]? = some p ∧ p.1 = n ∧ get l n = some p.2
  | [], i => .inl ⟨rfl, rfl⟩
  | p :: l, i => by
    rw [get_cons]
    unfold findI
    by_cases h : p.1 = n
    · rw [if_pos h, if_pos h]
      exact .inr ⟨0, p, rfl, rfl, h, rfl⟩
    · rw [if_neg h, if_neg h]
      rcases findI_get n l (i + 1) with h1 | ⟨j, q, h1, h2, h3, h4⟩
      · exact .inl h1
      · exact .inr ⟨j + 1, q, by rw [h1]; congr 1; omega, by rw [List.getElem?_cons_succ]; exact h2, h3, h4⟩
theorem rd57 (l : List (Nm × FA)) (i : Nat) (h : i < l.length) : rd_T57 (docF l) (i : Int) = toS l[i] := docF_get (List.getElem?_eq_getElem h)
theorem find_loop (S : DA) (n : Nm) (hl : S.files.length ≤ 1000000) : ∀ (k i : Nat), k + i = S.files.length + 1 → 0 < k → ratlineref01_Disk_find.l0 k (str n) (i : Int) S.room S.fails S.parts (docF S.files) S.calls = some (findI n (S.files.drop i) i)
  | 0, i, h, h0 => absurd h0 (Nat.lt_irrefl 0)
  | k + 1, i, h, _ => by
    unfold ratlineref01_Disk_find.l0
    rw [docF_len]
    by_cases hi : i < S.files.length
    · rw [if_pos (by omega), if_pos (by omega), rd57 _ i hi, List.drop_eq_getElem_cons hi]
      have hw : wrap64 ((i : Int) + 1) = ((i + 1 : Nat) : Int) := by rw [w64' (by omega) (by omega)]; rfl
      have ih := find_loop S n hl k (i + 1) (by omega) (by omega)
      rw [hw, ih, findI_cons]
      have e : ((toS S.files[i]).f0).toList = S.files[i].1 := toList_str _
      rw [e, toList_str]
      split <;> rfl
    · rw [if_neg (by omega), List.drop_eq_nil_of_le (by omega)]
      rfl
theorem find_doc (Af : Option Addr) (cf : Nat) (Ap : Option Addr) (cp : Nat) (A : Option Addr) (c : Nat) (S : DA) (n : Nm) (w : World) {P : Nat → Prop} (h : DocIn w P Af cf Ap cp A c S) (hl : S.files.length ≤ 1000000) :
    Calls Try.prog 48 #[docV Af cf Ap cp A c S, .string (str n)] w fun e w' => e = .returned (.int .i64 (findI n S.files 0)) ∧ Below w.heap.size w w' := by
  have hf : (docF S.files).length = S.files.length := docF_len _
  have := ratlineref01_Disk_find.calls (S.files.length + 1) S.room Af cf S.fails Ap cp S.parts A c (docF S.files) S.calls (str n) (findI n S.files 0) w (Kd.F_now h.fl) h.fc (Kd.F_now h.pt) h.pc (by rw [hf]; exact Kd.F_now h.fs) (by rw [hf]; exact h.sc) (by unfold ratlineref01_Disk_find.f; exact find_loop S n hl _ 0 rfl (Nat.succ_pos _))
  rw [hf] at this
  exact this
def refI (c : Int) (parts l : List Int) (i : Nat) : Int × Bool := if idx c l (i : Int) < 0 then (0, false) else (if (parts.length : Int) ≤ idx c l (i : Int) then 0 else max (parts.getD (idx c l (i : Int)).toNat 0) 0, true)
theorem refI_hit (c : Int) (parts l : List Int) (i : Nat) : refI c parts (c :: l) i = (if parts.length ≤ i then 0 else max (parts.getD i 0) 0, true) := by
  unfold refI
  have e : idx c (c :: l) (i : Int) = i := by unfold idx; rw [if_pos rfl]
  rw [e, if_neg (by omega), Int.toNat_natCast]
  congr 1
  by_cases h : parts.length ≤ i
  · rw [if_pos h, if_pos (by omega)]
  · rw [if_neg h, if_neg (by omega)]
theorem refI_miss {x c : Int} (h : ¬ x = c) (parts l : List Int) (i : Nat) : refI c parts (x :: l) i = refI c parts l (i + 1) := by
  unfold refI
  have e : idx c (x :: l) (i : Int) = idx c l ((i + 1 : Nat) : Int) := by
    conv => lhs; unfold idx
    rw [if_neg h]; rfl
  rw [e]
theorem ref_loop (S : DA) (F : List S57) (hl : S.fails.length ≤ 1000000) : ∀ (k i : Nat), k + i = S.fails.length + 1 → 0 < k → ratlineref01_Disk_refused.l0 k (i : Int) S.room S.fails S.parts F S.calls = some (refI S.calls S.parts (S.fails.drop i) i)
  | 0, i, h, h0 => absurd h0 (Nat.lt_irrefl 0)
  | k + 1, i, h, _ => by
    unfold ratlineref01_Disk_refused.l0
    by_cases hi : i < S.fails.length
    · rw [if_pos (by omega), if_pos (by omega), dropI _ i hi, rdI, rdI]
      have hw : wrap64 ((i : Int) + 1) = ((i + 1 : Nat) : Int) := by rw [w64' (by omega) (by omega)]; rfl
      have ih := ref_loop S F hl k (i + 1) (by omega) (by omega)
      rw [hw, ih]
      by_cases h1 : S.fails.getD i 0 = S.calls
      · rw [if_pos h1, h1, refI_hit]
        by_cases h2 : i < S.parts.length
        · have g1 : (i : Int) < (S.parts.length : Int) := by omega
          have g2 : ¬ S.parts.length ≤ i := by omega
          rw [if_pos g1, if_neg g2]
          by_cases h3 : S.parts.getD i 0 > 0
          · rw [if_pos h3]; congr 2; omega
          · rw [if_neg h3]; congr 2; omega
        · have g1 : ¬ (i : Int) < (S.parts.length : Int) := by omega
          have g2 : S.parts.length ≤ i := by omega
          rw [if_neg g1, if_pos g2]
      · rw [if_neg h1, refI_miss h1]
    · rw [if_neg (by omega), List.drop_eq_nil_of_le (by omega)]
      rfl
theorem refused_doc (Af : Option Addr) (cf : Nat) (Ap : Option Addr) (cp : Nat) (A : Option Addr) (c : Nat) (S : DA) (w : World) {P : Nat → Prop} (h : DocIn w P Af cf Ap cp A c S) (hl : S.fails.length ≤ 1000000) :
    Calls Try.prog 61 #[docV Af cf Ap cp A c S] w fun e w' => e = .returned (.tuple #[.int .i64 (partOf (refusedP S.fails S.parts S.calls)), .bool (refusedP S.fails S.parts S.calls).isSome]) ∧ Below w.heap.size w w' := by
  have hf : (docF S.files).length = S.files.length := docF_len _
  have e : refI S.calls S.parts S.fails 0 = (partOf (refusedP S.fails S.parts S.calls), (refusedP S.fails S.parts S.calls).isSome) := by
    unfold refI refusedP partOf
    by_cases h1 : idx S.calls S.fails 0 < 0
    · rw [if_pos h1, if_pos (show idx S.calls S.fails ((0 : Nat) : Int) < 0 from h1)]; rfl
    · rw [if_neg h1, if_neg (show ¬ idx S.calls S.fails ((0 : Nat) : Int) < 0 from h1)]
      by_cases h2 : (S.parts.length : Int) ≤ idx S.calls S.fails 0
      · rw [if_pos h2, if_pos (show (S.parts.length : Int) ≤ idx S.calls S.fails ((0 : Nat) : Int) from h2)]; rfl
      · rw [if_neg h2, if_neg (show ¬ (S.parts.length : Int) ≤ idx S.calls S.fails ((0 : Nat) : Int) from h2)]; rfl
  have := ratlineref01_Disk_refused.calls (S.fails.length + 1) S.room Af cf S.fails Ap cp S.parts A c (docF S.files) S.calls _ _ w (Kd.F_now h.fl) h.fc (Kd.F_now h.pt) h.pc (by rw [hf]; exact Kd.F_now h.fs) (by rw [hf]; exact h.sc) (by unfold ratlineref01_Disk_refused.f; have := ref_loop S (docF S.files) hl (S.fails.length + 1) 0 rfl (Nat.succ_pos _); rw [List.drop_zero, e] at this; exact this)
  rw [hf] at this
  exact this
theorem used_loop (S : DA) (hl : S.files.length ≤ 1000000) : ∀ (k i : Nat) (m : Int), k + i = S.files.length + 1 → 0 < k → 0 ≤ m → m + used (S.files.drop i) ≤ 1000000000000 → ratlineref01_Disk_Used.l0 k m (i : Int) S.room S.fails S.parts (docF S.files) S.calls = some (m + used (S.files.drop i))
  | 0, i, _, h, h0, _, _ => absurd h0 (Nat.lt_irrefl 0)
  | k + 1, i, m, h, _, hm, hu => by
    unfold ratlineref01_Disk_Used.l0
    rw [docF_len]
    by_cases hi : i < S.files.length
    · rw [if_pos (by omega), if_pos (by omega), rd57 _ i hi]
      rw [List.drop_eq_getElem_cons hi] at hu ⊢
      have e : (((toS S.files[i]).f1).length : Int) = S.files[i].2.b.length := rfl
      rw [e]
      simp only [used] at hu ⊢
      have hn := used_nonneg (S.files.drop (i + 1))
      have hw : wrap64 ((i : Int) + 1) = ((i + 1 : Nat) : Int) := by rw [w64' (by omega) (by omega)]; rfl
      have hw2 : wrap64 (m + (S.files[i].2.b.length : Int)) = m + (S.files[i].2.b.length : Int) := w64' (by omega) (by omega)
      have ih := used_loop S hl k (i + 1) (m + (S.files[i].2.b.length : Int)) (by omega) (by omega) (by omega) (by omega)
      rw [hw, hw2, ih]
      congr 1
      omega
    · rw [if_neg (by omega), List.drop_eq_nil_of_le (by omega)]
      simp [used]
theorem used_doc (Af : Option Addr) (cf : Nat) (Ap : Option Addr) (cp : Nat) (A : Option Addr) (c : Nat) (S : DA) (w : World) {P : Nat → Prop} (h : DocIn w P Af cf Ap cp A c S) (hl : S.files.length ≤ 1000000) (hu : used S.files ≤ 1000000000000) :
    Calls Try.prog 44 #[docV Af cf Ap cp A c S] w fun e w' => e = .returned (.int .i64 (used S.files)) ∧ Below w.heap.size w w' := by
  have hf : (docF S.files).length = S.files.length := docF_len _
  have := ratlineref01_Disk_Used.calls (S.files.length + 1) S.room Af cf S.fails Ap cp S.parts A c (docF S.files) S.calls (used S.files) w (Kd.F_now h.fl) h.fc (Kd.F_now h.pt) h.pc (by rw [hf]; exact Kd.F_now h.fs) (by rw [hf]; exact h.sc) (by unfold ratlineref01_Disk_Used.f; have := used_loop S hl (S.files.length + 1) 0 0 rfl (Nat.succ_pos _) (Int.le_refl _) (by rw [List.drop_zero]; omega); rw [List.drop_zero, Int.zero_add] at this; exact this)
  rw [hf] at this
  exact this
theorem list_loop (S : DA) (hl : S.files.length ≤ 1000000) : ∀ (k i : Nat) (acc : List ByteArray), k + i = S.files.length + 1 → 0 < k → acc.length = i → ratlineref01_Disk_List.l0 k acc (i : Int) S.room S.fails S.parts (docF S.files) S.calls = some (acc ++ (S.files.drop i).map (fun p => str p.1))
  | 0, i, _, h, h0, _ => absurd h0 (Nat.lt_irrefl 0)
  | k + 1, i, acc, h, _, ha => by
    unfold ratlineref01_Disk_List.l0
    rw [docF_len]
    by_cases hi : i < S.files.length
    · rw [if_pos (by omega), if_pos (by omega), if_pos (by omega), rd57 _ i hi, List.drop_eq_getElem_cons hi]
      have hw : wrap64 ((i : Int) + 1) = ((i + 1 : Nat) : Int) := by rw [w64' (by omega) (by omega)]; rfl
      have ih := list_loop S hl k (i + 1) (acc ++ [(toS S.files[i]).f0]) (by omega) (by omega) (by rw [List.length_append, ha]; rfl)
      rw [hw, ih, List.append_assoc]
      rfl
    · rw [if_neg (by omega), List.drop_eq_nil_of_le (by omega)]
      simp
theorem list_doc (Af : Option Addr) (cf : Nat) (Ap : Option Addr) (cp : Nat) (A : Option Addr) (c : Nat) (S : DA) (w : World) {P : Nat → Prop} (h : DocIn w P Af cf Ap cp A c S) (hl : S.files.length ≤ 1000000) :
    Calls Try.prog 43 #[docV Af cf Ap cp A c S] w fun e w' => ∃ v, e = .returned v ∧ Kd.R Kd.string 9 w' w.heap.size (fun _ => True) v (S.files.map (fun p => str p.1)) ∧ Below w.heap.size w w' := by
  have hf : (docF S.files).length = S.files.length := docF_len _
  have := ratlineref01_Disk_List.calls (S.files.length + 1) S.room Af cf S.fails Ap cp S.parts A c (docF S.files) S.calls (S.files.map (fun p => str p.1)) w (Kd.F_now h.fl) h.fc (Kd.F_now h.pt) h.pc (by rw [hf]; exact Kd.F_now h.fs) (by rw [hf]; exact h.sc) (by unfold ratlineref01_Disk_List.f; have := list_loop S hl (S.files.length + 1) 0 [] rfl (Nat.succ_pos _) rfl; rw [List.drop_zero, List.nil_append] at this; exact this)
  rw [hf] at this
  exact this
end Go.Proofs.Yteibdmpjlpcgbaa.XDisk
