/- Legal: there is an order that fits (plain). -/
import Derived.Test.YtjieagpfnnbiiaaBHLin14
namespace Go.Proofs.Ytjieagpfnnbiiaa.XLin
open Go Go.RowKit Go.Proofs.YtjieagpfnnbiiaaW.PrintWords Go.Proofs.YtjieagpfnnbiiaaW.PrintLast Go.Proofs.YtjieagpfnnbiiaaW.PrintMore
open Go.Proofs.Ytjieagpfnnbiiaa
set_option linter.unusedVariables false
set_option linter.unusedSimpArgs false
/-- A byte, of a number. -/
def u8 (n : Int) : UInt8 := UInt8.ofNat n.toNat
theorem u8_inj {a b : Int} (ha : 0 ≤ a ∧ a < 256) (hb : 0 ≤ b ∧ b < 256) (h : u8 a = u8 b) : a = b := by
  have h1 := congrArg UInt8.toNat h
  unfold u8 at h1
  rw [UInt8.toNat_ofNat', UInt8.toNat_ofNat', Nat.mod_eq_of_lt (by omega), Nat.mod_eq_of_lt (by omega)] at h1
  omega
theorem u8_bytes (s : ByteArray) : (bytesOf s).map u8 = s.data.toList := by
  unfold bytesOf
  rw [List.map_map]
  conv => rhs; rw [← List.map_id s.data.toList]
  apply List.map_congr_left
  intro b _
  show u8 (b.toNat : Int) = b
  unfold u8
  rw [Int.toNat_natCast]
  exact UInt8.ofNat_toNat
theorem bytes_eq {s t : ByteArray} (h : s.data.toList = t.data.toList) : s = t := by
  cases s
  cases t
  simp only at h
  rw [Array.ext' h]
theorem pairs_inj : ∀ (m m' : List S25), Small m → Small m' → (m.flatMap pairKey).map u8 = (m'.flatMap pairKey).map u8 → m = m'
  | [], [], _, _, _ => rfl
  | [], q :: m', _, _, h => by
    rw [List.flatMap_cons] at h
    unfold pairKey at h
    simp at h
  | p :: m, [], _, _, h => by
    rw [List.flatMap_cons] at h
    unfold pairKey at h
    simp at h
  | p :: m, q :: m', h1, h2, h => by
    have hp := h1 p List.mem_cons_self
    have hq := h2 q List.mem_cons_self
    rw [List.flatMap_cons, List.flatMap_cons] at h
    unfold pairKey at h
    simp only [List.map_append, List.map_cons, List.map_nil, List.cons_append, List.nil_append, List.append_assoc, List.cons.injEq] at h
    obtain ⟨e1, e2, e3, e4⟩ := h
    have k1 := u8_inj (by omega) (by omega) e1
    have k2 := u8_inj (by omega) (by omega) e2
    have k3 := u8_inj (by omega) (by omega) e3
    have s0 : p.f0.size = q.f0.size := by omega
    have s1 : p.f1.size = q.f1.size := by omega
    rw [u8_bytes, u8_bytes, u8_bytes, u8_bytes] at e4
    have l0 : p.f0.data.toList.length = q.f0.data.toList.length := by rw [data_length, data_length, s0]
    have l1 : p.f1.data.toList.length = q.f1.data.toList.length := by rw [data_length, data_length, s1]
    obtain ⟨a1, a2⟩ := List.append_inj e4 l0
    obtain ⟨b1, b2⟩ := List.append_inj a2 l1
    have hm := pairs_inj m m' (fun x hx => h1 x (List.mem_cons_of_mem _ hx)) (fun x hx => h2 x (List.mem_cons_of_mem _ hx)) b2
    have f0 := bytes_eq a1
    have f1 := bytes_eq b1
    rw [hm]
    congr 1
    cases p
    cases q
    simp only at f0 f1
    rw [f0, f1]
theorem key_inj {a b : List Int} {m m' : List S25} (ha : Bits a) (hb : Bits b) (hl : a.length = b.length) (hm : Small m) (hm' : Small m') (h : keyP a m = keyP b m') : a = b ∧ m = m' := by
  have e := key_done ha hb hl h
  refine ⟨e, ?_⟩
  subst e
  unfold keyP strOfNums at h
  have h1 := congrArg (fun s : ByteArray => s.data.toList) h
  simp only [List.map_append] at h1
  exact pairs_inj m m' hm hm' (List.append_cancel_left h1)
/-- A call that may be next leads on. -/
inductive Sol (l : List S36) : List Int → List S25 → Prop
  | nil {done : List Int} {m : List S25} (h : ∀ n, n < l.length → mustP (l.getD n z36) = true → done.getD n 0 ≠ 0) : Sol l done m
  | step {done : List Int} {m : List S25} (n : Nat) (hn : n < l.length) (hmay : mayP (l.getD n z36) = true) (h0 : done.getD n 0 = 0) (hw : waitsP l done n = false) (ht : (thenP m (l.getD n z36)).2 = true) (h : Sol l (done.set n 1) (thenP m (l.getD n z36)).1) : Sol l done m
def StepSol (l : List S36) (done : List Int) (m : List S25) (n : Nat) : Prop :=
  mayP (l.getD n z36) = true ∧ done.getD n 0 = 0 ∧ waitsP l done n = false ∧ (thenP m (l.getD n z36)).2 = true ∧ Sol l (done.set n 1) (thenP m (l.getD n z36)).1
def Failed (l : List S36) (s : ByteArray) : Prop := ∃ d m, Bits d ∧ d.length = l.length ∧ Small m ∧ s = keyP d m ∧ ¬ Sol l d m
def Anc (l : List S36) (c : Nat) (s : ByteArray) : Prop := ∃ d m, Bits d ∧ d.length = l.length ∧ s = keyP d m ∧ c < d.count 0
theorem loop_spec (l : List S36) (f : List Int → List S25 → List ByteArray → Bool × List ByteArray) (done : List Int) (m : List S25) (hb : Bits done) (hl : done.length = l.length) (hm : Small m) (c : Nat) (hc : done.count 0 = c + 1)
    (hf : ∀ (n : Nat) (m' : List S25) (T : List ByteArray), n < l.length → done.getD n 0 = 0 → Small m' → (∀ s ∈ T, Failed l s ∨ Anc l c s) →
      ((f (done.set n 1) m' T).1 = true → Sol l (done.set n 1) m') ∧ ((f (done.set n 1) m' T).1 = false → ¬ Sol l (done.set n 1) m' ∧ ∀ s ∈ (f (done.set n 1) m' T).2, s ∈ T ∨ Failed l s)) :
    ∀ (ns : List Nat) (left : Bool) (T : List ByteArray), (∀ n ∈ ns, n < l.length) → (∀ s ∈ T, Failed l s ∨ Anc l c s) →
      ((tryLoop l f done m ns left T).1 = true → (left = false ∧ ∀ n ∈ ns, ¬ (mustP (l.getD n z36) = true ∧ done.getD n 0 = 0)) ∨ ∃ n ∈ ns, StepSol l done m n) ∧
      ((tryLoop l f done m ns left T).1 = false → (left = true ∨ ∃ n ∈ ns, mustP (l.getD n z36) = true ∧ done.getD n 0 = 0) ∧ (∀ n ∈ ns, ¬ StepSol l done m n) ∧ ∀ s ∈ (tryLoop l f done m ns left T).2, s ∈ T ∨ Failed l s)
  | [], left, T, _, _ => by
    unfold tryLoop
    refine ⟨fun h => .inl ⟨by simpa using h, fun n hn => by cases hn⟩, fun h => ⟨.inl (by simpa using h), (fun n hn => by cases hn), fun s hs => .inl hs⟩⟩
  | n :: ns, left, T, hns, hT => by
    have hn : n < l.length := hns n List.mem_cons_self
    have hns' : ∀ k ∈ ns, k < l.length := fun k hk => hns k (List.mem_cons_of_mem _ hk)
    -- what a round that is left out leaves
    have out : ∀ (T2 : List ByteArray), ¬ StepSol l done m n → (∀ s ∈ T2, s ∈ T ∨ Failed l s) →
        ((tryLoop l f done m ns (left || (mustP (l.getD n z36) && decide (done.getD n 0 = 0))) T2).1 = true → (left = false ∧ ∀ k ∈ n :: ns, ¬ (mustP (l.getD k z36) = true ∧ done.getD k 0 = 0)) ∨ ∃ k ∈ n :: ns, StepSol l done m k) ∧
        ((tryLoop l f done m ns (left || (mustP (l.getD n z36) && decide (done.getD n 0 = 0))) T2).1 = false → (left = true ∨ ∃ k ∈ n :: ns, mustP (l.getD k z36) = true ∧ done.getD k 0 = 0) ∧ (∀ k ∈ n :: ns, ¬ StepSol l done m k) ∧ ∀ s ∈ (tryLoop l f done m ns (left || (mustP (l.getD n z36) && decide (done.getD n 0 = 0))) T2).2, s ∈ T ∨ Failed l s) := by
      intro T2 hno hT2
      have hT2' : ∀ s ∈ T2, Failed l s ∨ Anc l c s := fun s hs => (hT2 s hs).elim (hT s) .inl
      obtain ⟨i1, i2⟩ := loop_spec l f done m hb hl hm c hc hf ns (left || (mustP (l.getD n z36) && decide (done.getD n 0 = 0))) T2 hns' hT2'
      refine ⟨fun h => ?_, fun h => ?_⟩
      · rcases i1 h with ⟨h1, h2⟩ | ⟨k, hk, h1⟩
        · rw [Bool.or_eq_false_iff] at h1
          refine .inl ⟨h1.1, fun k hk => ?_⟩
          rcases List.mem_cons.1 hk with rfl | hk
          · rintro ⟨q1, q2⟩
            have q3 := h1.2
            rw [q1, decide_eq_true q2] at q3
            cases q3
          · exact h2 k hk
        · exact .inr ⟨k, List.mem_cons_of_mem _ hk, h1⟩
      · obtain ⟨j1, j2, j3⟩ := i2 h
        refine ⟨?_, fun k hk => ?_, fun s hs => (j3 s hs).elim (hT2 s) .inr⟩
        · rcases j1 with j1 | ⟨k, hk, j1⟩
          · rw [Bool.or_eq_true, Bool.and_eq_true, decide_eq_true_eq] at j1
            rcases j1 with j1 | j1
            · exact .inl j1
            · exact .inr ⟨n, List.mem_cons_self, j1⟩
          · exact .inr ⟨k, List.mem_cons_of_mem _ hk, j1⟩
        · rcases List.mem_cons.1 hk with rfl | hk
          · exact hno
          · exact j2 k hk
    unfold tryLoop
    split
    · next hskip =>
      refine out T ?_ (fun s hs => .inl hs)
      rintro ⟨q1, q2, q3, _⟩
      rcases hskip with h | h | h
      · rw [q1] at h; cases h
      · rw [q2] at h; cases h
      · rw [q3] at h; cases h
    · next hskip =>
      have hmay : mayP (l.getD n z36) = true := by
        cases h : mayP (l.getD n z36)
        · exact absurd (.inl h) hskip
        · rfl
      have hd1 : done.getD n 0 ≠ 1 := fun h => hskip (.inr (.inl h))
      have hd0 : done.getD n 0 = 0 := (bits_at hb (by rw [hl]; exact hn)).resolve_right hd1
      have hw : waitsP l done n = false := by
        cases h : waitsP l done n
        · rfl
        · exact absurd (.inr (.inr h)) hskip
      split
      · next ht =>
        refine out T ?_ (fun s hs => .inl hs)
        rintro ⟨_, _, _, q4, _⟩
        rw [q4] at ht
        cases ht
      · next ht =>
        have ht' : (thenP m (l.getD n z36)).2 = true := Bool.of_not_eq_false ht
        obtain ⟨f1, f2⟩ := hf n (thenP m (l.getD n z36)).1 T hn hd0 (thenP_small _ hm) hT
        split
        · next hr =>
          refine ⟨fun _ => .inr ⟨n, List.mem_cons_self, hmay, hd0, hw, ht', f1 hr⟩, fun h => by cases h⟩
        · next hr =>
          obtain ⟨g1, g2⟩ := f2 (Bool.eq_false_iff.2 hr)
          exact out _ (fun h => g1 h.2.2.2.2) g2
theorem try_spec (l : List S36) : ∀ (k : Nat) (done : List Int) (m : List S25) (T : List ByteArray), Bits done → done.length = l.length → Small m → done.count 0 < k → (∀ s ∈ T, Failed l s ∨ Anc l (done.count 0) s) →
    ((tryP l k done m T).1 = true → Sol l done m) ∧ ((tryP l k done m T).1 = false → ¬ Sol l done m ∧ ∀ s ∈ (tryP l k done m T).2, s ∈ T ∨ Failed l s)
  | 0, done, m, T, _, _, _, h, _ => absurd h (Nat.not_lt_zero _)
  | k + 1, done, m, T, hb, hl, hm, hk, hT => by
    unfold tryP
    split
    · next hany =>
      refine ⟨(fun h => by cases h), fun _ => ⟨?_, fun s hs => .inl hs⟩⟩
      obtain ⟨s, hs, he⟩ := List.any_eq_true.1 hany
      have he := of_decide_eq_true he
      rcases hT s hs with ⟨d, m', h1, h2, h3, h4, h5⟩ | ⟨d, m', h1, h2, h4, h5⟩
      · obtain ⟨e1, e2⟩ := key_inj h1 hb (by rw [h2, hl]) h3 hm (h4.symm.trans he)
        subst e1
        subst e2
        exact h5
      · have e1 := key_done h1 hb (by rw [h2, hl]) (h4.symm.trans he)
        subst e1
        exact absurd h5 (Nat.lt_irrefl _)
    · next hany =>
      rcases Nat.eq_zero_or_pos (done.count 0) with hz | hz
      · -- nothing is left
        have hno : ∀ n, n < l.length → done.getD n 0 ≠ 0 := by
          intro n hn h0
          have := count_set done n (by rw [hl]; exact hn) h0
          omega
        have hend : ∀ (ns : List Nat) (left : Bool) (T : List ByteArray), (∀ n ∈ ns, n < l.length) → tryLoop l (tryP l k) done m ns left T = (!left, T) := by
          intro ns
          induction ns with
          | nil => intro left T _; rfl
          | cons n ns ih =>
            intro left T hns
            have hn := hns n List.mem_cons_self
            have h1 : done.getD n 0 = 1 := (bits_at hb (by rw [hl]; exact hn)).resolve_left (hno n hn)
            unfold tryLoop
            rw [if_pos (.inr (.inl h1)), ih _ _ (fun k hk => hns k (List.mem_cons_of_mem _ hk)), decide_eq_false (hno n hn), Bool.and_false, Bool.or_false]
        rw [hend _ _ _ (fun n hn => List.mem_range.1 hn)]
        refine ⟨fun _ => .nil (fun n hn _ => hno n hn), fun h => by cases h⟩
      · obtain ⟨c, hc⟩ : ∃ c, done.count 0 = c + 1 := ⟨done.count 0 - 1, by omega⟩
        have hT1 : ∀ s ∈ keyP done m :: T, Failed l s ∨ Anc l c s := by
          intro s hs
          rcases List.mem_cons.1 hs with rfl | hs
          · exact .inr ⟨done, m, hb, hl, rfl, by omega⟩
          · rcases hT s hs with h | ⟨d, m', h1, h2, h3, h4⟩
            · exact .inl h
            · exact .inr ⟨d, m', h1, h2, h3, by omega⟩
        obtain ⟨i1, i2⟩ := loop_spec l (tryP l k) done m hb hl hm c hc (fun n m' T' hn h0 hm' hT' => by
          have hcs := count_set done n (by rw [hl]; exact hn) h0
          refine try_spec l k (done.set n 1) m' T' (bits_set hb n) (by rw [List.length_set]; exact hl) hm' (by omega) ?_
          rw [show (done.set n 1).count 0 = c by omega]
          exact hT') (List.range l.length) false (keyP done m :: T) (fun n hn => List.mem_range.1 hn) hT1
        refine ⟨fun h => ?_, fun h => ?_⟩
        · rcases i1 h with ⟨_, h2⟩ | ⟨n, hn, h1, h2, h3, h4, h5⟩
          · exact .nil (fun n hn hmu h0 => h2 n (List.mem_range.2 hn) ⟨hmu, h0⟩)
          · exact .step n (List.mem_range.1 hn) h1 h2 h3 h4 h5
        · obtain ⟨j1, j2, j3⟩ := i2 h
          have hns : ¬ Sol l done m := by
            intro hs
            cases hs with
            | nil h0 =>
              rcases j1 with j1 | ⟨n, hn, j1, j4⟩
              · cases j1
              · exact h0 n (List.mem_range.1 hn) j1 j4
            | step n hn h1 h2 h3 h4 h5 => exact j2 n (List.mem_range.2 hn) ⟨h1, h2, h3, h4, h5⟩
          refine ⟨hns, fun s hs => ?_⟩
          rcases j3 s hs with h1 | h1
          · rcases List.mem_cons.1 h1 with rfl | h1
            · exact .inr ⟨done, m, hb, hl, hm, rfl, hns⟩
            · exact .inl h1
          · exact .inr h1
theorem legal_sol {base : List S25} {l : List S36} (hl : l.length ≤ 12) (hb : Small base) : legalP base l = true ↔ Sol l (List.replicate l.length 0) base := by
  unfold legalP
  rw [if_neg (by omega)]
  have hc := List.count_le_length (a := (0 : Int)) (l := List.replicate l.length 0)
  rw [List.length_replicate] at hc
  obtain ⟨h1, h2⟩ := try_spec l (l.length + 1) (List.replicate l.length 0) base [] (bits_zero _) (by rw [List.length_replicate]) hb (by omega) (fun s hs => by cases hs)
  refine ⟨h1, fun h => ?_⟩
  cases hr : (tryP l (l.length + 1) (List.replicate l.length 0) base []).1 with
  | true => rfl
  | false => exact absurd h (h2 hr).1

end Go.Proofs.Ytjieagpfnnbiiaa.XLin
