/- The plain law of layer 29: in a right configuration the program's bounds and the reference's are the same numbers, and how they grow. No program in sight. -/
import Derived.Test.YthlahhkjoocigaaXFair
namespace Go.Proofs.Ythlahhkjoocigaa.XFair
open Go Go.RowKit Go.Proofs.YthlahhkjoocigaaW.PrintWords Go.Proofs.YthlahhkjoocigaaW.PrintLast
set_option linter.unusedVariables false

theorem w64 {n : Int} (h0 : -9223372036854775808 ≤ n) (h1 : n ≤ 9223372036854775807) : wrap64 n = n := by unfold wrap64; omega
theorem tdiv6 {a : Int} (h : 0 ≤ a) : Int.tdiv a 6 = a / 6 := Int.tdiv_eq_ediv_of_nonneg h
theorem u6 {a : Int} (h0 : 0 ≤ a) (h1 : a ≤ 20000) : wrap64 (IntKind.u64.wrap (Int.tdiv a 6)) = a / 6 := by
  rw [tdiv6 h0]
  have : IntKind.u64.wrap (a / 6) = a / 6 := by
    simp only [IntKind.wrap, IntKind.signed, IntKind.bits]
    simp; omega
  rw [this, w64 (by omega) (by omega)]

/-- The bounds, as numbers. -/
def insN (m n : Int) : Int := 28 + 2 * m + 6 * ((n - 1) * (2 * m + 4))
def wriN (m c d n k : Int) : Int := 51 + 5 * c + d + k * insN m n
def redN (m b c : Int) : Int := 5 + (b + 1) * (5 * m + 12) + c
def fluN (m : Int) : Int := 29 + 5 * m

structure Rt (a b c d : Int) : Prop where
  a0 : 0 ≤ a
  a1 : a ≤ 20000
  b0 : 1 ≤ b
  b1 : b ≤ 8
  c0 : 2 ≤ c
  c1 : c ≤ 64
  d0 : 1 ≤ d
  d1 : d ≤ 32

theorem mulb {x y X Y : Int} (hx0 : 0 ≤ x) (hx : x ≤ X) (hy0 : 0 ≤ y) (hy : y ≤ Y) : 0 ≤ x * y ∧ x * y ≤ X * Y :=
  ⟨Int.mul_nonneg hx0 hy0, Int.mul_le_mul hx hy hy0 (by omega)⟩

theorem insN_b {m n : Int} (hm0 : 0 ≤ m) (hm : m ≤ 3333) (hn0 : 1 ≤ n) (hn : n ≤ 16) : 28 ≤ insN m n ∧ insN m n ≤ 607000 := by
  have := mulb (x := n - 1) (y := 2 * m + 4) (X := 15) (Y := 6670) (by omega) (by omega) (by omega) (by omega)
  unfold insN; omega
theorem wriN_b {m c d n k : Int} (hm0 : 0 ≤ m) (hm : m ≤ 3333) (hn0 : 1 ≤ n) (hn : n ≤ 16) (hc0 : 0 ≤ c) (hc : c ≤ 64) (hd0 : 0 ≤ d) (hd : d ≤ 32) (hk0 : 0 ≤ k) (hk : k ≤ 100) : 51 ≤ wriN m c d n k ∧ wriN m c d n k ≤ 61000000 := by
  have h := insN_b hm0 hm hn0 hn
  have := mulb (x := k) (y := insN m n) (X := 100) (Y := 607000) (by omega) (by omega) (by omega) (by omega)
  unfold wriN; omega
theorem redN_b {m b c : Int} (hm0 : 0 ≤ m) (hm : m ≤ 3333) (hb0 : 0 ≤ b) (hb : b ≤ 8) (hc0 : 0 ≤ c) (hc : c ≤ 64) : 5 ≤ redN m b c ∧ redN m b c ≤ 200000 := by
  have := mulb (x := b + 1) (y := 5 * m + 12) (X := 9) (Y := 16677) (by omega) (by omega) (by omega) (by omega)
  unfold redN; omega

section
variable {a b c d : Int} {e : Bool} {l : List Int}
theorem nodes_eq (h : Rt a b c d) : fair_nodes.f a b c d e l = some (a / 6) := by
  have := h.a0; have := h.a1
  unfold fair_nodes.f
  rw [w64 (n := a) (by omega) (by omega), tdiv6 h.a0, w64 (by omega) (by omega)]
theorem m_b (h : Rt a b c d) : 0 ≤ a / 6 ∧ a / 6 ≤ 3333 := by have := h.a0; have := h.a1; omega

theorem fins (h : Rt a b c d) {n : Int} (hn0 : 1 ≤ n) (hn : n ≤ 16) : fair_Insert.f a b c d e l n = some (insN (a / 6) n) := by
  unfold fair_Insert.f
  rw [nodes_eq h]
  simp only [Option.bind_some]
  have hm := m_b h
  generalize a / 6 = m at hm ⊢
  have hp := mulb (x := n - 1) (y := 2 * m + 4) (X := 15) (Y := 6670) (by omega) (by omega) (by omega) (by omega)
  have e1 : 6 * (n - 1) * (2 * m + 4) = 6 * ((n - 1) * (2 * m + 4)) := Int.mul_assoc ..
  rw [w64 (n := 2 * m) (by omega) (by omega), w64 (n := 28 + 2 * m) (by omega) (by omega), w64 (n := n - 1) (by omega) (by omega), w64 (n := 6 * (n - 1)) (by omega) (by omega), w64 (n := 2 * m + 4) (by omega) (by omega), e1, w64 (n := 6 * ((n - 1) * (2 * m + 4))) (by omega) (by omega), w64 (by omega) (by omega)]
  rfl
theorem fwri (h : Rt a b c d) {n k : Int} (hn0 : 1 ≤ n) (hn : n ≤ 16) (hk0 : 0 ≤ k) (hk : k ≤ 100) : fair_Write.f a b c d e l n k = some (wriN (a / 6) c d n k) := by
  unfold fair_Write.f
  rw [fins h hn0 hn]
  simp only [Option.bind_some]
  have hm := m_b h
  have hi := insN_b hm.1 hm.2 hn0 hn
  have hp := mulb (x := k) (y := insN (a / 6) n) (X := 100) (Y := 607000) (by omega) (by omega) (by omega) (by omega)
  have := h.c0; have := h.c1; have := h.d0; have := h.d1
  rw [w64 (n := 5 * c) (by omega) (by omega), w64 (n := 51 + 5 * c) (by omega) (by omega), w64 (n := 51 + 5 * c + d) (by omega) (by omega), w64 (n := k * insN (a / 6) n) (by omega) (by omega), w64 (by omega) (by omega)]
  rfl
theorem fred (h : Rt a b c d) : fair_Read.f a b c d e l = some (redN (a / 6) b c) := by
  unfold fair_Read.f
  rw [nodes_eq h]
  simp only [Option.bind_some]
  have hm := m_b h
  have := h.b0; have := h.b1; have := h.c0; have := h.c1
  generalize a / 6 = m at hm ⊢
  have hp := mulb (x := b + 1) (y := 5 * m + 12) (X := 9) (Y := 16677) (by omega) (by omega) (by omega) (by omega)
  rw [w64 (n := b + 1) (by omega) (by omega), w64 (n := 5 * m) (by omega) (by omega), w64 (n := 5 * m + 12) (by omega) (by omega), w64 (n := (b + 1) * (5 * m + 12)) (by omega) (by omega), w64 (n := 5 + (b + 1) * (5 * m + 12)) (by omega) (by omega), w64 (by omega) (by omega)]
  rfl
theorem fflu (h : Rt a b c d) : fair_Flush.f a b c d e l = some (fluN (a / 6)) := by
  unfold fair_Flush.f
  rw [nodes_eq h]
  simp only [Option.bind_some]
  have hm := m_b h
  rw [w64 (n := 5 * (a / 6)) (by omega) (by omega), w64 (by omega) (by omega)]
  rfl

/-! ### the reference -/
theorem rins_l (x : Int) (hx0 : 0 ≤ x) (hx : x ≤ 6670) (n : Int) (hn : n ≤ 16) : ∀ (j : Nat) (k : Nat) (s i : Int), 1 ≤ i → i ≤ n → n - i = j → 0 ≤ s → s + 6 * ((n - i) * x) ≤ 1000000 → j < k → ratlineref29_Insert.l0 k n x s i = some (s + 6 * ((n - i) * x))
  | 0, k, s, i, hi0, hi, hj, hs, hb, hk => by
    obtain ⟨k, rfl⟩ : ∃ m, k = m + 1 := ⟨k - 1, by omega⟩
    obtain rfl : i = n := by omega
    simp only [ratlineref29_Insert.l0]
    rw [if_neg (by omega)]
    simp
  | j + 1, k, s, i, hi0, hi, hj, hs, hb, hk => by
    obtain ⟨k, rfl⟩ : ∃ m, k = m + 1 := ⟨k - 1, by omega⟩
    simp only [ratlineref29_Insert.l0]
    have hd : (n - i) * x = x + (n - (i + 1)) * x := by
      have : n - i = 1 + (n - (i + 1)) := by omega
      rw [this, Int.add_mul, Int.one_mul]
    have hp : 0 ≤ (n - (i + 1)) * x := Int.mul_nonneg (by omega) hx0
    rw [if_pos (by omega), w64 (n := 6 * x) (by omega) (by omega), w64 (n := s + 6 * x) (by omega) (by omega), w64 (n := i + 1) (by omega) (by omega)]
    rw [rins_l x hx0 hx n hn j k _ (i + 1) (by omega) (by omega) (by omega) (by omega) (by omega) (by omega)]
    congr 1; omega
theorem rins (h : Rt a b c d) {n : Int} (hn0 : 1 ≤ n) (hn : n ≤ 16) {k : Nat} (hk : 16 < k) : ratlineref29_Insert.f k a b c d e l n = some (insN (a / 6) n) := by
  unfold ratlineref29_Insert.f
  rw [u6 h.a0 h.a1]
  have hm := m_b h
  have hi := insN_b hm.1 hm.2 hn0 hn
  generalize a / 6 = m at hm hi ⊢
  unfold insN at hi ⊢
  rw [w64 (n := 2 * m) (by omega) (by omega), w64 (n := 2 * m + 4) (by omega) (by omega), w64 (n := 28 + m) (by omega) (by omega), w64 (n := 28 + m + m) (by omega) (by omega)]
  rw [rins_l (2 * m + 4) (by omega) (by omega) n hn (n - 1).toNat k _ 1 (by omega) (by omega) (by omega) (by omega) (by omega) (by omega)]
  congr 1; omega
theorem rwri_l (h : Rt a b c d) {n : Int} (hn0 : 1 ≤ n) (hn : n ≤ 16) (q : Int) (hq : q ≤ 100) : ∀ (j : Nat) (k : Nat) (s i : Int), 0 ≤ i → i ≤ q → q - i = j → 0 ≤ s → s + (q - i) * insN (a / 6) n ≤ 100000000 → j + 17 < k →
    ratlineref29_Write.l0 k n q s i a b c d e l = some (s + (q - i) * insN (a / 6) n)
  | 0, k, s, i, hi0, hi, hj, hs, hb, hk => by
    obtain ⟨k, rfl⟩ : ∃ m, k = m + 1 := ⟨k - 1, by omega⟩
    obtain rfl : i = q := by omega
    simp only [ratlineref29_Write.l0]
    rw [if_neg (by omega)]
    simp
  | j + 1, k, s, i, hi0, hi, hj, hs, hb, hk => by
    obtain ⟨k, rfl⟩ : ∃ m, k = m + 1 := ⟨k - 1, by omega⟩
    have hm := m_b h
    have hI := insN_b hm.1 hm.2 hn0 hn
    simp only [ratlineref29_Write.l0]
    rw [if_pos (by omega), rins h hn0 hn (by omega)]
    simp only [Option.bind_some]
    have hd : (q - i) * insN (a / 6) n = insN (a / 6) n + (q - (i + 1)) * insN (a / 6) n := by
      have : q - i = 1 + (q - (i + 1)) := by omega
      rw [this, Int.add_mul, Int.one_mul]
    have hp : 0 ≤ (q - (i + 1)) * insN (a / 6) n := Int.mul_nonneg (by omega) (by omega)
    rw [w64 (n := s + insN (a / 6) n) (by omega) (by omega), w64 (n := i + 1) (by omega) (by omega)]
    rw [rwri_l h hn0 hn q hq j k _ (i + 1) (by omega) (by omega) (by omega) (by omega) (by omega) (by omega)]
    congr 1; omega
theorem rwri (h : Rt a b c d) {n q : Int} (hn0 : 1 ≤ n) (hn : n ≤ 16) (hq0 : 0 ≤ q) (hq : q ≤ 100) {k : Nat} (hk : 200 ≤ k) : ratlineref29_Write.f k a b c d e l n q = some (wriN (a / 6) c d n q) := by
  unfold ratlineref29_Write.f
  have hm := m_b h
  have hI := insN_b hm.1 hm.2 hn0 hn
  have hp := mulb (x := q) (y := insN (a / 6) n) (X := 100) (Y := 607000) (by omega) (by omega) (by omega) (by omega)
  have := h.c0; have := h.c1; have := h.d0; have := h.d1
  rw [w64 (n := c * 5) (by omega) (by omega), w64 (n := 51 + c * 5) (by omega) (by omega), w64 (n := 51 + c * 5 + d) (by omega) (by omega)]
  rw [rwri_l h hn0 hn q hq q.toNat k _ 0 (by omega) (by omega) (by omega) (by omega) (by rw [Int.sub_zero]; omega) (by omega)]
  unfold wriN
  rw [Int.sub_zero]
  congr 1; omega
theorem rred_l (h : Rt a b c d) (m : Int) (hm0 : 0 ≤ m) (hm : m ≤ 3333) : ∀ (j : Nat) (k : Nat) (s i : Int), 0 ≤ i → i ≤ b + 1 → b + 1 - i = j → 0 ≤ s → s + (b + 1 - i) * (5 * m + 12) ≤ 1000000 → j < k → ratlineref29_Read.l0 k m s i a b c d e l = some (s + (b + 1 - i) * (5 * m + 12))
  | 0, k, s, i, hi0, hi, hj, hs, hb, hk => by
    obtain ⟨k, rfl⟩ : ∃ m, k = m + 1 := ⟨k - 1, by omega⟩
    obtain rfl : i = b + 1 := by omega
    simp only [ratlineref29_Read.l0]
    rw [if_neg (by omega)]
    simp
  | j + 1, k, s, i, hi0, hi, hj, hs, hb, hk => by
    obtain ⟨k, rfl⟩ : ∃ m, k = m + 1 := ⟨k - 1, by omega⟩
    have := h.b1
    simp only [ratlineref29_Read.l0]
    have hd : (b + 1 - i) * (5 * m + 12) = (5 * m + 12) + (b + 1 - (i + 1)) * (5 * m + 12) := by
      have : b + 1 - i = 1 + (b + 1 - (i + 1)) := by omega
      rw [this, Int.add_mul, Int.one_mul]
    have hp : 0 ≤ (b + 1 - (i + 1)) * (5 * m + 12) := Int.mul_nonneg (by omega) (by omega)
    rw [if_pos (by omega), w64 (n := m * 5) (by omega) (by omega), w64 (n := s + m * 5) (by omega) (by omega), w64 (n := s + m * 5 + 12) (by omega) (by omega), w64 (n := i + 1) (by omega) (by omega)]
    rw [rred_l h m hm0 hm j k _ (i + 1) (by omega) (by omega) (by omega) (by omega) (by omega) (by omega)]
    congr 1; omega
theorem rred (h : Rt a b c d) {k : Nat} (hk : 20 ≤ k) : ratlineref29_Read.f k a b c d e l = some (redN (a / 6) b c) := by
  unfold ratlineref29_Read.f
  rw [u6 h.a0 h.a1]
  have hm := m_b h
  have := h.b0; have := h.b1; have := h.c0; have := h.c1
  have hp := mulb (x := b + 1) (y := 5 * (a / 6) + 12) (X := 9) (Y := 16677) (by omega) (by omega) (by omega) (by omega)
  rw [w64 (n := 5 + c) (by omega) (by omega)]
  rw [rred_l h (a / 6) hm.1 hm.2 (b + 1).toNat k _ 0 (by omega) (by omega) (by omega) (by omega) (by rw [Int.sub_zero]; omega) (by omega)]
  unfold redN
  rw [Int.sub_zero]
  congr 1; omega
theorem rflu (h : Rt a b c d) : ratlineref29_Flush.f a b c d e l = some (fluN (a / 6)) := by
  unfold ratlineref29_Flush.f
  rw [u6 h.a0 h.a1]
  have hm := m_b h
  rw [w64 (n := a / 6 * 5) (by omega) (by omega), w64 (by omega) (by omega)]
  unfold fluN; congr 1; omega

/-! ### Steps -/
def costN (m b c d n : Int) (x : S91) : Int := if x.f0 = 1 then wriN m c d n (x.f1.length : Int) else if x.f0 = 2 then redN m b c else if x.f0 = 3 then redN m b c else if x.f0 = 4 then 4 else 1
def sumIn (m b c d n : Int) : List S91 → Int
  | [] => 0
  | x :: xs => costN m b c d n x + sumIn m b c d n xs
def sumOut (m b c d n : Int) : List (List S91) → Int
  | [] => 0
  | p :: ps => sumIn m b c d n p + sumOut m b c d n ps
def count : List (List S91) → Int
  | [] => 0
  | p :: ps => (p.length : Int) + count ps
def Ops100 (p : List S91) : Prop := ∀ x ∈ p, x.f1.length ≤ 100
def Few100 (l : List (List S91)) : Prop := ∀ p ∈ l, p.length ≤ 100 ∧ Ops100 p
theorem costN_b (h : Rt a b c d) {n : Int} (hn0 : 1 ≤ n) (hn : n ≤ 16) {x : S91} (hx : x.f1.length ≤ 100) : 1 ≤ costN (a / 6) b c d n x ∧ costN (a / 6) b c d n x ≤ 61000000 := by
  have hm := m_b h
  have := h.b0; have := h.b1; have := h.c0; have := h.c1; have := h.d0; have := h.d1
  have h1 := wriN_b (k := (x.f1.length : Int)) hm.1 hm.2 hn0 hn (by omega) h.c1 (by omega) h.d1 (by omega) (by omega)
  have h2 := redN_b hm.1 hm.2 (by omega) h.b1 (by omega) h.c1
  unfold costN
  split
  · omega
  · split
    · omega
    · split
      · omega
      · split <;> omega
theorem sumIn_b (h : Rt a b c d) {n : Int} (hn0 : 1 ≤ n) (hn : n ≤ 16) : ∀ (p : List S91), Ops100 p → 0 ≤ sumIn (a / 6) b c d n p ∧ sumIn (a / 6) b c d n p ≤ p.length * 61000000
  | [], _ => by simp [sumIn]
  | x :: p, hp => by
    have h1 := costN_b h hn0 hn (hp x (.head _))
    have h2 := sumIn_b h hn0 hn p (fun y hy => hp y (.tail _ hy))
    simp only [sumIn, List.length_cons]
    omega
theorem sumOut_b (h : Rt a b c d) {n : Int} (hn0 : 1 ≤ n) (hn : n ≤ 16) : ∀ (l : List (List S91)), Few100 l → 0 ≤ sumOut (a / 6) b c d n l ∧ sumOut (a / 6) b c d n l ≤ l.length * 6100000000
  | [], _ => by simp [sumOut]
  | p :: l, hp => by
    obtain ⟨h0, h1⟩ := hp p (.head _)
    have h1 := sumIn_b h hn0 hn p h1
    have h2 := sumOut_b h hn0 hn l (fun y hy => hp y (.tail _ hy))
    simp only [sumOut, List.length_cons]
    omega
theorem count_b : ∀ (l : List (List S91)), Few100 l → 0 ≤ count l ∧ count l ≤ l.length * 100
  | [], _ => by simp [count]
  | p :: l, hp => by
    obtain ⟨h0, h1⟩ := hp p (.head _)
    have h2 := count_b l (fun y hy => hp y (.tail _ hy))
    simp only [count, List.length_cons]
    omega
theorem fcost (h : Rt a b c d) {n : Int} (hn0 : 1 ≤ n) (hn : n ≤ 16) {x : S91} (hx : x.f1.length ≤ 100) : fair_Steps.cost a b c d e l n x = some (costN (a / 6) b c d n x) := by
  unfold fair_Steps.cost costN
  rw [fwri h hn0 hn (by omega) (by omega), fred h]
  split
  · rfl
  · split
    · rfl
    · split
      · rfl
      · split <;> rfl
theorem finner (h : Rt a b c d) {n : Int} (hn0 : 1 ≤ n) (hn : n ≤ 16) : ∀ (p : List S91) (s : Int), Ops100 p → 0 ≤ s → s + p.length * 61000000 ≤ 1000000000000000 → fair_Steps.inner a b c d e l n p s = some (s + sumIn (a / 6) b c d n p)
  | [], s, _, _, _ => by simp [fair_Steps.inner, sumIn]
  | x :: p, s, hp, h0, h1 => by
    have hc := costN_b h hn0 hn (hp x (.head _))
    simp only [List.length_cons] at h1
    rw [fair_Steps.inner, fcost h hn0 hn (hp x (.head _))]
    simp only [Option.bind_some]
    rw [w64 (by omega) (by omega), finner h hn0 hn p _ (fun y hy => hp y (.tail _ hy)) (by omega) (by omega)]
    simp only [sumIn]; congr 1; omega
theorem fouter (h : Rt a b c d) {n : Int} (hn0 : 1 ≤ n) (hn : n ≤ 16) : ∀ (q : List (List S91)) (s t : Int), Few100 q → 0 ≤ s → s + q.length * 6100000000 ≤ 1000000000000000 → 0 ≤ t → t + q.length * 100 ≤ 1000000000000000 → fair_Steps.outer a b c d e l n q s t = some (s + sumOut (a / 6) b c d n q, t + count q)
  | [], s, t, _, _, _, _, _ => by simp [fair_Steps.outer, sumOut, count]
  | p :: q, s, t, hp, h0, h1, h2, h3 => by
    obtain ⟨g0, g1⟩ := hp p (.head _)
    have hc := sumIn_b h hn0 hn p g1
    simp only [List.length_cons] at h1 h3
    rw [fair_Steps.outer, finner h hn0 hn p s g1 h0 (by omega)]
    simp only [Option.bind_some]
    rw [w64 (by omega) (by omega), fouter h hn0 hn q _ _ (fun y hy => hp y (.tail _ hy)) (by omega) (by omega) (by omega) (by omega)]
    simp only [sumOut, count]; congr 2 <;> omega
def stepsN (m b c d : Int) (q : List (List S91)) : Int := c * fluN m + sumOut m b c d q.length q + 3 * (c + count q + 2)
theorem cflu_b (h : Rt a b c d) : 0 ≤ c * fluN (a / 6) ∧ c * fluN (a / 6) ≤ 1100000 := by
  have hm := m_b h
  have := mulb (x := c) (y := fluN (a / 6)) (X := 64) (Y := 16694) (by have := h.c0; omega) h.c1 (by unfold fluN; omega) (by unfold fluN; omega)
  omega
theorem fsteps (h : Rt a b c d) (q : List (List S91)) (hq0 : 1 ≤ q.length) (hq : q.length ≤ 16) (hf : Few100 q) : fair_Steps.f a b c d e l q = some (stepsN (a / 6) b c d q) := by
  unfold fair_Steps.f
  rw [fflu h]
  simp only [Option.bind_some]
  have hc := cflu_b h
  have h1 := sumOut_b h (n := (q.length : Int)) (by omega) (by omega) q hf
  have h2 := count_b q hf
  have := h.c0; have := h.c1
  rw [w64 (n := c * fluN (a / 6)) (by omega) (by omega), fouter h (by omega) (by omega) q _ _ hf (by omega) (by omega) (by omega) (by omega)]
  simp only [Option.bind_some]
  rw [w64 (n := c + (0 + count q)) (by omega) (by omega), w64 (n := c + (0 + count q) + 2) (by omega) (by omega), w64 (n := 3 * (c + (0 + count q) + 2)) (by omega) (by omega), w64 (by omega) (by omega)]
  unfold stepsN; congr 1; omega

/-- What the reference still comes to: s and t so far, r the programs that are left. -/
def restN (m b c d n s t : Int) (r : List (List S91)) : Int := s + sumOut m b c d n r + c * fluN m + c * 3 + (t + count r) * 3 + 6
theorem rd_nat (q : List (List S91)) (i : Nat) (hi : i < q.length) : rd_L7 q (i : Int) = q[i] := by
  simp [rd_L7, List.getD_eq_getElem?_getD, List.getElem?_eq_getElem hi]
theorem rd_nat1 (p : List S91) (j : Nat) (hj : j < p.length) : rd_T91 p (j : Int) = p[j] := by
  simp [rd_T91, List.getD_eq_getElem?_getD, List.getElem?_eq_getElem hj]
theorem rin (h : Rt a b c d) (q : List (List S91)) (hq0 : 1 ≤ q.length) (hq : q.length ≤ 16) (hf : Few100 q) (i : Nat) (hi : i < q.length)
    (ih : ∀ (k : Nat) (s t : Int), 300 + 203 * (q.length - (i + 1)) < k → 0 ≤ s → s + (q.length - (i + 1) : Int) * 6100000000 ≤ 1000000000000000 → 0 ≤ t → t + (q.length - (i + 1) : Int) * 100 ≤ 1000000000000000 → ratlineref29_Steps.l0 k q s t ((i + 1 : Nat) : Int) a b c d e l = some (restN (a / 6) b c d q.length s t (q.drop (i + 1)))) :
    ∀ (dd j : Nat) (k : Nat) (s t : Int), j ≤ q[i].length → q[i].length - j = dd → 301 + 203 * (q.length - (i + 1)) + 2 * dd < k → 0 ≤ s → s + (dd : Int) * 61000000 + (q.length - (i + 1) : Int) * 6100000000 ≤ 1000000000000000 → 0 ≤ t → t + dd + (q.length - (i + 1) : Int) * 100 ≤ 1000000000000000 →
      ratlineref29_Steps.l1 k q s t (i : Int) (j : Int) a b c d e l = some (restN (a / 6) b c d q.length (s + sumIn (a / 6) b c d q.length (q[i].drop j)) (t + dd) (q.drop (i + 1)))
  | 0, j, k, s, t, hj, hd, hk, hs, hsb, ht, htb => by
    obtain ⟨k, rfl⟩ : ∃ m, k = m + 1 := ⟨k - 1, by omega⟩
    obtain rfl : j = q[i].length := by omega
    simp only [ratlineref29_Steps.l1]
    rw [if_pos (by omega), if_pos (by omega), rd_nat q i hi, if_neg (by omega), w64 (by omega) (by omega)]
    rw [show (i : Int) + 1 = ((i + 1 : Nat) : Int) from rfl, ih k s t (by omega) (by omega) (by omega) (by omega) (by omega)]
    rw [List.drop_of_length_le (Nat.le_refl _)]
    simp [sumIn]
  | dd + 1, j, k, s, t, hj, hd, hk, hs, hsb, ht, htb => by
    obtain ⟨k, rfl⟩ : ∃ m, k = m + 1 := ⟨k - 1, by omega⟩
    have hjl : j < q[i].length := by omega
    obtain ⟨hp1, hp2⟩ := hf q[i] (List.getElem_mem hi)
    have hx : (q[i][j]).f1.length ≤ 100 := hp2 _ (List.getElem_mem hjl)
    have hdr : q[i].drop j = q[i][j] :: q[i].drop (j + 1) := List.drop_eq_getElem_cons hjl
    have hcb := costN_b h (n := (q.length : Int)) (by omega) (by omega) hx
    have go : ∀ (v : Int) (k : Nat), v = costN (a / 6) b c d q.length q[i][j] → 301 + 203 * (q.length - (i + 1)) + 2 * dd < k → ratlineref29_Steps.l1 k q (wrap64 (s + v)) (wrap64 (t + 1)) (i : Int) (wrap64 ((j : Int) + 1)) a b c d e l = some (restN (a / 6) b c d q.length (s + sumIn (a / 6) b c d q.length (q[i].drop j)) (t + (dd + 1 : Nat)) (q.drop (i + 1))) := by
      intro v k hv hk
      subst hv
      rw [w64 (n := s + _) (by omega) (by omega), w64 (n := t + 1) (by omega) (by omega), w64 (n := (j : Int) + 1) (by omega) (by omega)]
      rw [show (j : Int) + 1 = ((j + 1 : Nat) : Int) from rfl, rin h q hq0 hq hf i hi ih dd (j + 1) k _ _ (by omega) (by omega) hk (by omega) (by omega) (by omega) (by omega), hdr]
      simp only [sumIn]
      congr 2 <;> omega
    simp only [ratlineref29_Steps.l1]
    rw [if_pos (by omega), if_pos (by omega), rd_nat q i hi, if_pos (by omega), if_pos (by omega), rd_nat1 _ j hjl]
    by_cases x1 : (q[i][j]).f0 = 1
    · rw [if_pos x1, rwri h (by omega) (by omega) (by omega) (by omega) (by omega)]
      simp only [Option.bind_some]
      exact go _ k (by simp [costN, x1]) (by omega)
    · rw [if_neg x1]
      obtain ⟨k, rfl⟩ : ∃ m, k = m + 1 := ⟨k - 1, by omega⟩
      by_cases x2 : (q[i][j]).f0 = 2
      · rw [if_pos x2]
        simp only [ratlineref29_Steps.j2]
        rw [if_pos (by simpa using x2), rred h (by omega)]
        simp only [Option.bind_some]
        exact go _ k (by simp [costN, x2]) (by omega)
      · rw [if_neg x2]
        simp only [ratlineref29_Steps.j2]
        by_cases x3 : (q[i][j]).f0 = 3
        · rw [if_pos (by simpa using x3), rred h (by omega)]
          simp only [Option.bind_some]
          exact go _ k (by simp [costN, x3]) (by omega)
        · rw [if_neg (by simpa using x3)]
          by_cases x4 : (q[i][j]).f0 = 4
          · rw [if_pos x4]
            exact go _ k (by simp [costN, x4]) (by omega)
          · rw [if_neg x4]
            exact go _ k (by simp [costN, x1, x2, x3, x4]) (by omega)
theorem rout (h : Rt a b c d) (q : List (List S91)) (hq0 : 1 ≤ q.length) (hq : q.length ≤ 16) (hf : Few100 q) : ∀ (r i : Nat) (k : Nat) (s t : Int), i ≤ q.length → q.length - i = r → 300 + 203 * (q.length - i) < k → 0 ≤ s → s + (q.length - i : Int) * 6100000000 ≤ 1000000000000000 → 0 ≤ t → t + (q.length - i : Int) * 100 ≤ 1000000000000000 →
    ratlineref29_Steps.l0 k q s t (i : Int) a b c d e l = some (restN (a / 6) b c d q.length s t (q.drop i))
  | 0, i, k, s, t, hi, hr, hk, hs, hsb, ht, htb => by
    obtain ⟨k, rfl⟩ : ∃ m, k = m + 1 := ⟨k - 1, by omega⟩
    obtain rfl : i = q.length := by omega
    simp only [ratlineref29_Steps.l0]
    have hc := cflu_b h
    have := h.c0; have := h.c1
    rw [if_neg (by omega), rflu h]
    simp only [Option.bind_some]
    rw [w64 (n := c * fluN (a / 6)) (by omega) (by omega), w64 (n := s + c * fluN (a / 6)) (by omega) (by omega), w64 (n := c * 3) (by omega) (by omega), w64 (n := s + c * fluN (a / 6) + c * 3) (by omega) (by omega), w64 (n := t * 3) (by omega) (by omega), w64 (n := s + c * fluN (a / 6) + c * 3 + t * 3) (by omega) (by omega), w64 (by omega) (by omega)]
    rw [List.drop_of_length_le (Nat.le_refl _)]
    simp [restN, sumOut, count]
  | r + 1, i, k, s, t, hi, hr, hk, hs, hsb, ht, htb => by
    obtain ⟨k, rfl⟩ : ∃ m, k = m + 1 := ⟨k - 1, by omega⟩
    have hil : i < q.length := by omega
    obtain ⟨hp1, hp2⟩ := hf q[i] (List.getElem_mem hil)
    have ih := fun (k : Nat) (s t : Int) (h1 : 300 + 203 * (q.length - (i + 1)) < k) (h2 : 0 ≤ s) (h3 : s + (q.length - (i + 1) : Int) * 6100000000 ≤ 1000000000000000) (h4 : 0 ≤ t) (h5 : t + (q.length - (i + 1) : Int) * 100 ≤ 1000000000000000) => rout h q hq0 hq hf r (i + 1) k s t (by omega) (by omega) h1 h2 (by omega) h4 (by omega)
    simp only [ratlineref29_Steps.l0]
    rw [if_pos (by omega)]
    rw [show (0 : Int) = ((0 : Nat) : Int) from rfl, rin h q hq0 hq hf i hil ih q[i].length 0 k s t (by omega) (by omega) (by omega) hs (by omega) ht (by omega)]
    rw [List.drop_eq_getElem_cons hil]
    simp only [restN, sumOut, count, List.drop_zero]
    congr 1; omega
theorem rsteps (h : Rt a b c d) (q : List (List S91)) (hq0 : 1 ≤ q.length) (hq : q.length ≤ 16) (hf : Few100 q) {k : Nat} (hk : 4000 ≤ k) : ratlineref29_Steps.f k a b c d e l q = some (stepsN (a / 6) b c d q) := by
  unfold ratlineref29_Steps.f
  rw [show (0 : Int) = ((0 : Nat) : Int) from rfl, rout h q hq0 hq hf q.length 0 k _ _ (by omega) (by omega) (by omega) (by omega) (by omega) (by omega) (by omega)]
  simp only [restN, stepsN, List.drop_zero]
  congr 1; omega
end

/-! ### what the guards say -/
def Good (q r : List (List S91)) : Prop := 1 ≤ q.length ∧ q.length ≤ 16 ∧ Few100 r
theorem few_in (q : List (List S91)) (i : Nat) (hi : i < q.length) (hp : q[i].length ≤ 9223372036854775807) (hq : q.length ≤ 9223372036854775807)
    (ih : ∃ k r, ratlinelaw29_few.l0 k q q (q.length : Int) ((i + 1 : Nat) : Int) = some r ∧ (r = true → Good q (q.drop (i + 1)))) :
    ∀ (dd j : Nat), j ≤ q[i].length → q[i].length - j = dd → ∃ k r, ratlinelaw29_few.l1 k q q[i] q (q.length : Int) (i : Int) q[i] (q[i].length : Int) (j : Int) = some r ∧ (r = true → Ops100 (q[i].drop j) ∧ q[i].length ≤ 100 ∧ Good q (q.drop (i + 1)))
  | 0, j, hj, hd => by
    obtain rfl : j = q[i].length := by omega
    obtain ⟨k, r, hr, hg⟩ := ih
    by_cases h1 : (q[i].length : Int) > 100
    · exact ⟨1, false, by simp only [ratlinelaw29_few.l1]; rw [if_neg (by omega), if_pos h1], fun h => by cases h⟩
    · refine ⟨k + 1, r, ?_, fun h => ⟨?_, by omega, hg h⟩⟩
      · simp only [ratlinelaw29_few.l1]
        rw [if_neg (by omega), if_neg h1, w64 (by omega) (by omega)]
        exact hr
      · rw [List.drop_of_length_le (Nat.le_refl _)]; intro x hx; cases hx
  | dd + 1, j, hj, hd => by
    have hjl : j < q[i].length := by omega
    obtain ⟨k, r, hr, hg⟩ := few_in q i hi hp hq ih dd (j + 1) (by omega) (by omega)
    by_cases h1 : (((q[i][j]).f1).length : Int) > 100
    · exact ⟨1, false, by simp only [ratlinelaw29_few.l1]; rw [if_pos (by omega), if_pos (by omega), if_pos (by omega), rd_nat1 _ j hjl, if_pos h1], fun h => by cases h⟩
    · refine ⟨k + 1, r, ?_, fun h => ⟨?_, (hg h).2⟩⟩
      · simp only [ratlinelaw29_few.l1]
        rw [if_pos (by omega), if_pos (by omega), if_pos (by omega), rd_nat1 _ j hjl, if_neg h1, w64 (by omega) (by omega)]
        exact hr
      · rw [List.drop_eq_getElem_cons hjl]
        intro x hx
        rcases List.mem_cons.1 hx with rfl | hx
        · omega
        · exact (hg h).1 x hx
theorem few_out (q : List (List S91)) (hq : q.length ≤ 9223372036854775807) (hp : ∀ p ∈ q, p.length ≤ 9223372036854775807) : ∀ (r i : Nat), i ≤ q.length → q.length - i = r → ∃ k b, ratlinelaw29_few.l0 k q q (q.length : Int) (i : Int) = some b ∧ (b = true → Good q (q.drop i))
  | 0, i, hi, hr => by
    obtain rfl : i = q.length := by omega
    rw [List.drop_of_length_le (Nat.le_refl _)]
    by_cases h1 : (q.length : Int) ≥ 1
    · exact ⟨1, _, by simp only [ratlinelaw29_few.l0]; rw [if_neg (by omega), if_pos h1], fun h => ⟨by omega, by have := of_decide_eq_true h; omega, fun p hp => by cases hp⟩⟩
    · exact ⟨1, _, by simp only [ratlinelaw29_few.l0]; rw [if_neg (by omega), if_neg h1], fun h => by cases h⟩
  | r + 1, i, hi, hr => by
    have hil : i < q.length := by omega
    obtain ⟨k, b, hb, hg⟩ := few_in q i hil (hp _ (List.getElem_mem hil)) hq (few_out q hq hp r (i + 1) (by omega) (by omega)) q[i].length 0 (by omega) (by omega)
    refine ⟨k + 1, b, ?_, fun h => ?_⟩
    · simp only [ratlinelaw29_few.l0]
      rw [if_pos (by omega), if_pos (by omega), if_pos (by omega), rd_nat q i hil]
      exact hb
    · obtain ⟨g1, g2, g3, g4, g5⟩ := hg h
      refine ⟨g3, g4, ?_⟩
      rw [List.drop_eq_getElem_cons hil]
      intro p hp
      rcases List.mem_cons.1 hp with rfl | hp
      · exact ⟨g2, by simpa using g1⟩
      · exact g5 p hp
theorem few_total (q : List (List S91)) (hq : q.length ≤ 9223372036854775807) (hp : ∀ p ∈ q, p.length ≤ 9223372036854775807) : ∃ k b, ratlinelaw29_few.f k q = some b ∧ (b = true → 1 ≤ q.length ∧ q.length ≤ 16 ∧ Few100 q) := by
  obtain ⟨k, b, hb, hg⟩ := few_out q hq hp q.length 0 (by omega) (by omega)
  exact ⟨k, b, by unfold ratlinelaw29_few.f; exact hb, by simpa [Good] using hg⟩
theorem right_total (a b c d : Int) (e : Bool) (l : List Int) (h0 : 0 ≤ a) : ∃ r, store_Right.f a b c d e l = some r ∧ (r = true → Rt a b c d) := by
  unfold store_Right.f
  by_cases h1 : a > 20000
  · exact ⟨_, by rw [if_pos h1], fun h => by cases h⟩
  rw [if_neg h1]
  by_cases h2 : b < 1
  · exact ⟨_, by rw [if_pos h2], fun h => by cases h⟩
  rw [if_neg h2]
  by_cases h3 : b > 8
  · exact ⟨_, by rw [if_pos h3], fun h => by cases h⟩
  rw [if_neg h3]
  by_cases h4 : c < 2
  · exact ⟨_, by rw [if_pos h4], fun h => by cases h⟩
  rw [if_neg h4]
  by_cases h5 : c > 64
  · exact ⟨_, by rw [if_pos h5], fun h => by cases h⟩
  rw [if_neg h5]
  by_cases h6 : d < 1
  · exact ⟨_, by rw [if_pos h6], fun h => by cases h⟩
  rw [if_neg h6]
  by_cases h7 : d > 32
  · exact ⟨_, by rw [if_pos h7], fun h => by cases h⟩
  rw [if_neg h7]
  have rt : Rt a b c d := ⟨h0, by omega, by omega, by omega, by omega, by omega, by omega, by omega⟩
  by_cases h8 : (l.length : Int) > 1000
  · exact ⟨_, by rw [if_pos h8], fun h => by cases h⟩
  rw [if_neg h8]
  have hs : ∃ q, skip_Size.f a = some q := by unfold skip_Size.f; split; exact ⟨_, rfl⟩; split <;> exact ⟨_, rfl⟩
  obtain ⟨q, hq⟩ := hs
  rw [hq]
  simp only [Option.bind_some]
  by_cases h9 : q.1 > 0
  · exact ⟨_, by rw [if_pos h9], fun _ => rt⟩
  · exact ⟨_, by rw [if_neg h9], fun h => by cases h⟩
theorem awake_true : ratlinelaw29_awake.f = some true := by decide +kernel

/-! ### how they grow -/
theorem insN_mono {m m' n n' : Int} (hm0 : 0 ≤ m) (hm : m ≤ m') (hn0 : 1 ≤ n) (hn : n ≤ n') : insN m n ≤ insN m' n' := by
  have : (n - 1) * (2 * m + 4) ≤ (n' - 1) * (2 * m' + 4) := Int.mul_le_mul (by omega) (by omega) (by omega) (by omega)
  unfold insN; omega
theorem wriN_mono {m m' c c' d d' n n' k k' : Int} (hm0 : 0 ≤ m) (hm : m ≤ m') (hn0 : 1 ≤ n) (hn : n ≤ n') (hc : c ≤ c') (hd : d ≤ d') (hk0 : 0 ≤ k) (hk : k ≤ k') : wriN m c d n k ≤ wriN m' c' d' n' k' := by
  have h1 := insN_mono hm0 hm hn0 hn
  have h2 : 0 ≤ insN m n := by
    have := Int.mul_nonneg (a := n - 1) (b := 2 * m + 4) (by omega) (by omega)
    unfold insN; omega
  have : k * insN m n ≤ k' * insN m' n' := Int.mul_le_mul hk h1 h2 (by omega)
  unfold wriN; omega
theorem redN_mono {m m' b b' c c' : Int} (hm0 : 0 ≤ m) (hm : m ≤ m') (hb0 : 0 ≤ b) (hb : b ≤ b') (hc : c ≤ c') : redN m b c ≤ redN m' b' c' := by
  have : (b + 1) * (5 * m + 12) ≤ (b' + 1) * (5 * m' + 12) := Int.mul_le_mul (by omega) (by omega) (by omega) (by omega)
  unfold redN; omega
theorem costN_mono {m m' b b' c c' d d' n n' : Int} (hm0 : 0 ≤ m) (hm : m ≤ m') (hb0 : 0 ≤ b) (hb : b ≤ b') (hn0 : 1 ≤ n) (hn : n ≤ n') (hc : c ≤ c') (hd : d ≤ d') (x : S91) : costN m b c d n x ≤ costN m' b' c' d' n' x := by
  unfold costN
  have h1 := wriN_mono (k := (x.f1.length : Int)) (k' := (x.f1.length : Int)) hm0 hm hn0 hn hc hd (by omega) (by omega)
  have h2 := redN_mono hm0 hm hb0 hb hc
  split
  · exact h1
  · split
    · exact h2
    · split
      · exact h2
      · split <;> omega
theorem sumIn_mono {m m' b b' c c' d d' n n' : Int} (hm0 : 0 ≤ m) (hm : m ≤ m') (hb0 : 0 ≤ b) (hb : b ≤ b') (hn0 : 1 ≤ n) (hn : n ≤ n') (hc : c ≤ c') (hd : d ≤ d') : ∀ p, sumIn m b c d n p ≤ sumIn m' b' c' d' n' p
  | [] => by simp [sumIn]
  | x :: p => by
    have h1 := costN_mono hm0 hm hb0 hb hn0 hn hc hd x
    have h2 := sumIn_mono hm0 hm hb0 hb hn0 hn hc hd p
    simp only [sumIn]; omega
theorem sumOut_mono {m m' b b' c c' d d' n n' : Int} (hm0 : 0 ≤ m) (hm : m ≤ m') (hb0 : 0 ≤ b) (hb : b ≤ b') (hn0 : 1 ≤ n) (hn : n ≤ n') (hc : c ≤ c') (hd : d ≤ d') : ∀ p, sumOut m b c d n p ≤ sumOut m' b' c' d' n' p
  | [] => by simp [sumOut]
  | x :: p => by
    have h1 := sumIn_mono hm0 hm hb0 hb hn0 hn hc hd x
    have h2 := sumOut_mono hm0 hm hb0 hb hn0 hn hc hd p
    simp only [sumOut]; omega
theorem sumOut_append (m b c d n : Int) : ∀ p q, sumOut m b c d n (p ++ q) = sumOut m b c d n p + sumOut m b c d n q
  | [], q => by simp [sumOut]
  | x :: p, q => by simp only [List.cons_append, sumOut, sumOut_append m b c d n p q]; omega
theorem count_append : ∀ p q, count (p ++ q) = count p + count q
  | [], q => by simp [count]
  | x :: p, q => by simp only [List.cons_append, count, count_append p q]; omega
theorem few_append {p q : List (List S91)} (hp : Few100 p) (hq : Few100 q) : Few100 (p ++ q) := fun x hx => by
  rcases List.mem_append.1 hx with h | h
  · exact hp x h
  · exact hq x h
theorem cflu_mono {m m' c c' : Int} (hm0 : 0 ≤ m) (hm : m ≤ m') (hc0 : 0 ≤ c) (hc : c ≤ c') : c * fluN m ≤ c' * fluN m' :=
  Int.mul_le_mul hc (by unfold fluN; omega) (by unfold fluN; omega) (by omega)
theorem steps_left {a b c d a' b' c' d' : Int} (h : Rt a b c d) (h' : Rt a' b' c' d') (ha : a ≤ a') (hb : b ≤ b') (hc : c ≤ c') (hd : d ≤ d') (p q : List (List S91)) (hp0 : 1 ≤ p.length) (hq : Few100 q) (hl : p.length + q.length ≤ 16) :
    stepsN (a / 6) b c d p ≤ stepsN (a' / 6) b' c' d' (p ++ q) := by
  have hm : a / 6 ≤ a' / 6 := by omega
  have m0 := (m_b h).1
  have h1 := cflu_mono m0 hm (by have := h.c0; omega) hc
  have h2 := sumOut_mono (n := (p.length : Int)) (n' := ((p ++ q).length : Int)) m0 hm (by have := h.b0; omega) hb (by omega) (by rw [List.length_append]; omega) hc hd p
  have h3 := sumOut_b h' (n := ((p ++ q).length : Int)) (by simp; omega) (by simp; omega) q hq
  have h4 := count_b q hq
  unfold stepsN
  rw [sumOut_append, count_append]
  omega
theorem steps_right {a b c d a' b' c' d' : Int} (h : Rt a b c d) (h' : Rt a' b' c' d') (ha : a ≤ a') (hb : b ≤ b') (hc : c ≤ c') (hd : d ≤ d') (p q : List (List S91)) (hq0 : 1 ≤ q.length) (hp : Few100 p) (hl : p.length + q.length ≤ 16) :
    stepsN (a / 6) b c d q ≤ stepsN (a' / 6) b' c' d' (p ++ q) := by
  have hm : a / 6 ≤ a' / 6 := by omega
  have m0 := (m_b h).1
  have h1 := cflu_mono m0 hm (by have := h.c0; omega) hc
  have h2 := sumOut_mono (n := (q.length : Int)) (n' := ((p ++ q).length : Int)) m0 hm (by have := h.b0; omega) hb (by omega) (by simp; omega) hc hd q
  have h3 := sumOut_b h' (n := ((p ++ q).length : Int)) (by simp; omega) (by simp; omega) p hp
  have h4 := count_b p hp
  unfold stepsN
  rw [sumOut_append, count_append]
  omega
theorem steps_pos {a b c d : Int} (h : Rt a b c d) (p : List (List S91)) (hp0 : 1 ≤ p.length) (hl : p.length ≤ 16) (hp : Few100 p) : 0 < stepsN (a / 6) b c d p := by
  have h1 := cflu_b h
  have h3 := sumOut_b h (n := (p.length : Int)) (by omega) (by omega) p hp
  have h4 := count_b p hp
  have := h.c0
  unfold stepsN; omega
end Go.Proofs.Ythlahhkjoocigaa.XFair
