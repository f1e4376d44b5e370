/- omap's find, Get; sort.Search; slices.Clone of pairs. -/
import Derived.Test.YtjieagpfnnbiiaaBHQ
namespace Go.Proofs.Ytjieagpfnnbiiaa.XLin
open Go Go.RowKit Go.Proofs.YtjieagpfnnbiiaaW.PrintWords Go.Proofs.YtjieagpfnnbiiaaW.PrintLast Go.Proofs.YtjieagpfnnbiiaaW.PrintMore
open Go.Proofs.Ytjieagpfnnbiiaa
set_option linter.unusedVariables false
set_option linter.unusedSimpArgs false
theorem w64' {n : Int} (h0 : -9223372036854775808 ≤ n) (h1 : n ≤ 9223372036854775807) : wrap64 n = n := by unfold wrap64; omega
theorem rd25_nat (xs : List S25) (i : Nat) : rd_T25 xs (i : Int) = xs.getD i z25 := by unfold rd_T25; rw [Int.toNat_natCast]
/-! ### sort.Search's way -/
def bsG (p : Nat → Bool) : Nat → Nat → Nat → Nat
  | 0, i, _ => i
  | k + 1, i, j => if i < j then (if p ((i + j) / 2) = false then bsG p k ((i + j) / 2 + 1) j else bsG p k i ((i + j) / 2)) else i
theorem bsG_succ (p : Nat → Bool) (k i j : Nat) : bsG p (k + 1) i j = if i < j then (if p ((i + j) / 2) = false then bsG p k ((i + j) / 2 + 1) j else bsG p k i ((i + j) / 2)) else i := rfl
theorem bsG_more (p : Nat → Bool) : ∀ (k i j : Nat), j - i ≤ k → bsG p (k + 1) i j = bsG p k i j
  | 0, i, j, h => by
    unfold bsG
    rw [if_neg (by omega)]
  | k + 1, i, j, h => by
    conv => lhs; unfold bsG
    conv => rhs; unfold bsG
    by_cases hlt : i < j
    · rw [if_pos hlt, if_pos hlt, bsG_more p k _ _ (by omega), bsG_more p k _ _ (by omega)]
    · rw [if_neg hlt, if_neg hlt]
theorem bsG_fuel (p : Nat → Bool) {i j : Nat} : ∀ (k : Nat), j - i ≤ k → bsG p k i j = bsG p (j - i) i j
  | 0, h => by rw [show j - i = 0 by omega]
  | k + 1, h => by
    rcases Nat.lt_or_ge (j - i) (k + 1) with h1 | h1
    · rw [bsG_more p k i j (by omega), bsG_fuel p k (by omega)]
    · rw [show j - i = k + 1 by omega]
theorem bsG_step (p : Nat → Bool) {i j : Nat} (h : i < j) : bsG p (j - i) i j = if p ((i + j) / 2) = false then bsG p (j - ((i + j) / 2 + 1)) ((i + j) / 2 + 1) j else bsG p ((i + j) / 2 - i) i ((i + j) / 2) := by
  have e : j - i = (j - i - 1) + 1 := by omega
  rw [e, bsG_succ, if_pos h, bsG_fuel p (j - i - 1) (by omega), bsG_fuel p (j - i - 1) (by omega)]
theorem bsG_end (p : Nat → Bool) {i j : Nat} (h : ¬ i < j) : bsG p (j - i) i j = i := by
  rw [show j - i = 0 by omega]
  rfl
theorem bsG_le (p : Nat → Bool) : ∀ (k i j : Nat), i ≤ j → bsG p k i j ≤ j
  | 0, i, j, h => h
  | k + 1, i, j, h => by
    unfold bsG
    split
    · split
      · exact bsG_le p k _ _ (by omega)
      · have := bsG_le p k i ((i + j) / 2) (by omega)
        omega
    · exact h
/-- Does the key at a place come no sooner? -/
def geK (m : List S25) (key : ByteArray) (i : Nat) : Bool := !(Op.bytesLess (m.getD i z25).f0.toList key.toList)
def searchP (m : List S25) (key : ByteArray) : Nat := bsG (geK m key) m.length 0 m.length
/-- omap.find. -/
def foundP (m : List S25) (key : ByteArray) : Bool := decide (searchP m key < m.length) && ((m.getD (searchP m key) z25).f0.toList == key.toList)
theorem searchP_le (m : List S25) (key : ByteArray) : searchP m key ≤ m.length := bsG_le _ _ _ _ (Nat.zero_le _)
theorem foundP_lt {m : List S25} {key : ByteArray} (h : foundP m key = true) : searchP m key < m.length := by
  unfold foundP at h
  rw [Bool.and_eq_true, decide_eq_true_eq] at h
  exact h.1
set_option maxHeartbeats 8000000 in
set_option maxRecDepth 100000 in
theorem closure61 (A : Option Addr) (c : Nat) (m : List S25) (key : ByteArray) (g2 g3 i : Nat) (w : World) (hr : Kd.C k25 w A m.length m) (h2 : w.heap[g2]? = some (.cells #[.slice A m.length c] 22 (0, 0))) (h3 : w.heap[g3]? = some (.cells #[.string key] 9 (0, 0))) (hi : i < m.length) :
    Calls Try.prog 61 #[.int .i64 (i : Int), .pointer (some ⟨g2, 0, none⟩), .pointer (some ⟨g3, 0, none⟩)] w fun e w' => e = .returned (.bool (geK m key i)) ∧ Below w.heap.size w w' := by
  obtain ⟨ad, e0, x0, x1⟩ := at_T25 hr (i : Int) (by omega) (by omega)
  rw [rd25_nat] at x0
  simp only [Int.toNat_natCast] at x0
  subst e0
  have c2 := (blk_cell h2 0).trans (show _ = some (.slice (some ad) m.length c) from rfl)
  have c3 := (blk_cell h3 0).trans (show _ = some (.string key) from rfl)
  have hil : (i : Int) < (m.length : Int) := by omega
  unfold geK
  obtain ⟨b, hb⟩ : ∃ b, Op.bytesLess (m.getD i z25).f0.toList key.toList = b := ⟨_, rfl⟩
  rw [hb]
  generalize (m.getD i z25).f0 = k0 at x0 hb
  clear hr h2 h3 x1
  go_enter Try.func61, Try.ntmps61
  go_upto_region 1 with (fail)
  go_quiet (fail)
  go_wp2
  go_ret
  exact ⟨by first | rfl | (simp [*]; done) | (simp [*]; rfl), by first | exact Below.refl _ _ | exact pw_below_drewN (Below.refl _ _) _ | exact below_drew (Below.refl _ _)⟩
set_option maxHeartbeats 8000000 in
set_option maxRecDepth 100000 in
theorem search60 (A : Option Addr) (c : Nat) (m : List S25) (key : ByteArray) (g2 g3 : Nat) (w : World) (hr : Kd.C k25 w A m.length m) (h2 : w.heap[g2]? = some (.cells #[.slice A m.length c] 22 (0, 0))) (h3 : w.heap[g3]? = some (.cells #[.string key] 9 (0, 0))) (hl : m.length ≤ 4398046511104) :
    Calls Try.prog 60 #[.int .i64 (m.length : Int), .func (.func 61) #[] #[.pointer (some ⟨g2, 0, none⟩), .pointer (some ⟨g3, 0, none⟩)]] w fun e w' => e = .returned (.int .i64 (searchP m key : Int)) ∧ Below w.heap.size w w' := by
  have HR := Aside0.mk hr
  have H2 := Aside0.mk h2
  have H3 := Aside0.mk h3
  clear hr h2 h3
  go_enter Try.func60, Try.ntmps60
  go_upto_region 2 with (fail)
  go_loopw [5, 6] (fun v5 v6 wr => ∃ i j : Nat, i ≤ j ∧ j ≤ m.length ∧ v5 = .int .i64 (i : Int) ∧ v6 = .int .i64 (j : Int) ∧ Aside0 (bsG (geK m key) (j - i) i j = searchP m key) ∧ Aside0 (Below w.heap.size w wr)) (fun v5 v6 _ => (intOf v6 - intOf v5).toNat)
  case atStart => exact ⟨0, m.length, Nat.zero_le _, Nat.le_refl _, rfl, rfl, ⟨rfl⟩, ⟨Below.refl _ _⟩⟩
  case round =>
    obtain ⟨i, j, hij, hj, rfl, rfl, HA, HB⟩ := hrel
    rename World => wr
    by_cases hlt : i < j
    · have H := HA.out
      rw [bsG_step _ hlt] at H
      obtain ⟨h, hh⟩ : ∃ h, (i + j) / 2 = h := ⟨_, rfl⟩
      rw [hh] at H
      have hih : i ≤ h := by omega
      have hhj : h < j := by omega
      have hw1 : wrap64 ((i : Int) + (j : Int)) = (i : Int) + (j : Int) := w64' (by omega) (by omega)
      have hij0 : (0 : Int) ≤ (i : Int) + (j : Int) := by omega
      have hsr : ((i : Int) + (j : Int)) / 2 = (h : Int) := by omega
      have HH := Aside0.mk H
      clear H HA hh
      obtain ⟨b, hb⟩ : ∃ b, geK m key h = b := ⟨_, rfl⟩
      have HBB := Aside0.mk hb
      rw [hb] at HH
      clear hb
      have hlt2 : (i : Int) < (j : Int) := by omega
      cases b with
      | true =>
        go_wp2_with (first | (go_at_call 61; refine (closure61 A c m key g2 g3 h _ (Kd.C_below HR.out HB.out) (blk_below H2.out HB.out) (blk_below H3.out HB.out) (by omega)).mono ?_; rw [HBB.out]; rintro e w5 ⟨rfl, hb⟩; have n_HB := Aside0.mk (below_step HB.out hb); clear HB hb; have HB := n_HB; clear n_HB))
        go_roundw
        case rel => exact ⟨i, h, hih, by omega, rfl, rfl, ⟨HH.out⟩, HB⟩
        case measure => simp [intOf]; omega
      | false =>
        go_wp2_with (first | (go_at_call 61; refine (closure61 A c m key g2 g3 h _ (Kd.C_below HR.out HB.out) (blk_below H2.out HB.out) (blk_below H3.out HB.out) (by omega)).mono ?_; rw [HBB.out]; rintro e w5 ⟨rfl, hb⟩; have n_HB := Aside0.mk (below_step HB.out hb); clear HB hb; have HB := n_HB; clear n_HB))
        go_roundw
        case rel => exact ⟨h + 1, j, by omega, hj, by go_num, rfl, ⟨HH.out⟩, HB⟩
        case measure => simp [intOf]; omega
    · obtain rfl : i = j := by omega
      have H := HA.out
      rw [bsG_end _ hlt] at H
      have HH := Aside0.mk H
      clear H HA
      go_wp2
      go_ret
      exact ⟨by rw [HH.out]; rfl, HB.out⟩
set_option maxHeartbeats 8000000 in
set_option maxRecDepth 100000 in
theorem find47 (A : Option Addr) (c : Nat) (m : List S25) (key : ByteArray) (w : World) (hr : Kd.C k25 w A m.length m) (hl : m.length ≤ 4398046511104) :
    Calls Try.prog 47 #[.slice A m.length c, .string key] w fun e w' => e = .returned (.tuple #[.int .i64 (searchP m key : Int), .bool (foundP m key)]) ∧ Below w.heap.size w w' := by
  have HR := Aside0.mk hr
  have HB := Aside0.mk (Below.refl w.heap.size w)
  clear hr
  obtain ⟨at_, hat⟩ : ∃ at_, searchP m key = at_ := ⟨_, rfl⟩
  obtain ⟨fb, hfb⟩ : ∃ fb, foundP m key = fb := ⟨_, rfl⟩
  have HAT := Aside0.mk hat
  have hle : at_ ≤ m.length := by rw [← hat]; exact searchP_le m key
  have HFB : Aside0 (fb = (decide (at_ < m.length) && ((m.getD at_ z25).f0.toList == key.toList))) := ⟨by rw [← hfb, ← hat]; rfl⟩
  rw [hat, hfb]
  clear hat hfb
  go_enter Try.func47, Try.ntmps47
  go_upto_region 1 with (first | ((with_reducible refine gate_dst (N := 2) rfl ?_); refine box_event ?hg (N := 2) ?hd (cs := #[.slice A m.length c]) (t := 22) ?hr ?_; (case hd => rfl); (case hg => rfl); (case hr => first | (go_simp; done) | (go_simp; rfl)); intro g2 hg w3 hbox hb; have GE_g2 : Aside0 (w.heap.size ≤ g2) := ⟨by rw [hg]; exact below_size HB.out⟩; have n_HB := Aside0.mk (below_step HB.out hb); clear HB; have HB := n_HB; clear n_HB; have B2 := Aside0.mk hbox; clear hg hbox hb) | ((with_reducible refine gate_dst (N := 3) rfl ?_); refine box_event ?hg (N := 3) ?hd (cs := #[.string key]) (t := 9) ?hr ?_; (case hd => rfl); (case hg => rfl); (case hr => first | (go_simp; done) | (go_simp; rfl)); intro g3 hg w3 hbox hb; have NE_g2_g3 : Aside0 (g2 ≠ g3) := ⟨by rw [hg]; exact Nat.ne_of_lt (blk_lt B2.out)⟩; have GE_g3 : Aside0 (w.heap.size ≤ g3) := ⟨by rw [hg]; exact below_size HB.out⟩; have n_B2 := Aside0.mk (blk_below B2.out hb); have n_HB := Aside0.mk (below_step HB.out hb); clear B2 HB; have B2 := n_B2; have HB := n_HB; clear n_B2 n_HB; have B3 := Aside0.mk hbox; clear hg hbox hb))
  have c2 := (blk_cell B2.out 0).trans (show _ = some (.slice A m.length c) from rfl)
  have c3 := (blk_cell B3.out 0).trans (show _ = some (.string key) from rfl)
  go_upto_region 2 with (first | (go_at_call 60; refine (search60 A c m key g2 g3 _ (Kd.C_below HR.out HB.out) B2.out B3.out hl).mono ?_; rw [HAT.out]; rintro e w5 ⟨rfl, hb⟩; have n_B2 := Aside0.mk (blk_below B2.out hb); have n_B3 := Aside0.mk (blk_below B3.out hb); have n_HB := Aside0.mk (below_step HB.out hb); clear B2 B3 HB; have B2 := n_B2; have B3 := n_B3; have HB := n_HB; clear n_B2 n_B3 n_HB; clear hb; clear c2 c3; have c2 := (blk_cell B2.out 0).trans (show _ = some (.slice A m.length c) from rfl); have c3 := (blk_cell B3.out 0).trans (show _ = some (.string key) from rfl)))
  by_cases hlt : at_ < m.length
  · obtain ⟨ad, e0, x0, x1⟩ := at_T25 (Kd.C_below HR.out HB.out) (at_ : Int) (by omega) (by omega)
    rw [rd25_nat] at x0
    simp only [Int.toNat_natCast] at x0
    subst e0
    have d0 : decide ((at_ : Int) < (m.length : Int)) = true := decide_eq_true (by omega)
    obtain ⟨b, hb⟩ : ∃ b, ((m.getD at_ z25).f0.toList == key.toList) = b := ⟨_, rfl⟩
    have HE : Aside0 (fb = b) := ⟨by rw [HFB.out, decide_eq_true hlt, hb, Bool.true_and]⟩
    clear HFB
    generalize (m.getD at_ z25).f0 = k0 at x0 hb
    clear x1
    go_quiet (fail)
    go_wp2
    go_ret2
    exact ⟨by rw [HE.out]; first | rfl | (simp [*]; done) | (simp [*]; rfl), by first | exact HB.out | exact pw_below_drewN HB.out _⟩
  · have d0 : decide ((at_ : Int) < (m.length : Int)) = false := decide_eq_false (by omega)
    have HE : Aside0 (fb = false) := ⟨by rw [HFB.out, decide_eq_false hlt, Bool.false_and]⟩
    go_quiet (fail)
    go_wp2
    go_ret2
    exact ⟨by rw [HE.out]; first | rfl | (simp [*]; done) | (simp [*]; rfl), by first | exact HB.out | exact pw_below_drewN HB.out _⟩
/-- omap.Get. -/
def getP (m : List S25) (key : ByteArray) : Option ByteArray := if foundP m key then some (m.getD (searchP m key) z25).f1 else none
set_option maxHeartbeats 8000000 in
set_option maxRecDepth 100000 in
theorem get21 (A : Option Addr) (c : Nat) (m : List S25) (key : ByteArray) (w : World) (hr : Kd.C k25 w A m.length m) (hl : m.length ≤ 4398046511104) :
    Calls Try.prog 21 #[.slice A m.length c, .string key] w fun e w' => e = .returned (.tuple #[.string ((getP m key).getD ⟨#[]⟩), .bool (getP m key).isSome]) ∧ Below w.heap.size w w' := by
  have HR := Aside0.mk hr
  have HF := Aside0.mk (find47 A c m key w hr hl)
  clear hr
  unfold getP
  obtain ⟨b, hb⟩ : ∃ b, foundP m key = b := ⟨_, rfl⟩
  rw [hb] at HF ⊢
  have HLT : Aside0 (b = true → searchP m key < m.length) := ⟨fun h => foundP_lt (hb.trans h)⟩
  clear hb
  generalize searchP m key = at_ at HF HLT ⊢
  cases b with
  | true =>
    have hlt := HLT.out rfl
    obtain ⟨ad, e0, x0, x1⟩ := at_T25 HR.out (at_ : Int) (by omega) (by omega)
    rw [rd25_nat] at x1
    simp only [Int.toNat_natCast] at x1
    subst e0
    have HX := Aside0.mk x1
    clear x0 x1
    rw [if_pos rfl]
    generalize (m.getD at_ z25).f1 = v1 at HX ⊢
    go_enter Try.func21, Try.ntmps21
    go_upto_region 3 with (go_at_call 47; refine HF.out.mono ?_; rintro e w5 ⟨rfl, hb⟩; have HB := Aside0.mk hb; have x1 := (hb.cell (World.block_lt_of_cell? w _ HX.out)).trans HX.out; clear hb)
    go_wp2
    go_ret2
    exact ⟨rfl, HB.out⟩
  | false =>
    rw [if_neg (by decide)]
    go_enter Try.func21, Try.ntmps21
    go_wp2_with (go_at_call 47; refine HF.out.mono ?_; rintro e w5 ⟨rfl, hb⟩; have HB := Aside0.mk hb; clear hb)
    go_ret2
    exact ⟨rfl, HB.out⟩
theorem R_form {α : Type} {d : Kd α} {e b : Nat} {W : World} {ok : Nat → Prop} {v : Value} {xs : List α} (h : Kd.R d e W b ok v xs) : ∃ A c, v = .slice A xs.length c := by
  obtain ⟨A, c, h1, _⟩ := Kd.R_reads h
  exact ⟨A, c, h1⟩
theorem eqlIn_nil {P : Program} {t e : TypeId} (h : P.underlying t = some (.slice e)) (d : Nat) (a : Option Addr) (l c : Nat) (w : World) : (Op.equalIn (d + 1) t (.slice a l c) (.slice none 0 0)).run P w = .ok a.isNone w := by
  cases a <;> simp [Op.equalIn, run_underlying h]
theorem eql_nil {P : Program} {t e : TypeId} (h : P.underlying t = some (.slice e)) (a : Option Addr) (l c : Nat) (w : World) : (binOp .eql t (.slice a l c) (.slice none 0 0)).run P w = .ok (.bool a.isNone) w := by
  have h1 : (Op.equal t (.slice a l c) (.slice none 0 0)).run P w = .ok a.isNone w := eqlIn_nil h 9999 a l c w
  simp [binOp, h1]
theorem info25 : (Try.prog.info? 25).map (fun i => (i.zero, i.size, i.bytes)) = some (some (.agg #[(.string ⟨#[]⟩), (.string ⟨#[]⟩)]), 2, 32) := by kernel_rfl
theorem k25_KM {W : World} {base : Nat} {ok : Nat → Prop} (x : S25) (cs : List Value) (h : k25.K W x cs) : k25.M W base ok x cs := by
  rw [k25_open h]
  exact k25_mkM W base ok x
set_option maxHeartbeats 8000000 in
set_option maxRecDepth 100000 in
theorem clone38 (A : Option Addr) (c : Nat) (m : List S25) (w : World) (hr : Kd.C k25 w A m.length m) (hc : m.length ≤ c) (hl : m.length ≤ 4398046511104) :
    Calls Try.prog 38 #[.slice A m.length c] w fun e w' => ∃ A' c', e = .returned (.slice A' m.length c') ∧ Kd.R k25 25 w' w.heap.size (fun _ => True) (.slice A' m.length c') m ∧ Below w.heap.size w w' := by
  have HR0 := Aside0.mk hr
  clear hr
  have hnil : ∀ W : World, (binOp .eql 22 (.slice A m.length c) (.slice none 0 0)).run Try.prog W = .ok (.bool A.isNone) W := fun W => eql_nil Try.underlying22 A m.length c W
  cases A with
  | none =>
    have h0 : m.length = 0 := by
      rcases Nat.eq_zero_or_pos m.length with h | h
      · exact h
      · obtain ⟨ad, e, _⟩ := HR0.out.2.2 h
        cases e
    obtain rfl : m = [] := List.eq_nil_of_length_eq_zero h0
    clear h0 hl
    simp only [List.length_nil] at hnil ⊢
    go_enter Try.func38, Try.ntmps38
    go_wp2
    go_ret
    exact ⟨none, 0, rfl, Kd.R_nil _ _ _ _ _, Below.refl _ _⟩
  | some ad =>
    go_enter Try.func38, Try.ntmps38
    go_wp2_with (first
      | ((with_reducible refine gate_dst (N := 5) rfl ?_); (refine Kd.R_lit k25 (w0 := w) w.heap.size 25 rfl rfl (xs := []) (inner := []) (ok := fun _ => True) (okp := fun _ => False) ?hrun ?hrep (fun _ hk => hk.elim) trivial (Below.refl _ _) (Nat.le_refl _) (by simp) ?_); (case hrun => first | (go_simp; done) | (go_simp; rfl)); (case hrep => first | exact Reps.nil | exact ⟨rfl, fun j p hj => by simp at hj⟩); intro v5 w5 ho hb hg hat; have HO := Aside0.mk ho; have HB := Aside0.mk hb; clear ho hb hg hat)
      | ((with_reducible refine gate_builtin (b := .append) (xs := #[.tmp 5, .tmp 6]) rfl ?_); at_builtin; (refine Kd.R_append_rows k25 (w0 := w) w.heap.size rfl (.tmp 5) (.tmp 6) 22 25 (.agg #[(.string ⟨#[]⟩), (.string ⟨#[]⟩)]) 32 rfl Try.underlying22 info25 rfl (by decide) (by decide) _ [] m _ _ _ (fun _ => True) (fun _ => False) rfl rfl HO.out (Kd.C_below HR0.out HB.out) (fun x cs h => k25_KM x cs h) (fun _ hk => hk.elim) (fun _ _ => trivial) HB.out (below_size HB.out) (by (try simp only [List.length_nil]); omega) ?_); intro v7 w7 ho hb hg hat; have n0 := Aside0.mk ho; have n1 := Aside0.mk hb; clear ho hb hg hat))
    go_ret
    obtain ⟨A, c, hv⟩ := R_form n0.out
    rw [List.nil_append] at hv n0
    subst hv
    exact ⟨A, c, rfl, n0.out, n1.out⟩

end Go.Proofs.Ytjieagpfnnbiiaa.XLin
