/- omap's Scan. -/
import Derived.Test.YtjieagpfnnbiiaaBHOm1
namespace Go.Proofs.Ytjieagpfnnbiiaa.XLin
open Go Go.RowKit Go.Proofs.YtjieagpfnnbiiaaW.PrintWords Go.Proofs.YtjieagpfnnbiiaaW.PrintLast Go.Proofs.YtjieagpfnnbiiaaW.PrintMore
open Go.Proofs.Ytjieagpfnnbiiaa
set_option linter.unusedVariables false
set_option linter.unusedSimpArgs false
theorem max_pure (ats : Array TypeId) (ty : TypeId) {x y z : Int} (h : max x y = z) : Builtin.max_ ats ty #[.int .i64 x, .int .i64 y] = pure (.int .i64 z) := by
  rw [max_two, max2_int]
  have h1 : (if x < y then y else x) = z := by omega
  rw [h1]
  rfl
theorem min_pure (ats : Array TypeId) (ty : TypeId) {x y z : Int} (h : min x y = z) : Builtin.min_ ats ty #[.int .i64 x, .int .i64 y] = pure (.int .i64 z) := by
  rw [min_two, min2_int]
  have h1 : (if y < x then y else x) = z := by omega
  rw [h1]
  rfl
theorem cut_far {P : Program} (t e : TypeId) {i : TypeInfo} (ht : P.underlying t = some (.slice e)) (hi : P.info? e = some i) (size : Nat) (hsz : i.size = size) (A : Option Addr) (n c : Nat) (lo hi' : Int) (h0 : 0 ≤ lo) (h1 : lo ≤ hi') (hc : hi' ≤ c) :
    ∀ W : World, (Instr.slice t (.slice A n c) (some (.int .i64 lo)) (some (.int .i64 hi')) none).run P W = .ok (.slice (if c = lo.toNat then A else A.map (·.add (lo.toNat * size))) (hi'.toNat - lo.toNat) (c - lo.toNat)) W := by
  intro W
  have hel : P.elem t = e := by simp [Program.elem, ht]
  have hu : P.underlying t = some (.slice (P.elem t)) := by rw [hel]; exact ht
  rw [run_slice_lh W t A n c hu .i64 .i64 lo hi' h0 h1 hc, hel]
  simp [sizeOf, typeInfo, hi, hsz, sliced, Result.andThen]
/-- omap.Scan: where it ends. -/
def scanTo (m : List S25) (till : ByteArray) : Nat := if till.toList.isEmpty = true then m.length else searchP m till
def scanEnd (m : List S25) (a en : Nat) (limit : Int) : Nat := max a (min en (a + (min (max limit 0) (m.length : Int)).toNat))
def scanP (m : List S25) (from_ till : ByteArray) (limit : Int) : List S25 := (m.take (scanEnd m (searchP m from_) (scanTo m till) limit)).drop (searchP m from_)
set_option maxHeartbeats 8000000 in
set_option maxRecDepth 100000 in
theorem scan22 (A : Option Addr) (c : Nat) (m : List S25) (from_ till : ByteArray) (limit : Int) (w : World) (hr : Kd.C k25 w A m.length m) (hc : m.length ≤ c) (hl : m.length ≤ 4398046511104) :
    Calls Try.prog 22 #[.slice A m.length c, .string from_, .string till, .int .i64 limit] w fun e w' => ∃ A' c', e = .returned (.slice A' (scanP m from_ till limit).length c') ∧ Kd.R k25 25 w' w.heap.size (fun _ => True) (.slice A' (scanP m from_ till limit).length c') (scanP m from_ till limit) ∧ Below w.heap.size w w' := by
  have HR := Aside0.mk hr
  have HC := Aside0.mk hc
  obtain ⟨a, ha⟩ : ∃ a, searchP m from_ = a := ⟨_, rfl⟩
  have hal : a ≤ m.length := by rw [← ha]; exact searchP_le m from_
  obtain ⟨tb, htb⟩ : ∃ tb, till.toList.isEmpty = tb := ⟨_, rfl⟩
  have htb2 : (!till.toList.isEmpty) = !tb := by rw [htb]
  obtain ⟨en, hen⟩ : ∃ en, scanTo m till = en := ⟨_, rfl⟩
  have hel : en ≤ m.length := by
    rw [← hen]
    unfold scanTo
    split
    · exact Nat.le_refl _
    · exact searchP_le m till
  have HT : Aside0 (if tb = true then en = m.length else searchP m till = en) := ⟨by
    rw [← htb, ← hen]
    unfold scanTo
    split <;> rfl⟩
  obtain ⟨mx, hmx⟩ : ∃ mx, max limit 0 = mx := ⟨_, rfl⟩
  obtain ⟨q, hq0⟩ : ∃ q : Nat, min mx (m.length : Int) = (q : Int) := ⟨(min mx (m.length : Int)).toNat, by omega⟩
  have hq : min (max limit 0) (m.length : Int) = (q : Int) := by rw [hmx]; exact hq0
  obtain ⟨q', hq'⟩ : ∃ q : Nat, min (max limit 0) (m.length : Int) = (q : Int) := ⟨(min (max limit 0) (m.length : Int)).toNat, by omega⟩
  obtain ⟨aq, haq⟩ : ∃ aq : Nat, (a : Int) + (q : Int) = (aq : Int) := ⟨a + q, by omega⟩
  obtain ⟨r, hr1⟩ : ∃ r : Nat, min (en : Int) (aq : Int) = (r : Int) := ⟨min en aq, by omega⟩
  obtain ⟨e, he⟩ : ∃ e : Nat, max (a : Int) (r : Int) = (e : Int) := ⟨max a r, by omega⟩
  have hee : scanEnd m a en limit = e := by
    unfold scanEnd
    rw [hq, Int.toNat_natCast]
    omega
  have hae : a ≤ e := by omega
  have hem : e ≤ m.length := by omega
  have hsp : scanP m from_ till limit = (m.take e).drop a := by unfold scanP; rw [ha, hen, hee]
  obtain ⟨xs, hxs⟩ : ∃ xs, (m.take e).drop a = xs := ⟨_, rfl⟩
  have hxl : xs.length = e - a := by rw [← hxs, List.length_drop, List.length_take]; omega
  obtain ⟨i25, hi25, hs25⟩ := Option.map_eq_some_iff.1 info25
  have hz25 : i25.size = 2 := (Prod.mk.inj (Prod.mk.inj hs25).2).1
  have hcut0 := cut_far (P := Try.prog) 22 25 Try.underlying22 hi25 2 hz25 A m.length c (a : Int) (e : Int) (by omega) (by omega) (by omega)
  simp only [Int.toNat_natCast] at hcut0
  have hrow := Kd.C_mid (c := c) hr hae hem hc
  have hsz : k25.sz = 2 := rfl
  rw [hsz, hxs] at hrow
  obtain ⟨A2, hA2⟩ : ∃ A2, (if c = a then A else A.map (·.add (a * 2))) = A2 := ⟨_, rfl⟩
  rw [hA2] at hrow hcut0
  have hcut : ∀ W : World, (Instr.slice 22 (.slice A m.length c) (some (.int .i64 (a : Int))) (some (.int .i64 (e : Int))) none).run Try.prog W = .ok (.slice A2 xs.length (c - a)) W := by rw [hxl]; exact hcut0
  have HROW := Aside0.mk hrow
  have HCL : Aside0 (xs.length ≤ c - a) := ⟨by omega⟩
  have HXL : Aside0 (xs.length ≤ 4398046511104) := ⟨by omega⟩
  rw [hsp, hxs]
  have HA := Aside0.mk ha
  have HCUT := Aside0.mk hcut
  have HEQ : Aside0 ((∀ ats ty, Builtin.max_ ats ty #[.int .i64 limit, .int .i64 0] = pure (.int .i64 mx)) ∧ (∀ ats ty, Builtin.min_ ats ty #[.int .i64 mx, .int .i64 (m.length : Int)] = pure (.int .i64 (q : Int))) ∧ (a : Int) + (q : Int) = (aq : Int) ∧ wrap64 (aq : Int) = (aq : Int) ∧ (∀ ats ty, Builtin.min_ ats ty #[.int .i64 (en : Int), .int .i64 (aq : Int)] = pure (.int .i64 (r : Int))) ∧ (∀ ats ty, Builtin.max_ ats ty #[.int .i64 (a : Int), .int .i64 (r : Int)] = pure (.int .i64 (e : Int)))) := ⟨fun _ _ => max_pure _ _ hmx, fun _ _ => min_pure _ _ hq0, haq, w64' (by omega) (by omega), fun _ _ => min_pure _ _ hr1, fun _ _ => max_pure _ _ he⟩
  clear hq'
  clear q'
  clear hr hc ha htb hen hq hq0 hmx haq hr1 he hee hsp hxs hxl hi25 hs25 hz25 hcut0 hrow hsz hA2 hcut hae hem hel hal
  have HB := Aside0.mk (Below.refl w.heap.size w)
  have hlz : (0 : Int) ≤ (a : Int) := Int.natCast_nonneg a
  cases tb with
  | true =>
    have hten := HT.out
    rw [if_pos rfl] at hten
    subst hten
    go_enter Try.func22, Try.ntmps22
    go_upto_region 5 with (go_at_call 47; with_reducible refine (find47 A c m from_ _ (Kd.C_below HR.out HB.out) hl).mono ?_; rw [HA.out]; rintro e w5 ⟨rfl, hb⟩; have n_HB := Aside0.mk (below_step HB.out hb); clear HB hb; have HB := n_HB; clear n_HB)
    obtain ⟨hmx, hq, haq, hwq, hr1, he⟩ := HEQ.out
    have hcut := HCUT.out
    go_wp2_with (go_at_call 38; refine (clone38 A2 (c - a) xs _ (Kd.C_below HROW.out HB.out) HCL.out HXL.out).mono ?_; rintro e w6 ⟨A9, c9, rfl, hR, hb⟩; have HO := Aside0.mk hR; have n_HS := Aside0.mk (below_size HB.out); have n_HB := Aside0.mk (below_step HB.out hb); clear HB hb hR; have HB := n_HB; clear n_HB)
    go_ret
    exact ⟨A9, c9, rfl, Kd.R_lower HO.out n_HS.out, HB.out⟩
  | false =>
    have hten := HT.out
    rw [if_neg (by decide)] at hten
    have HT2 := Aside0.mk hten
    clear hten HT
    have HP1 : Aside0 True := ⟨trivial⟩
    go_enter Try.func22, Try.ntmps22
    go_upto_region 3 with (go_at_call 47; with_reducible refine (find47 A c m from_ _ (Kd.C_below HR.out HB.out) hl).mono ?_; rw [HA.out]; rintro e w5 ⟨rfl, hb⟩; have n_HB := Aside0.mk (below_step HB.out hb); clear HB hb; have HB := n_HB; clear n_HB)
    go_upto_region 5 with (go_at_call 47; with_reducible refine (find47 A c m till _ (Kd.C_below HR.out HB.out) hl).mono ?_; rw [HT2.out]; rintro e w5 ⟨rfl, hb⟩; have n_HB := Aside0.mk (below_step HB.out hb); clear HB hb; have HB := n_HB; clear n_HB)
    obtain ⟨hmx, hq, haq, hwq, hr1, he⟩ := HEQ.out
    have hcut := HCUT.out
    go_wp2_with (go_at_call 38; refine (clone38 A2 (c - a) xs _ (Kd.C_below HROW.out HB.out) HCL.out HXL.out).mono ?_; rintro e w6 ⟨A9, c9, rfl, hR, hb⟩; have HO := Aside0.mk hR; have n_HS := Aside0.mk (below_size HB.out); have n_HB := Aside0.mk (below_step HB.out hb); clear HB hb hR; have HB := n_HB; clear n_HB)
    go_ret
    exact ⟨A9, c9, rfl, Kd.R_lower HO.out n_HS.out, HB.out⟩

end Go.Proofs.Ytjieagpfnnbiiaa.XLin
