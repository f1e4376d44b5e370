/- Crash of the given program's disk. -/
import Derived.Test.YteibdmpjlpcgbaaTHList
namespace Go.Proofs.Yteibdmpjlpcgbaa.XDisk
open Go Go.RowKit Go.Proofs.YteibdmpjlpcgbaaW.PrintWords Go.Proofs.YteibdmpjlpcgbaaW.PrintLast Go.Proofs.YteibdmpjlpcgbaaW.PrintMore
open Go.Proofs.Yteibdmpjlpcgbaa
set_option linter.unusedVariables false
set_option linter.unusedSimpArgs false
/-- How many loose bytes are kept. -/
def keepN (k : Int) (f : FA) : Int := min (max k 0) ((f.b.length : Int) - f.safe)
def crashF (k : Int) (f : FA) : FA := ⟨f.b.take (f.safe + keepN k f).toNat, f.safe + keepN k f⟩
/-- The first m files of a crash. -/
def crashN : List Int → Nat → List (Nm × FA) → List (Nm × FA)
  | _, 0, l => l
  | _, _ + 1, [] => []
  | ks, m + 1, p :: l => (p.1, crashF (ks.headD 0) p.2) :: crashN ks.tail m l
def crashP (S : DA) (ks : List Int) : DA := { S with files := crashN ks S.files.length S.files }
/-- What is synced is of what there is. -/
def Sane (l : List (Nm × FA)) : Prop := ∀ p ∈ l, 0 ≤ p.2.safe ∧ p.2.safe ≤ p.2.b.length
theorem crashN_names : ∀ (m : Nat) (ks : List Int) (l : List (Nm × FA)), (crashN ks m l).map Prod.fst = l.map Prod.fst
  | 0, _, _ => rfl
  | _ + 1, _, [] => rfl
  | m + 1, ks, p :: l => by simp [crashN, crashN_names m]
theorem rising_names {l l' : List (Nm × FA)} (h : Rising l) (e : l'.map Prod.fst = l.map Prod.fst) : Rising l' := by
  unfold Rising at *
  have h1 : (l.map Prod.fst).Pairwise (· < ·) := List.pairwise_map.2 h
  rw [← e] at h1
  exact List.pairwise_map.1 h1
theorem crashN_at : ∀ (m : Nat) (ks : List Int) (l : List (Nm × FA)) (p : Nm × FA), l[m]? = some p → p ∈ crashN ks m l
  | 0, _, l, p, h => List.mem_of_getElem? h
  | m + 1, _, [], p, h => by simp at h
  | m + 1, ks, q :: l, p, h => by
    have := crashN_at m ks.tail l p (by simpa using h)
    exact List.mem_cons_of_mem _ this
theorem get_crashN {l : List (Nm × FA)} (hr : Rising l) (ks : List Int) {m : Nat} {p : Nm × FA} (h : l[m]? = some p) : get (crashN ks m l) p.1 = some p.2 :=
  mem_get (rising_names hr (crashN_names m ks l)) (crashN_at m ks l p h)
theorem put_cons_lt {q : Nm × FA} {l : List (Nm × FA)} {n : Nm} (f : FA) (h : q.1 < n) : put n f (q :: l) = q :: put n f l := by
  simp [put, h, lt_no h]
theorem put_head {n : Nm} {f f' : FA} {l : List (Nm × FA)} (h : ∀ q ∈ l, n < q.1) : put n f' ((n, f) :: l) = (n, f') :: l := by
  have h1 : l.filter (fun p => decide (p.1 < n)) = [] := List.filter_eq_nil_iff.2 (fun q hq => by simpa using lt_no (h q hq))
  have h2 : l.filter (fun p => decide (n < p.1)) = l := List.filter_eq_self.2 (fun q hq => by simpa using h q hq)
  simp [put, List.lt_irrefl, h1, h2]
theorem crashN_succ : ∀ (m : Nat) (ks : List Int) (l : List (Nm × FA)) (p : Nm × FA), Rising l → l[m]? = some p → put p.1 (crashF (ks.getD m 0) p.2) (crashN ks m l) = crashN ks (m + 1) l
  | 0, ks, [], p, _, h => by simp at h
  | 0, ks, q :: l, p, hr, h => by
    obtain rfl : q = p := by simpa using h
    unfold Rising at hr
    rw [List.pairwise_cons] at hr
    have e : ks.getD 0 0 = ks.headD 0 := by cases ks <;> rfl
    rw [e]
    exact put_head hr.1
  | m + 1, ks, [], p, _, h => by simp at h
  | m + 1, ks, q :: l, p, hr, h => by
    unfold Rising at hr
    rw [List.pairwise_cons] at hr
    have h1 : l[m]? = some p := by simpa using h
    have e : ks.getD (m + 1) 0 = ks.tail.getD m 0 := by cases ks <;> simp
    have hq : q.1 < p.1 := hr.1 p (List.mem_of_getElem? h1)
    show put p.1 _ ((q.1, crashF (ks.headD 0) q.2) :: crashN ks.tail m l) = (q.1, crashF (ks.headD 0) q.2) :: crashN ks.tail (m + 1) l
    rw [put_cons_lt (q := (q.1, crashF (ks.headD 0) q.2)) _ hq, e, crashN_succ m ks.tail l p hr.2 h1]
/-- A name out of the list. -/
theorem names_cell {w : World} {base : Nat} {v : Value} {ns : List Nm} (h : NamesAt w base v ns) : ∃ A c, v = .slice A ns.length c ∧ ns.length ≤ 9223372036854775807 ∧ ∀ i, i < ns.length → ∃ ad, A = some ad ∧ base ≤ (ad.add i).block ∧ w.cell? (ad.add i) = some (.string (str (ns.getD i []))) := by
  rcases h.2 with ⟨h1, h2⟩ | ⟨g, cap, cur, h1, h2, h3, h4, h5, h6, h7⟩
  · exact ⟨none, 0, by rw [h1, h2], by omega, fun i hi => absurd hi (by omega)⟩
  · refine ⟨_, _, h1, by unfold maxLen at h5; omega, fun i hi => ⟨_, rfl, ?_, ?_⟩⟩
    all_goals have e : (⟨g, 0, none⟩ : Addr).add i = ⟨g, i, none⟩ := by simp [Addr.add]; intro h; exact h.symm
    · rw [e]; exact h2
    rw [e, blk_cell h3 i]
    have h8 : (cur.toList.take (ns.length * 1))[i]? = (ns.map (fun n => Value.string (str n)))[i]? := by rw [h7]
    rw [List.getElem?_take_of_lt (by omega), List.getElem?_map, List.getElem?_eq_getElem hi] at h8
    rw [← Array.getElem?_toList, h8, List.getD_eq_getElem?_getD, List.getElem?_eq_getElem hi]
    rfl
theorem max_run (P : Program) (W : World) (ats : Array TypeId) (ty : TypeId) (x y : Int) : (Builtin.max_ ats ty #[.int .i64 x, .int .i64 y]).run P W = .ok (.int .i64 (max x y)) W := by
  rw [max_two, max2_int]
  simp only [pure_bind]
  have h1 : (if x < y then y else x) = max x y := by omega
  rw [h1]
  rfl
theorem min_run (P : Program) (W : World) (ats : Array TypeId) (ty : TypeId) (x y : Int) : (Builtin.min_ ats ty #[.int .i64 x, .int .i64 y]).run P W = .ok (.int .i64 (min x y)) W := by
  rw [min_two, min2_int]
  simp only [pure_bind]
  have h1 : (if y < x then y else x) = min x y := by omega
  rw [h1]
  rfl
attribute [local go_sem] max_run min_run
theorem cut_hm (W : World) (B : Option Addr) (n c k : Nat) (hk : k ≤ c) : (Instr.slice 30 (.slice B n c) none (some (.int .i64 (k : Int))) (some (.int .i64 (k : Int)))).run Try.prog W = .ok (.slice B k k) W := by
  obtain ⟨i0, hi, hzz⟩ := Option.map_eq_some_iff.1 infoU8
  simp only [Prod.mk.injEq] at hzz
  obtain ⟨hz0, hz1, hz2⟩ := hzz
  have hel : Try.prog.elem 30 = 5 := by simp [Program.elem, Try.underlying30]
  have hu : Try.prog.underlying 30 = some (.slice (Try.prog.elem 30)) := by rw [hel]; exact Try.underlying30
  rw [run_slice_hm W 30 B n c hu .i64 .i64 (k : Int) (k : Int) (Int.natCast_nonneg _) (by omega) (by omega), hel]
  simp [sizeOf, typeInfo, hi, hz1, sliced, Result.andThen]
  intro _
  cases B with
  | none => rfl
  | some b => simp [Addr.add]
/-- One file's crash, in memory. -/
theorem DIn.crash1 {W W' : World} {φ : Nat → Tg} {B gd : Nat} {S : DA} {gm n : Nat} {V : Nm → Nat} {Af : Option Addr} {cf : Nat} {Ap : Option Addr} {cp : Nat} {ks : List Int} {i k : Nat} {p : Nm × FA} {A : Option Addr} {c : Nat} (hr : Rising S.files)
    (h : DIn W φ B gd { S with files := crashN ks i S.files } gm n V Af cf Ap cp) (hp : S.files[i]? = some p) (hk : p.2.safe + keepN (ks.getD i 0) p.2 = k) (hkl : k ≤ p.2.b.length)
    (f1 : W.heap[V p.1]? = some (.cells #[.slice A p.2.b.length c, .int .i64 p.2.safe] 82 (0, 0))) (f2 : φ (V p.1) = .file p.1) (f3 : FRow W (fun k => φ k = .file p.1) (.slice A p.2.b.length c) p.2.b)
    (hc : Chg W W' (fun k => k = V p.1)) (hb : W'.heap[V p.1]? = some (.cells #[.slice A k k, .int .i64 k] 82 (0, 0))) :
    DIn W' φ B gd { S with files := crashN ks (i + 1) S.files } gm n V Af cf Ap cp ∧ Step W W' φ φ := by
  have hl : (p.2.b.take k).length = k := by rw [List.length_take]; omega
  have hcf : crashF (ks.getD i 0) p.2 = ⟨p.2.b.take k, k⟩ := by unfold crashF; rw [hk, Int.toNat_natCast]
  have hF : FileAt W' φ p.1 (crashF (ks.getD i 0) p.2) (V p.1) := by
    rw [hcf]
    refine ⟨A, k, ?_, f2, ?_⟩
    · show W'.heap[V p.1]? = some (.cells #[.slice A (p.2.b.take k).length k, .int .i64 k] 82 (0, 0))
      rw [hl]; exact hb
    · show FRow W' _ (.slice A (p.2.b.take k).length k) (p.2.b.take k)
      rw [hl]
      exact (f3.other f1 (by decide) (fun q hq hne => hc.block q hq hne)).cut k hkl
  obtain ⟨d1, d2⟩ := h.content (φ' := φ) (get_crashN hr ks hp) (hc.mono (fun q hq => by subst hq; exact f2)) (fun _ _ => rfl) (fun q hq hne => absurd (h.dom q hne).2 (Nat.not_lt.2 hq)) hF
  refine ⟨?_, d2⟩
  have e := crashN_succ i ks S.files p hr hp
  rw [← e]
  exact d1
def r17_7.T : Bool × List (List Nat × List Nat) := (true, [([], []), ([], []), ([1], [1]), ([2], [2]), ([3], [3]), ([], []), ([5], [5]), ([6], [6]), ([7], [7]), ([], []), ([9], [9]), ([10], [10]), ([11], [11]), ([4, 8, 12], [4, 8, 12]), ([0, 0, 1, 2, 3, 4, 5, 6, 7, 8, 9, 10, 11, 12, 13], [0]), ([14, 0, 1, 2, 3, 4, 5, 6, 7, 8, 9, 10, 11, 12, 13], [14]), ([15, 13, 0, 1, 2, 3, 4, 5, 6, 7, 8, 9, 10, 11, 12, 13], [13, 15])])
def r17_7.B : List Nat := [0, 0, 2, 6, 14, 0, 32, 96, 224, 0, 512, 1536, 3584, 8190, 16383, 32767, 65535]
theorem r17_7.tab : rtab .any (opsOf Try.f17 7) = r17_7.T := by kernel_rfl
theorem r17_7.bits : waitsOk r17_7.T.2 r17_7.B = true := by kernel_rfl
set_option maxHeartbeats 8000000 in
set_option maxRecDepth 100000 in
theorem crash_at (gd B : Nat) (φ : Nat → Tg) (S : DA) (ks : List Int) (Ak : Option Addr) (ck : Nat) (w : World) (h : DAt w φ B gd S) (hs : Sane S.files) (hlen : ∀ p ∈ S.files, p.2.b.length ≤ 1000000) (hnl : ∀ p ∈ S.files, p.1.length ≤ 1000) (hfl : S.files.length ≤ 100000) (hk0 : Stays w φ (fun W => Kd.C (Kd.int .i64) W Ak ks.length ks)) :
    Calls Try.prog 17 #[.pointer (some ⟨gd, 0, none⟩), .slice Ak ks.length ck] w fun e w' => e = .returned (.tuple #[]) ∧ DAt w' φ B gd (crashP S ks) ∧ Step w w' φ φ := by
  obtain ⟨gm, n, V, Af, cf, Ap, cp, hd, hn⟩ := h
  have HD := Aside0.mk hd
  have HN := Aside0.mk hn
  have HR := Aside0.mk hd.rise
  have HS := Aside0.mk hs
  have HL := Aside0.mk hlen
  have HKC := Aside0.mk hk0
  have HNL := Aside0.mk hnl
  have HLL := Aside0.mk (list_at gd B φ S w ⟨gm, n, V, Af, cf, Ap, cp, hd, hn⟩ hfl)
  have hkl : ks.length ≤ 9223372036854775807 := (hk0.self).2.1
  clear hd hn hs hlen hk0 hnl
  go_enter Try.func17, Try.ntmps17
  go_upto_region 1 with (go_at_call 16; refine HLL.out.mono ?_; rintro e w1 ⟨v, rfl, hv, hb⟩; obtain ⟨AN, cN, rfl, hnl, hnc⟩ := names_cell hv; have HNC := Aside0.mk hnc; have HB1 := Aside0.mk hb; clear hv hb hnc)
  simp only [List.length_map] at *
  go_loopw [11] (fun v11 wr => ∃ i : Nat, i ≤ S.files.length ∧ v11 = .int .i64 i ∧ Aside0 (DIn wr φ B gd { S with files := crashN ks i S.files } gm n V Af cf Ap cp) ∧ Aside0 (Chg w1 wr (fun k => φ k ≠ .no))) (fun v11 _ => S.files.length - (intOf v11).toNat)
  case atStart => exact ⟨0, Nat.zero_le _, rfl, ⟨HD.out.below HB1.out⟩, ⟨Chg.refl _ _⟩⟩
  case round =>
    obtain ⟨i, hi, rfl, HD2, HC2⟩ := hrel
    rename World => wr
    by_cases hlt : i < S.files.length
    · obtain ⟨p, hp⟩ : ∃ p, S.files[i]? = some p := ⟨_, List.getElem?_eq_getElem hlt⟩
      have HP := Aside0.mk hp
      have hnm : (S.files.map Prod.fst).getD i [] = p.1 := by rw [List.getD_eq_getElem?_getD, List.getElem?_map, hp]; rfl
      obtain ⟨ad, rfl, had, hnc⟩ := HNC.out i hlt
      rw [hnm] at hnc
      have hna : φ (ad.add i).block = .no := Classical.byContradiction (fun q => absurd (HD.out.dom _ q).2 (Nat.not_lt.2 had))
      have hlt1 : (ad.add i).block < w1.heap.size := World.block_lt_of_cell? w1 (ad.add i) hnc
      have hnc2 : wr.cell? (ad.add i) = some (.string (str p.1)) := (World.cell?_of_block (HC2.out.block (ad.add i).block hlt1 (fun q => q hna))).trans hnc
      have hpm : p ∈ S.files := List.mem_of_getElem? hp
      have hsz : (str p.1).size ≤ maxLen := by have := HNL.out p hpm; rw [str_size]; unfold maxLen; omega
      have hf := HD2.out.finds p.1 hsz 0
      rw [show ({ S with files := crashN ks i S.files } : DA).files = crashN ks i S.files from rfl, get_crashN HR.out ks hp] at hf
      replace hf : (Instr.lookup 69 (.map (some gm)) (.string (str p.1)) false).run Try.prog wr = .ok (.pointer (some ⟨V p.1, 0, none⟩)) wr := hf
      have k4 : wr.cell? ⟨gd, 4, none⟩ = some (.map (some gm)) := (blk_cell HD2.out.blk 4).trans rfl
      obtain ⟨A, c, f1, f2, f3⟩ := HD2.out.file p (crashN_at i ks S.files p hp)
      have F1 := Aside0.mk f1
      have F2 := Aside0.mk f2
      have F3 := Aside0.mk f3
      have hcc := f3.reads.2.1
      have hsn := HS.out p hpm
      have hle := HL.out p hpm
      have hkk : keepN (ks.getD i 0) p.2 = min (max (ks.getD i 0) 0) ((p.2.b.length : Int) - p.2.safe) := rfl
      obtain ⟨k, hks⟩ : ∃ k : Nat, p.2.safe + keepN (ks.getD i 0) p.2 = k := ⟨(p.2.safe + keepN (ks.getD i 0) p.2).toNat, by omega⟩
      have hk2 : k ≤ p.2.b.length := by omega
      have HKL := Aside0.mk hk2
      have kf0 : wr.cell? ⟨V p.1, 0, none⟩ = some (.slice A p.2.b.length c) := (blk_cell f1 0).trans rfl
      have kf1 : wr.cell? ⟨V p.1, 1, none⟩ = some (.int .i64 p.2.safe) := (blk_cell f1 1).trans rfl
      have kfz := fun j => blk_frozen f1 j
      clear f2 f3 hpm hp hnm hna hlt1 hnc hsz had
      by_cases hki : i < ks.length
      · have hc3 : Kd.C (Kd.int .i64) wr Ak ks.length ks := (HKC.out.below HB1.out).chg HC2.out
        obtain ⟨ad4, rfl, hk4⟩ := Kd.at_int hc3 (i : Int) (by omega) (by omega)
        have hrd : rd ks (i : Int) = ks.getD i 0 := by unfold rd; rw [Int.toNat_natCast]
        rw [hrd] at hk4
        simp only [Int.toNat_natCast] at hk4
        obtain ⟨kv, hkv⟩ : ∃ kv, ks.getD i 0 = kv := ⟨_, rfl⟩
        obtain ⟨nn, hnn⟩ : ∃ nn, keepN (ks.getD i 0) p.2 = nn := ⟨_, rfl⟩
        rw [hnn] at hkk hks
        rw [hkv] at hk4 hkk
        have hcut : ∀ W : World, (Instr.slice 30 (.slice A p.2.b.length c) none (some (.int .i64 (p.2.safe + nn))) (some (.int .i64 (p.2.safe + nn)))).run Try.prog W = .ok (.slice A k k) W := fun W => by rw [hks]; exact cut_hm W A p.2.b.length c k (by omega)
        have HCUT := Aside0.mk hcut
        have HKK : Aside0 (p.2.safe + keepN (ks.getD i 0) p.2 = p.2.safe + nn) := ⟨by rw [hnn]⟩
        have HKS := Aside0.mk hks
        have hn0 : 0 ≤ nn := by omega
        have hn1 : nn ≤ 1000000 := by omega
        have hs0 : 0 ≤ p.2.safe := hsn.1
        have hs1 : p.2.safe ≤ 1000000 := by omega
        have hsub : IntKind.i64.wrap ((p.2.b.length : Int) - p.2.safe) = (p.2.b.length : Int) - p.2.safe := IntWalk.i64_in _ (by omega)
        have HKV := Aside0.mk hkk
        clear hc3 hkk hks hcut hnn hkv hrd hk2 hsn
        go_upto_region 5 with (fail)
        go_quiet (fail)
        clear hsub
        rw [← HKV.out]
        go_upto_region 7 with (fail)
        have b7 : (World.setCell (wr.drewN nq) ⟨V p.1, 1, none⟩ (.int .i64 (p.2.safe + nn))).heap[V p.1]? = some (.cells #[.slice A p.2.b.length c, .int .i64 (p.2.safe + nn)] 82 (0, 0)) := blk_put (w := (wr.drewN nq)) f1 1 _ rfl
        have c7 : Chg wr (World.setCell (wr.drewN nq) ⟨V p.1, 1, none⟩ (.int .i64 (p.2.safe + nn))) (fun k => k = V p.1) := (Chg.of_below (fun k => k = V p.1) (pw_below_drewN (Below.refl _ _) _)).trans (Chg.set (wr.drewN nq) ⟨V p.1, 1, none⟩ (.int .i64 (p.2.safe + nn))) (fun _ h => .inl h)
        generalize World.setCell (wr.drewN nq) ⟨V p.1, 1, none⟩ (.int .i64 (p.2.safe + nn)) = w7 at b7 c7 ⊢
        have k70 : w7.cell? ⟨V p.1, 0, none⟩ = some (.slice A p.2.b.length c) := (blk_cell b7 0).trans rfl
        have k71 : w7.cell? ⟨V p.1, 1, none⟩ = some (.int .i64 (p.2.safe + nn)) := (blk_cell b7 1).trans rfl
        have B7 := Aside0.mk b7
        have C7 := Aside0.mk c7
        clear b7 c7 f1
        refine start_ (n := 17) (S := fun w' => Below w7.heap.size w7 w') (ds := [16]) #[false, false, false, false, false, false, false, false, false, false, false, false, false, false, false, false, false] (by kernel_rfl) rfl rfl (below_drew (Below.refl _ _)) (fun hHeld => ?_)
        refine with_tabW r17_7.tab r17_7.bits (fun HT_ HW_ => ?_)
        generalize w7.drew = wd at hHeld ⊢
        refine pure_ (i := 0) (N := some 50) (v := ?_) (a' := ?_) #[true, false, false, false, false, false, false, false, false, false, false, false, false, false, false, false, false] rfl rfl (any_of HT_.out (by kernel_rfl)) (fun _ _ _ h => h) (Or.inl ⟨by rfl, ?_⟩) ?_ ?_
        rotate_left
        · intro w'
          go_simp
          with_reducible rfl
        rotate_left
        · simp only [Act.put, List.setIfInBounds_toArray, List.set_cons_zero, List.set_cons_succ, i64_w, i32_w]
          rfl
        refine pure_ (i := 1) (N := some 51) (v := ?_) (a' := ?_) #[true, true, false, false, false, false, false, false, false, false, false, false, false, false, false, false, false] rfl rfl (any_of HT_.out (by kernel_rfl)) (fun _ _ _ h => h) (Or.inl ⟨by rfl, ?_⟩) ?_ ?_
        rotate_left
        · intro w'
          go_simp
          with_reducible rfl
        rotate_left
        · simp only [Act.put, List.setIfInBounds_toArray, List.set_cons_zero, List.set_cons_succ, i64_w, i32_w]
          rfl
        refine pure_ (i := 2) (N := some 52) (v := ?_) (a' := ?_) #[true, true, true, false, false, false, false, false, false, false, false, false, false, false, false, false, false] rfl rfl (any_of HT_.out (by kernel_rfl)) (fun _ _ _ h => h) (Or.inl ⟨by rfl, ?_⟩) ?_ ?_
        rotate_left
        · intro w'
          go_simp
          with_reducible rfl
        rotate_left
        · simp only [Act.put, List.setIfInBounds_toArray, List.set_cons_zero, List.set_cons_succ, i64_w, i32_w]
          rfl
        refine pure_ (i := 3) (N := some 53) (v := ?_) (a' := ?_) #[true, true, true, true, false, false, false, false, false, false, false, false, false, false, false, false, false] rfl rfl (any_of HT_.out (by kernel_rfl)) (fun _ _ _ h => h) (Or.inl ⟨by rfl, ?_⟩) ?_ ?_
        rotate_left
        · intro w'
          go_simp
          with_reducible rfl
        rotate_left
        · simp only [Act.put, List.setIfInBounds_toArray, List.set_cons_zero, List.set_cons_succ, i64_w, i32_w]
          rfl
        refine take_ (i := 4) (N := some 54) (v := ?_) (a' := ?_) #[true, true, true, true, true, false, false, false, false, false, false, false, false, false, false, false, false] rfl rfl (take_ofW HT_.out HW_.out (by kernel_rfl)) (fun _ _ _ h => h) (Or.inl ⟨by rfl, ?_⟩) hHeld ?_ ?_
        rotate_left
        · rintro w' hbq
          have c_k70 := (hbq.cell (World.block_lt_of_cell? w7 _ k70)).trans k70
          go_simp
          with_reducible rfl
        rotate_left
        · simp only [Act.put, List.setIfInBounds_toArray, List.set_cons_zero, List.set_cons_succ, i64_w, i32_w]
          rfl
        refine pure_ (i := 5) (N := some 55) (v := ?_) (a' := ?_) #[true, true, true, true, true, true, false, false, false, false, false, false, false, false, false, false, false] rfl rfl (any_of HT_.out (by kernel_rfl)) (fun _ _ _ h => h) (Or.inl ⟨by rfl, ?_⟩) ?_ ?_
        rotate_left
        · intro w'
          go_simp
          with_reducible rfl
        rotate_left
        · simp only [Act.put, List.setIfInBounds_toArray, List.set_cons_zero, List.set_cons_succ, i64_w, i32_w]
          rfl
        refine pure_ (i := 6) (N := some 56) (v := ?_) (a' := ?_) #[true, true, true, true, true, true, true, false, false, false, false, false, false, false, false, false, false] rfl rfl (any_of HT_.out (by kernel_rfl)) (fun _ _ _ h => h) (Or.inl ⟨by rfl, ?_⟩) ?_ ?_
        rotate_left
        · intro w'
          go_simp
          with_reducible rfl
        rotate_left
        · simp only [Act.put, List.setIfInBounds_toArray, List.set_cons_zero, List.set_cons_succ, i64_w, i32_w]
          rfl
        refine pure_ (i := 7) (N := some 57) (v := ?_) (a' := ?_) #[true, true, true, true, true, true, true, true, false, false, false, false, false, false, false, false, false] rfl rfl (any_of HT_.out (by kernel_rfl)) (fun _ _ _ h => h) (Or.inl ⟨by rfl, ?_⟩) ?_ ?_
        rotate_left
        · intro w'
          go_simp
          with_reducible rfl
        rotate_left
        · simp only [Act.put, List.setIfInBounds_toArray, List.set_cons_zero, List.set_cons_succ, i64_w, i32_w]
          rfl
        refine take_ (i := 8) (N := some 58) (v := ?_) (a' := ?_) #[true, true, true, true, true, true, true, true, true, false, false, false, false, false, false, false, false] rfl rfl (take_ofW HT_.out HW_.out (by kernel_rfl)) (fun _ _ _ h => h) (Or.inl ⟨by rfl, ?_⟩) hHeld ?_ ?_
        rotate_left
        · rintro w' hbq
          have c_k71 := (hbq.cell (World.block_lt_of_cell? w7 _ k71)).trans k71
          go_simp
          with_reducible rfl
        rotate_left
        · simp only [Act.put, List.setIfInBounds_toArray, List.set_cons_zero, List.set_cons_succ, i64_w, i32_w]
          rfl
        refine pure_ (i := 9) (N := some 59) (v := ?_) (a' := ?_) #[true, true, true, true, true, true, true, true, true, true, false, false, false, false, false, false, false] rfl rfl (any_of HT_.out (by kernel_rfl)) (fun _ _ _ h => h) (Or.inl ⟨by rfl, ?_⟩) ?_ ?_
        rotate_left
        · intro w'
          go_simp
          with_reducible rfl
        rotate_left
        · simp only [Act.put, List.setIfInBounds_toArray, List.set_cons_zero, List.set_cons_succ, i64_w, i32_w]
          rfl
        refine pure_ (i := 10) (N := some 60) (v := ?_) (a' := ?_) #[true, true, true, true, true, true, true, true, true, true, true, false, false, false, false, false, false] rfl rfl (any_of HT_.out (by kernel_rfl)) (fun _ _ _ h => h) (Or.inl ⟨by rfl, ?_⟩) ?_ ?_
        rotate_left
        · intro w'
          go_simp
          with_reducible rfl
        rotate_left
        · simp only [Act.put, List.setIfInBounds_toArray, List.set_cons_zero, List.set_cons_succ, i64_w, i32_w]
          rfl
        refine pure_ (i := 11) (N := some 61) (v := ?_) (a' := ?_) #[true, true, true, true, true, true, true, true, true, true, true, true, false, false, false, false, false] rfl rfl (any_of HT_.out (by kernel_rfl)) (fun _ _ _ h => h) (Or.inl ⟨by rfl, ?_⟩) ?_ ?_
        rotate_left
        · intro w'
          go_simp
          with_reducible rfl
        rotate_left
        · simp only [Act.put, List.setIfInBounds_toArray, List.set_cons_zero, List.set_cons_succ, i64_w, i32_w]
          rfl
        refine take_ (i := 12) (N := some 62) (v := ?_) (a' := ?_) #[true, true, true, true, true, true, true, true, true, true, true, true, true, false, false, false, false] rfl rfl (take_ofW HT_.out HW_.out (by kernel_rfl)) (fun _ _ _ h => h) (Or.inl ⟨by rfl, ?_⟩) hHeld ?_ ?_
        rotate_left
        · rintro w' hbq
          have c_k71 := (hbq.cell (World.block_lt_of_cell? w7 _ k71)).trans k71
          go_simp
          with_reducible rfl
        rotate_left
        · simp only [Act.put, List.setIfInBounds_toArray, List.set_cons_zero, List.set_cons_succ, i64_w, i32_w]
          rfl
        refine pure_ (i := 13) (N := some 63) (v := ?_) (a' := ?_) #[true, true, true, true, true, true, true, true, true, true, true, true, true, true, false, false, false] rfl rfl (any_of HT_.out (by kernel_rfl)) (fun _ _ _ h => h) (Or.inl ⟨by rfl, ?_⟩) ?_ ?_
        rotate_left
        · intro w'
          have hcut := HCUT.out w'
          go_simp
          with_reducible rfl
        rotate_left
        · simp only [Act.put, List.setIfInBounds_toArray, List.set_cons_zero, List.set_cons_succ, i64_w, i32_w]
          rfl
        refine pure_ (i := 14) (N := some 64) (v := ?_) (a' := ?_) #[true, true, true, true, true, true, true, true, true, true, true, true, true, true, true, false, false] rfl rfl (any_of HT_.out (by kernel_rfl)) (fun _ _ _ h => h) (Or.inl ⟨by rfl, ?_⟩) ?_ ?_
        rotate_left
        · intro w'
          go_simp
          with_reducible rfl
        rotate_left
        · simp only [Act.put, List.setIfInBounds_toArray, List.set_cons_zero, List.set_cons_succ, i64_w, i32_w]
          rfl
        refine pure_ (i := 15) (N := some 65) (v := ?_) (a' := ?_) #[true, true, true, true, true, true, true, true, true, true, true, true, true, true, true, true, false] rfl rfl (any_of HT_.out (by kernel_rfl)) (fun _ _ _ h => h) (Or.inl ⟨by rfl, ?_⟩) ?_ ?_
        rotate_left
        · intro w'
          go_simp
          with_reducible rfl
        rotate_left
        · simp only [Act.put, List.setIfInBounds_toArray, List.set_cons_zero, List.set_cons_succ, i64_w, i32_w]
          rfl
        refine last_ (i := 16) (N := none) #[true, true, true, true, true, true, true, true, true, true, true, true, true, true, true, true, true] rfl rfl (one_of HT_.out (by kernel_rfl)) (by decide) (fun K hK => ?_)
        have hd8 := blk_below B7.out hHeld
        have hc8 : wd.cell? ⟨V p.1, 0, none⟩ = some (.slice A p.2.b.length c) := (blk_cell hd8 0).trans rfl
        have hz8 := blk_frozen hd8 0
        have HD8 := Aside0.mk hd8
        have HH8 := Aside0.mk hHeld
        clear hd8 hHeld
        refine skip_ (w1 := ?_) (by rfl) rfl ?_ ?_
        rotate_left
        · go_simp
          rfl
        refine hK.out _ _ ?_
        clear hK K hc8 hz8
        refine done_ (done_of HT_.out (by kernel_rfl)) ?_
        go_wp2
        go_roundw
        case rel =>
          have hb9 := blk_put (cs' := #[.slice A k k, .int .i64 (p.2.safe + nn)]) HD8.out 0 (.slice A k k) rfl
          have hc9 := ((C7.out.trans (Chg.of_below (fun k => k = V p.1) HH8.out) (fun _ h => .inl h)).trans (Chg.set wd ⟨V p.1, 0, none⟩ (.slice A k k)) (fun _ h => .inl h))
          obtain ⟨d1, d2⟩ := HD2.out.crash1 (k := k) HR.out HP.out (HKK.out.trans HKS.out) HKL.out F1.out F2.out F3.out hc9 (by rw [HKS.out] at hb9; exact hb9)
          exact ⟨i + 1, by omega, by go_num, ⟨d1⟩, ⟨HC2.out.trans d2.1 (fun _ h => .inl h)⟩⟩
        case measure => simp [intOf]; omega
      · have hd0 : ks.getD i 0 = 0 := by rw [List.getD_eq_getElem?_getD, List.getElem?_eq_none (by omega)]; rfl
        have hkn : keepN (ks.getD i 0) p.2 = 0 := by rw [hkk, hd0]; omega
        rw [hkn, Int.add_zero] at hks
        have hcut : ∀ W : World, (Instr.slice 30 (.slice A p.2.b.length c) none (some (.int .i64 p.2.safe)) (some (.int .i64 p.2.safe))).run Try.prog W = .ok (.slice A k k) W := fun W => by rw [hks]; exact cut_hm W A p.2.b.length c k (by omega)
        have HCUT := Aside0.mk hcut
        have HKK : Aside0 (p.2.safe + keepN (ks.getD i 0) p.2 = p.2.safe) := ⟨by rw [hkn, Int.add_zero]⟩
        have HKS := Aside0.mk hks
        have hs0 : 0 ≤ p.2.safe := hsn.1
        have hs1 : p.2.safe ≤ 1000000 := by omega
        clear hkk hks hcut hkn hd0 hk2 hsn
        go_upto_region 7 with (fail)
        have b7 : (World.setCell wr ⟨V p.1, 1, none⟩ (.int .i64 (p.2.safe))).heap[V p.1]? = some (.cells #[.slice A p.2.b.length c, .int .i64 (p.2.safe)] 82 (0, 0)) := blk_put (w := wr) f1 1 _ rfl
        have c7 : Chg wr (World.setCell wr ⟨V p.1, 1, none⟩ (.int .i64 (p.2.safe))) (fun k => k = V p.1) := (Chg.of_below (fun k => k = V p.1) (Below.refl _ _)).trans (Chg.set wr ⟨V p.1, 1, none⟩ (.int .i64 (p.2.safe))) (fun _ h => .inl h)
        generalize World.setCell wr ⟨V p.1, 1, none⟩ (.int .i64 (p.2.safe)) = w7 at b7 c7 ⊢
        have k70 : w7.cell? ⟨V p.1, 0, none⟩ = some (.slice A p.2.b.length c) := (blk_cell b7 0).trans rfl
        have k71 : w7.cell? ⟨V p.1, 1, none⟩ = some (.int .i64 (p.2.safe)) := (blk_cell b7 1).trans rfl
        have B7 := Aside0.mk b7
        have C7 := Aside0.mk c7
        clear b7 c7 f1
        refine start_ (n := 17) (S := fun w' => Below w7.heap.size w7 w') (ds := [16]) #[false, false, false, false, false, false, false, false, false, false, false, false, false, false, false, false, false] (by kernel_rfl) rfl rfl (below_drew (Below.refl _ _)) (fun hHeld => ?_)
        refine with_tabW r17_7.tab r17_7.bits (fun HT_ HW_ => ?_)
        generalize w7.drew = wd at hHeld ⊢
        refine pure_ (i := 0) (N := some 50) (v := ?_) (a' := ?_) #[true, false, false, false, false, false, false, false, false, false, false, false, false, false, false, false, false] rfl rfl (any_of HT_.out (by kernel_rfl)) (fun _ _ _ h => h) (Or.inl ⟨by rfl, ?_⟩) ?_ ?_
        rotate_left
        · intro w'
          go_simp
          with_reducible rfl
        rotate_left
        · simp only [Act.put, List.setIfInBounds_toArray, List.set_cons_zero, List.set_cons_succ, i64_w, i32_w]
          rfl
        refine pure_ (i := 1) (N := some 51) (v := ?_) (a' := ?_) #[true, true, false, false, false, false, false, false, false, false, false, false, false, false, false, false, false] rfl rfl (any_of HT_.out (by kernel_rfl)) (fun _ _ _ h => h) (Or.inl ⟨by rfl, ?_⟩) ?_ ?_
        rotate_left
        · intro w'
          go_simp
          with_reducible rfl
        rotate_left
        · simp only [Act.put, List.setIfInBounds_toArray, List.set_cons_zero, List.set_cons_succ, i64_w, i32_w]
          rfl
        refine pure_ (i := 2) (N := some 52) (v := ?_) (a' := ?_) #[true, true, true, false, false, false, false, false, false, false, false, false, false, false, false, false, false] rfl rfl (any_of HT_.out (by kernel_rfl)) (fun _ _ _ h => h) (Or.inl ⟨by rfl, ?_⟩) ?_ ?_
        rotate_left
        · intro w'
          go_simp
          with_reducible rfl
        rotate_left
        · simp only [Act.put, List.setIfInBounds_toArray, List.set_cons_zero, List.set_cons_succ, i64_w, i32_w]
          rfl
        refine pure_ (i := 3) (N := some 53) (v := ?_) (a' := ?_) #[true, true, true, true, false, false, false, false, false, false, false, false, false, false, false, false, false] rfl rfl (any_of HT_.out (by kernel_rfl)) (fun _ _ _ h => h) (Or.inl ⟨by rfl, ?_⟩) ?_ ?_
        rotate_left
        · intro w'
          go_simp
          with_reducible rfl
        rotate_left
        · simp only [Act.put, List.setIfInBounds_toArray, List.set_cons_zero, List.set_cons_succ, i64_w, i32_w]
          rfl
        refine take_ (i := 4) (N := some 54) (v := ?_) (a' := ?_) #[true, true, true, true, true, false, false, false, false, false, false, false, false, false, false, false, false] rfl rfl (take_ofW HT_.out HW_.out (by kernel_rfl)) (fun _ _ _ h => h) (Or.inl ⟨by rfl, ?_⟩) hHeld ?_ ?_
        rotate_left
        · rintro w' hbq
          have c_k70 := (hbq.cell (World.block_lt_of_cell? w7 _ k70)).trans k70
          go_simp
          with_reducible rfl
        rotate_left
        · simp only [Act.put, List.setIfInBounds_toArray, List.set_cons_zero, List.set_cons_succ, i64_w, i32_w]
          rfl
        refine pure_ (i := 5) (N := some 55) (v := ?_) (a' := ?_) #[true, true, true, true, true, true, false, false, false, false, false, false, false, false, false, false, false] rfl rfl (any_of HT_.out (by kernel_rfl)) (fun _ _ _ h => h) (Or.inl ⟨by rfl, ?_⟩) ?_ ?_
        rotate_left
        · intro w'
          go_simp
          with_reducible rfl
        rotate_left
        · simp only [Act.put, List.setIfInBounds_toArray, List.set_cons_zero, List.set_cons_succ, i64_w, i32_w]
          rfl
        refine pure_ (i := 6) (N := some 56) (v := ?_) (a' := ?_) #[true, true, true, true, true, true, true, false, false, false, false, false, false, false, false, false, false] rfl rfl (any_of HT_.out (by kernel_rfl)) (fun _ _ _ h => h) (Or.inl ⟨by rfl, ?_⟩) ?_ ?_
        rotate_left
        · intro w'
          go_simp
          with_reducible rfl
        rotate_left
        · simp only [Act.put, List.setIfInBounds_toArray, List.set_cons_zero, List.set_cons_succ, i64_w, i32_w]
          rfl
        refine pure_ (i := 7) (N := some 57) (v := ?_) (a' := ?_) #[true, true, true, true, true, true, true, true, false, false, false, false, false, false, false, false, false] rfl rfl (any_of HT_.out (by kernel_rfl)) (fun _ _ _ h => h) (Or.inl ⟨by rfl, ?_⟩) ?_ ?_
        rotate_left
        · intro w'
          go_simp
          with_reducible rfl
        rotate_left
        · simp only [Act.put, List.setIfInBounds_toArray, List.set_cons_zero, List.set_cons_succ, i64_w, i32_w]
          rfl
        refine take_ (i := 8) (N := some 58) (v := ?_) (a' := ?_) #[true, true, true, true, true, true, true, true, true, false, false, false, false, false, false, false, false] rfl rfl (take_ofW HT_.out HW_.out (by kernel_rfl)) (fun _ _ _ h => h) (Or.inl ⟨by rfl, ?_⟩) hHeld ?_ ?_
        rotate_left
        · rintro w' hbq
          have c_k71 := (hbq.cell (World.block_lt_of_cell? w7 _ k71)).trans k71
          go_simp
          with_reducible rfl
        rotate_left
        · simp only [Act.put, List.setIfInBounds_toArray, List.set_cons_zero, List.set_cons_succ, i64_w, i32_w]
          rfl
        refine pure_ (i := 9) (N := some 59) (v := ?_) (a' := ?_) #[true, true, true, true, true, true, true, true, true, true, false, false, false, false, false, false, false] rfl rfl (any_of HT_.out (by kernel_rfl)) (fun _ _ _ h => h) (Or.inl ⟨by rfl, ?_⟩) ?_ ?_
        rotate_left
        · intro w'
          go_simp
          with_reducible rfl
        rotate_left
        · simp only [Act.put, List.setIfInBounds_toArray, List.set_cons_zero, List.set_cons_succ, i64_w, i32_w]
          rfl
        refine pure_ (i := 10) (N := some 60) (v := ?_) (a' := ?_) #[true, true, true, true, true, true, true, true, true, true, true, false, false, false, false, false, false] rfl rfl (any_of HT_.out (by kernel_rfl)) (fun _ _ _ h => h) (Or.inl ⟨by rfl, ?_⟩) ?_ ?_
        rotate_left
        · intro w'
          go_simp
          with_reducible rfl
        rotate_left
        · simp only [Act.put, List.setIfInBounds_toArray, List.set_cons_zero, List.set_cons_succ, i64_w, i32_w]
          rfl
        refine pure_ (i := 11) (N := some 61) (v := ?_) (a' := ?_) #[true, true, true, true, true, true, true, true, true, true, true, true, false, false, false, false, false] rfl rfl (any_of HT_.out (by kernel_rfl)) (fun _ _ _ h => h) (Or.inl ⟨by rfl, ?_⟩) ?_ ?_
        rotate_left
        · intro w'
          go_simp
          with_reducible rfl
        rotate_left
        · simp only [Act.put, List.setIfInBounds_toArray, List.set_cons_zero, List.set_cons_succ, i64_w, i32_w]
          rfl
        refine take_ (i := 12) (N := some 62) (v := ?_) (a' := ?_) #[true, true, true, true, true, true, true, true, true, true, true, true, true, false, false, false, false] rfl rfl (take_ofW HT_.out HW_.out (by kernel_rfl)) (fun _ _ _ h => h) (Or.inl ⟨by rfl, ?_⟩) hHeld ?_ ?_
        rotate_left
        · rintro w' hbq
          have c_k71 := (hbq.cell (World.block_lt_of_cell? w7 _ k71)).trans k71
          go_simp
          with_reducible rfl
        rotate_left
        · simp only [Act.put, List.setIfInBounds_toArray, List.set_cons_zero, List.set_cons_succ, i64_w, i32_w]
          rfl
        refine pure_ (i := 13) (N := some 63) (v := ?_) (a' := ?_) #[true, true, true, true, true, true, true, true, true, true, true, true, true, true, false, false, false] rfl rfl (any_of HT_.out (by kernel_rfl)) (fun _ _ _ h => h) (Or.inl ⟨by rfl, ?_⟩) ?_ ?_
        rotate_left
        · intro w'
          have hcut := HCUT.out w'
          go_simp
          with_reducible rfl
        rotate_left
        · simp only [Act.put, List.setIfInBounds_toArray, List.set_cons_zero, List.set_cons_succ, i64_w, i32_w]
          rfl
        refine pure_ (i := 14) (N := some 64) (v := ?_) (a' := ?_) #[true, true, true, true, true, true, true, true, true, true, true, true, true, true, true, false, false] rfl rfl (any_of HT_.out (by kernel_rfl)) (fun _ _ _ h => h) (Or.inl ⟨by rfl, ?_⟩) ?_ ?_
        rotate_left
        · intro w'
          go_simp
          with_reducible rfl
        rotate_left
        · simp only [Act.put, List.setIfInBounds_toArray, List.set_cons_zero, List.set_cons_succ, i64_w, i32_w]
          rfl
        refine pure_ (i := 15) (N := some 65) (v := ?_) (a' := ?_) #[true, true, true, true, true, true, true, true, true, true, true, true, true, true, true, true, false] rfl rfl (any_of HT_.out (by kernel_rfl)) (fun _ _ _ h => h) (Or.inl ⟨by rfl, ?_⟩) ?_ ?_
        rotate_left
        · intro w'
          go_simp
          with_reducible rfl
        rotate_left
        · simp only [Act.put, List.setIfInBounds_toArray, List.set_cons_zero, List.set_cons_succ, i64_w, i32_w]
          rfl
        refine last_ (i := 16) (N := none) #[true, true, true, true, true, true, true, true, true, true, true, true, true, true, true, true, true] rfl rfl (one_of HT_.out (by kernel_rfl)) (by decide) (fun K hK => ?_)
        have hd8 := blk_below B7.out hHeld
        have hc8 : wd.cell? ⟨V p.1, 0, none⟩ = some (.slice A p.2.b.length c) := (blk_cell hd8 0).trans rfl
        have hz8 := blk_frozen hd8 0
        have HD8 := Aside0.mk hd8
        have HH8 := Aside0.mk hHeld
        clear hd8 hHeld
        refine skip_ (w1 := ?_) (by rfl) rfl ?_ ?_
        rotate_left
        · go_simp
          rfl
        refine hK.out _ _ ?_
        clear hK K hc8 hz8
        refine done_ (done_of HT_.out (by kernel_rfl)) ?_
        go_wp2
        go_roundw
        case rel =>
          have hb9 := blk_put (cs' := #[.slice A k k, .int .i64 (p.2.safe)]) HD8.out 0 (.slice A k k) rfl
          have hc9 := ((C7.out.trans (Chg.of_below (fun k => k = V p.1) HH8.out) (fun _ h => .inl h)).trans (Chg.set wd ⟨V p.1, 0, none⟩ (.slice A k k)) (fun _ h => .inl h))
          obtain ⟨d1, d2⟩ := HD2.out.crash1 (k := k) HR.out HP.out (HKK.out.trans HKS.out) HKL.out F1.out F2.out F3.out hc9 (by rw [HKS.out] at hb9; exact hb9)
          exact ⟨i + 1, by omega, by go_num, ⟨d1⟩, ⟨HC2.out.trans d2.1 (fun _ h => .inl h)⟩⟩
        case measure => simp [intOf]; omega
    · obtain rfl : i = S.files.length := by omega
      go_wp2
      (first | go_end0 | ((try simp only [Exit.inBlock, Exit.then]); refine bodyPost_ret (results_none rfl _ _ _) rfl ?_))
      exact ⟨rfl, ⟨gm, n, V, Af, cf, Ap, cp, HD2.out, HN.out⟩, (Step.of_below HB1.out).trans ⟨HC2.out, fun _ _ h => h⟩⟩
end Go.Proofs.Yteibdmpjlpcgbaa.XDisk
