/- linear.Fits. -/
import Derived.Test.YtjieagpfnnbiiaaBHLin3
namespace Go.Proofs.Ytjieagpfnnbiiaa.XLin
open Go Go.RowKit Go.Proofs.YtjieagpfnnbiiaaW.PrintWords Go.Proofs.YtjieagpfnnbiiaaW.PrintLast Go.Proofs.YtjieagpfnnbiiaaW.PrintMore
open Go.Proofs.Ytjieagpfnnbiiaa
set_option linter.unusedVariables false
set_option linter.unusedSimpArgs false
def r9_15.T : Bool × List (List Nat × List Nat) := (true, [([], []), ([], []), ([0, 1], [0, 1]), ([2], [2]), ([], []), ([], []), ([4, 5], [4, 5]), ([6], [6]), ([3, 7], [3, 7])])
def r9_15.B : List Nat := [0, 0, 3, 7, 0, 0, 48, 112, 255]
theorem r9_15.tab : rtab .any (opsOf Try.f9 15) = r9_15.T := by kernel_rfl
theorem r9_15.bits : waitsOk r9_15.T.2 r9_15.B = true := by kernel_rfl
def FitsRel (w : World) (order : List Int) (l : List S36) (nb gm : Nat) (r : Bool) (v8 v9 v24 : Value) (wr : World) : Prop :=
  ∃ (i : Nat) (m : List S25) (Am : Option Addr) (n cm : Nat), i ≤ order.length ∧ v8 = .slice Am n cm ∧ v9 = .bool true ∧ v24 = .int .i64 (i : Int) ∧ Aside0 (n = m.length) ∧ Aside0 (fitsFrom l (order.take i) m (order.drop i) = r) ∧ Aside0 (∀ k ∈ order.take i, 0 ≤ k ∧ k < (l.length : Int)) ∧ Aside0 (HIntMap.Owns m60 wr gm i (fun k => if k ∈ order.take i then some 1 else none)) ∧ Aside0 (Kd.F k25 wr (fun k => k ≠ gm) Am n m) ∧ Aside0 (n ≤ cm) ∧ Aside0 (n ≤ nb + i * 1000) ∧ Aside0 (Below w.heap.size w wr)
theorem int_wf {x : Int} (h0 : -9223372036854775808 ≤ x) (h1 : x ≤ 9223372036854775807) : (Lit.int .i64 x).wf = true := by
  have := wrap64_wf x
  rwa [w64' h0 h1] at this
theorem then28n {P : Nat → Prop} {A : Option Addr} {c : Nat} {m : List S25} {n : Nat} {A1 : Option Addr} {c1 : Nat} {A9 : Option Addr} {c9 : Nat} {x : S36} {w : World} {m2 : List S25} {okb : Bool} (hn : n = m.length) (hth : thenP m x = (m2, okb)) (hm : Kd.F k25 w P A n m) (hc : n ≤ c) (hx : DoneIn w A1 c1 A9 c9 x) (hs : n + opsN x ≤ 4398046511000) :
    Calls Try.prog 28 #[.slice A n c, doneV A1 c1 A9 c9 x] w fun e w' => ∃ A' c', e = .returned (.tuple #[.slice A' m2.length c', .bool okb]) ∧ Kd.F k25 w' (fun k => P k ∨ w.heap.size ≤ k) A' m2.length m2 ∧ m2.length ≤ c' ∧ Below w.heap.size w w' := by
  subst hn
  have h := then28 P A c m A1 c1 A9 c9 x w hm hc hx hs
  rw [hth] at h
  exact h
set_option maxHeartbeats 8000000 in
set_option maxRecDepth 100000 in
theorem fits9 (A : Option Addr) (c : Nat) (base : List S25) (L : Option Addr) (cl : Nat) (l : List S36) (O : Option Addr) (co : Nat) (order : List Int) (w : World) (hm : Kd.C k25 w A base.length base) (hmc : base.length ≤ c) (hl : Kd.C k36 w L l.length l) (hlc : l.length ≤ cl) (ho : Kd.C (Kd.int .i64) w O order.length order) (hoc : order.length ≤ co) (hb0 : base.length ≤ 1000000) (hl0 : l.length ≤ 1000000) (ho0 : order.length ≤ 1000000) (hsm : ∀ x ∈ l, opsN x ≤ 1000) :
    Calls Try.prog 9 #[.slice A base.length c, .slice L l.length cl, .slice O order.length co] w fun e w' => e = .returned (.bool (fitsP base l order)) ∧ Below w.heap.size w w' := by
  have HO := Aside0.mk ho
  have HOC := Aside0.mk hoc
  have HL := Aside0.mk hl
  have HLC := Aside0.mk hlc
  have HM0 := Aside0.mk hm
  have HMC := Aside0.mk hmc
  have HSM := Aside0.mk hsm
  have hol : order.length ≤ 9223372036854775807 := ho.2.1
  have hll : l.length ≤ 9223372036854775807 := hl.2.1
  clear ho hoc hl hlc hm hmc hsm
  obtain ⟨r, hr⟩ : ∃ r, fitsP base l order = r := ⟨_, rfl⟩
  rw [hr]
  have HR := Aside0.mk hr
  clear hr
  have hmm := @run_makeMap Try.prog
  go_enter Try.func9, Try.ntmps9
  go_upto_region 4 with (fail)
  clear hmm
  have HOW := Aside0.mk (HIntMap.owns_made m60 w)
  have HB := Aside0.mk (below_alloc (Below.refl w.heap.size w) (.map #[] 0))
  obtain ⟨gm, hgm⟩ : ∃ gm, gm = w.heap.size := ⟨_, rfl⟩
  rw [← hgm] at HOW ⊢
  have HGM : Aside0 (w.heap.size ≤ gm) := ⟨Nat.le_of_eq hgm.symm⟩
  have HM : Aside0 (Kd.F k25 (w.alloc (.map #[] 0)) (fun k => k ≠ gm) A base.length base) := ⟨Kd.F_mono (arg_F25 HM0.out HB.out) (fun k hk => by rw [hgm]; exact Nat.ne_of_lt hk)⟩
  clear hgm
  generalize w.alloc (.map #[] 0) = w1 at HOW HB HM ⊢
  go_loopw [8, 9, 24] (fun v8 v9 v24 wr => FitsRel w order l base.length gm r v8 v9 v24 wr) (fun v8 v9 v24 _ => order.length - (intOf v24).toNat)
  case atStart => exact ⟨0, base, A, _, c, Nat.zero_le _, rfl, rfl, rfl, ⟨rfl⟩, ⟨by rw [List.take_zero, List.drop_zero]; exact HR.out⟩, ⟨fun k hk => by cases hk⟩, ⟨by rw [List.take_zero]; exact HOW.out⟩, HM, HMC, ⟨by omega⟩, HB⟩
  case round =>
    clear HOW HB HM
    obtain ⟨i, m, Am, n, cm, hi, rfl, rfl, rfl, HN, HEQ, HPV, HOW, HM, HMC2, HNL, HB⟩ := hrel
    rename World => wr
    by_cases hlt : i < order.length
    · obtain ⟨ao, cs, hao, _, hKv, hcell⟩ := Kd.C_get HO.out 0 (i : Int) (by omega) (by omega)
      rw [Int.toNat_natCast] at hKv hcell
      obtain rfl := hKv
      have y0 := (HB.out.cell (World.block_lt_of_cell? w _ (hcell 0 _ rfl))).trans (hcell 0 _ rfl)
      have hys : (Kd.int IntKind.i64).sz = 1 := rfl
      rw [hys, Nat.mul_one, Nat.add_zero] at y0
      clear hcell hys
      subst hao
      have heq := HEQ.out
      rw [List.drop_eq_getElem_cons hlt] at heq
      have hgd : order.getD i 0 = order[i] := by rw [List.getD_eq_getElem?_getD, List.getElem?_eq_getElem hlt]; rfl
      rw [hgd] at y0
      have hts := take_snoc hlt
      obtain ⟨q, hq⟩ : ∃ q, order[i] = q := ⟨_, rfl⟩
      rw [hq] at y0 heq hts
      have HEQ2 := Aside0.mk heq
      have HTS := Aside0.mk hts
      clear heq hgd hq hts HEQ
      by_cases hq0 : q < 0
      · have HF : Aside0 (r = false) := ⟨by rw [← HEQ2.out]; show fitsFrom l _ m (q :: _) = false; unfold fitsFrom; rw [if_pos (.inl hq0)]⟩
        go_wp2
        go_ret
        exact ⟨by rw [HF.out]; rfl, HB.out⟩
      by_cases hq1 : (l.length : Int) ≤ q
      · have hq2 : q ≥ (l.length : Int) := hq1
        have HF : Aside0 (r = false) := ⟨by rw [← HEQ2.out]; show fitsFrom l _ m (q :: _) = false; unfold fitsFrom; rw [if_pos (.inr hq1)]⟩
        go_wp2
        go_ret
        exact ⟨by rw [HF.out]; rfl, HB.out⟩
      obtain ⟨k, hk⟩ : ∃ k : Nat, q = (k : Int) := ⟨q.toNat, by omega⟩
      subst hk
      have hkl : k < l.length := by omega
      have HEQ3 := HEQ2.out
      unfold fitsFrom at HEQ3
      rw [if_neg (by omega), Int.toNat_natCast] at HEQ3
      have HEQ2 := Aside0.mk HEQ3
      clear HEQ3
      obtain ⟨ad, A1, c1, A9, c9, e0, hcl, hdi⟩ := at36 HL.out k hkl
      subst e0
      have hxm : l.getD k z36 ∈ l := by rw [List.getD_eq_getElem?_getD, List.getElem?_eq_getElem hkl]; exact List.getElem_mem hkl
      obtain ⟨x, hx⟩ : ∃ x, l.getD k z36 = x := ⟨_, rfl⟩
      rw [hx] at hcl hdi hxm HEQ2
      have HX := Aside0.mk hx
      have HCL := Aside0.mk hcl
      have HDI := Aside0.mk hdi
      have HXM := Aside0.mk hxm
      clear hcl hdi hxm hx
      have hwf : (Lit.int .i64 (k : Int)).wf = true := int_wf (by omega) (by omega)
      obtain ⟨pre, hpre⟩ : ∃ pre, order.take i = pre := ⟨_, rfl⟩
      rw [hpre] at HOW HPV HEQ2 HTS
      have HPRE := Aside0.mk hpre
      clear hpre
      obtain ⟨z, hz⟩ : ∃ z : Int, (if (k : Int) ∈ pre then some (1 : Int) else none).getD 0 = z := ⟨_, rfl⟩
      have HZ := Aside0.mk hz
      have hz01 : z = 0 ∨ z = 1 := by rw [← hz]; split; (· exact .inr rfl); (· exact .inl rfl)
      clear hz
      obtain ⟨z1, hz1⟩ : ∃ z1 : Int, z + 1 = z1 := ⟨_, rfl⟩
      have hwz : (Lit.int .i64 z1).wf = true := int_wf (by omega) (by omega)
      have HWZ := Aside0.mk hwz
      have HWF := Aside0.mk hwf
      have HIM : Aside0 (i < maxLen) := ⟨by unfold maxLen; omega⟩
      clear hwz hwf
      go_upto_region 9 with (first | (at_lookup; (with_reducible refine HIntMap.wp_look m60 _ rfl (.tmp 37) (.tmp 38) rfl gm _ _ ?h1 HOW.out _ ?h2 HWF.out ?_); (case h1 => rfl); (case h2 => rfl); rw [HZ.out]) | (at_mapUpdate; (with_reducible refine HIntMap.wp_store m60 _ rfl (.tmp 37) (.tmp 38) (.tmp 40) rfl gm _ _ ?g1 HOW.out HIM.out _ z1 ?g3 ?g4 HWF.out HWZ.out ?_); (case g1 => rfl); (case g3 => rfl); (case g4 => rfl); intro w9 ho9 hg9; have n_HB := Aside0.mk (pw_below_grown HB.out _ (below_size HB.out) hg9 (fun k e => by cases e; exact HGM.out)); have n_HM := Aside0.mk (Kd.F_grown HM.out hg9 (fun k hk e => hk (Option.some.inj e))); clear HB HM HOW; have HB := n_HB; have HM := n_HM; have HOW := Aside0.mk ho9; clear n_HB n_HM ho9 hg9))
      clear y0
      obtain ⟨x0, x1, x2, x3, x4, x5, x6, x7, x8, x9⟩ := HCL.out.below HB.out
      obtain ⟨mu, hmu⟩ : ∃ mu, mustP x = mu := ⟨_, rfl⟩
      obtain ⟨my, hmy⟩ : ∃ my, mayP x = my := ⟨_, rfl⟩
      have HMUST := Aside0.mk hmu
      have HMAY := Aside0.mk hmy
      rw [hmy] at HEQ2
      clear hmu hmy
      go_upto_region 10 with (first | (go_at_call 26; refine (counts26 A1 c1 A9 c9 x _ (HDI.out.below HB.out)).mono ?_; rw [HMAY.out, HMUST.out]; rintro e w5 ⟨rfl, hb⟩; have n_HM := Aside0.mk (Kd.F_below HM.out hb); have n_HOW := Aside0.mk (owns_move HOW.out (hb.block gm (HIntMap.owns_lt HOW.out))); have n_HB := Aside0.mk (below_step HB.out hb); clear HM HOW HB; have HM := n_HM; have HOW := n_HOW; have HB := n_HB; clear n_HM n_HOW n_HB; clear hb))
      clear x0 x1 x2 x3 x4 x5 x6 x7 x8 x9
      obtain ⟨f, hf⟩ : ∃ f : Int → Option Int, (fun y => if y = (k : Int) then some z1 else (fun k => if k ∈ pre then some (1 : Int) else none) y) = f := ⟨_, rfl⟩
      have HOW2 := HOW.out
      rw [hf] at HOW2
      clear HOW
      have HOW := Aside0.mk HOW2
      clear HOW2
      have HFK : Aside0 ((f (k : Int)).getD 0 = z1) := ⟨by rw [← hf]; show (if (k : Int) = (k : Int) then some z1 else _).getD 0 = z1; rw [if_pos rfl]; rfl⟩
      have HFE : Aside0 (z1 = 1 → ∀ y, f y = if y ∈ pre ++ [(k : Int)] then some 1 else none) := ⟨fun h y => by
        rw [← hf]
        show (if y = (k : Int) then some z1 else if y ∈ pre then some (1 : Int) else none) = _
        by_cases e : y = (k : Int)
        · rw [if_pos e, h, if_pos (List.mem_append_right _ (by rw [e]; exact List.mem_singleton_self _))]
        · rw [if_neg e]
          by_cases e2 : y ∈ pre
          · rw [if_pos e2, if_pos (List.mem_append_left _ e2)]
          · rw [if_neg e2, if_neg (fun h => (List.mem_append.1 h).elim e2 (fun h => e (List.mem_singleton.1 h)))]⟩
      clear hf
      cases my with
      | false =>
        have HF : Aside0 (r = false) := ⟨by have h := HEQ2.out; rw [if_pos rfl] at h; exact h.symm⟩
        go_wp2
        go_ret
        exact ⟨by rw [HF.out]; rfl, HB.out⟩
      | true =>
        by_cases hin : (k : Int) ∈ pre
        · have hz2 : z1 = 2 := by have h := HZ.out; rw [if_pos hin] at h; have h2 : (1 : Int) = z := h; omega
          have HF : Aside0 (r = false) := ⟨by have h := HEQ2.out; rw [if_neg (by decide), if_pos hin] at h; exact h.symm⟩
          subst hz2
          clear hz01 hz1
          have hlk := int_look m60 HOW.out HWF.out
          rw [HFK.out] at hlk
          go_wp2
          go_ret
          exact ⟨by rw [HF.out]; rfl, HB.out⟩
        have hz2 : z1 = 1 := by have h := HZ.out; rw [if_neg hin] at h; have h2 : (0 : Int) = z := h; omega
        have hfe := HFE.out hz2
        have HFE2 := Aside0.mk hfe
        have HEQ3 := HEQ2.out
        rw [if_neg (by decide), if_neg hin] at HEQ3
        clear HEQ2 hfe HFE
        have HEQ2 := Aside0.mk HEQ3
        clear HEQ3 hin hz01 hz1
        subst hz2
        obtain ⟨i3, hi3, _⟩ := Option.map_eq_some_iff.1 (show (Try.prog.info? 3).map (fun i => i.size) = some 1 by kernel_rfl)
        have hcut := cut_to (P := Try.prog) 38 3 .i64 Try.underlying38 hi3 (some ao) order.length co (i : Int) (by omega) (by omega) HOC.out
        rw [Int.toNat_natCast] at hcut
        clear hi3
        have hlk := int_look m60 HOW.out HWF.out
        rw [HFK.out] at hlk
        go_upto_region 13 with (fail)
        clear hcut hlk
        rename World => wi
        go_loopw [61] (fun v61 wx => ∃ j : Nat, j ≤ i ∧ v61 = .int .i64 (j : Int) ∧ Aside0 ((pre.take j).any (fun k2 => aheadP x (l.getD k2.toNat z36)) = false) ∧ Aside0 (Below wi.heap.size wi wx)) (fun v61 _ => i - (intOf v61).toNat)
        case atStart => exact ⟨0, Nat.zero_le _, rfl, ⟨by rw [List.take_zero]; rfl⟩, ⟨Below.refl _ _⟩⟩
        case round =>
          obtain ⟨j, hj, rfl, HAN, HBJ⟩ := hrel
          rename World => wj
          by_cases hltj : j < i
          · have hjo : j < order.length := by omega
            have hb := HBJ.out
            have n_HM := Aside0.mk (Kd.F_below HM.out hb); have n_HOW := Aside0.mk (owns_move HOW.out (hb.block gm (HIntMap.owns_lt HOW.out))); have n_HB := Aside0.mk (below_step HB.out hb); clear HM HOW HB; have HM := n_HM; have HOW := n_HOW; have HB := n_HB; clear n_HM n_HOW n_HB
            clear hb
            obtain ⟨ao2, cs, hao, _, hKv, hcell⟩ := Kd.C_get HO.out 0 (j : Int) (by omega) (by omega)
            obtain rfl := Option.some.inj hao
            rw [Int.toNat_natCast] at hKv hcell
            obtain rfl := hKv
            have y0 := (HB.out.cell (World.block_lt_of_cell? w _ (hcell 0 _ rfl))).trans (hcell 0 _ rfl)
            have hys : (Kd.int IntKind.i64).sz = 1 := rfl
            rw [hys, Nat.mul_one, Nat.add_zero] at y0
            clear hcell hys hao
            have hpj : pre[j]? = some (order.getD j 0) := by rw [← HPRE.out, List.getElem?_take_of_lt hltj, List.getElem?_eq_getElem hjo, List.getD_eq_getElem?_getD, List.getElem?_eq_getElem hjo]; rfl
            obtain ⟨q2, hq2⟩ : ∃ q2, order.getD j 0 = q2 := ⟨_, rfl⟩
            rw [hq2] at y0 hpj
            clear hq2
            have hpv := HPV.out q2 (List.mem_of_getElem? hpj)
            obtain ⟨k2, hk2⟩ : ∃ k2 : Nat, q2 = (k2 : Int) := ⟨q2.toNat, by omega⟩
            subst hk2
            have hkl2 : k2 < l.length := by omega
            clear hpv
            have hts2 : (pre.take (j + 1)).any (fun k2 => aheadP x (l.getD k2.toNat z36)) = aheadP x (l.getD k2 z36) := by
              obtain ⟨hjl, hje⟩ := List.getElem?_eq_some_iff.1 hpj
              rw [List.take_succ_eq_append_getElem hjl, List.any_append, HAN.out, hje]
              simp
            have hmem : aheadP x (l.getD k2 z36) = true → pre.any (fun k2 => aheadP x (l.getD k2.toNat z36)) = true := fun h => List.any_eq_true.2 ⟨_, List.mem_of_getElem? hpj, by rw [Int.toNat_natCast]; exact h⟩
            obtain ⟨ad2, B1, d1, B9, d9, e0, hcl2, hdi2⟩ := at36 HL.out k2 hkl2
            obtain rfl := Option.some.inj e0
            obtain ⟨y, hy⟩ : ∃ y, l.getD k2 z36 = y := ⟨_, rfl⟩
            rw [hy] at hcl2 hdi2 hts2 hmem
            have HCL2 := Aside0.mk hcl2
            have HDI2 := Aside0.mk hdi2
            clear hcl2 hdi2 hy e0 hpj
            obtain ⟨ah, hah⟩ : ∃ ah, aheadP x y = ah := ⟨_, rfl⟩
            rw [hah] at hts2 hmem
            have HAH := Aside0.mk hah
            have HTS2 := Aside0.mk hts2
            have HMEM := Aside0.mk hmem
            clear hah hts2 hmem HAN
            have hkl' : (k : Int) < (l.length : Int) := by omega
            have hkl2' : (k2 : Int) < (l.length : Int) := by omega
            go_upto_region 15 with (fail)
            clear y0
            refine start_ (n := 9) (S := fun w' => Below wj.heap.size wj w') (ds := []) #[false, false, false, false, false, false, false, false, false] (by kernel_rfl) rfl rfl (below_drew (Below.refl _ _)) (fun hHeld => ?_)
            refine with_tabW r9_15.tab r9_15.bits (fun HT_ HW_ => ?_)
            generalize wj.drew = wd at hHeld ⊢
            refine pure_ (i := 0) (N := some 65) (v := ?_) (a' := ?_) #[true, false, false, false, false, false, false, false, false] rfl rfl (any_of HT_.out (by kernel_rfl)) (fun _ _ _ h => h) (Or.inl ⟨by rfl, ?_⟩) ?_ ?_
            rotate_left
            · intro w'
              go_simp
              with_reducible rfl
            rotate_left
            · simp only [Act.put, List.setIfInBounds_toArray, List.set_cons_zero, List.set_cons_succ, i64_w, i32_w]
              rfl
            refine pure_ (i := 1) (N := some 66) (v := ?_) (a' := ?_) #[true, true, false, false, false, false, false, false, false] rfl rfl (any_of HT_.out (by kernel_rfl)) (fun _ _ _ h => h) (Or.inl ⟨by rfl, ?_⟩) ?_ ?_
            rotate_left
            · intro w'
              go_simp
              with_reducible rfl
            rotate_left
            · simp only [Act.put, List.setIfInBounds_toArray, List.set_cons_zero, List.set_cons_succ, i64_w, i32_w]
              rfl
            refine pure_ (i := 2) (N := some 67) (v := ?_) (a' := ?_) #[true, true, true, false, false, false, false, false, false] rfl rfl (any_of HT_.out (by kernel_rfl)) (fun _ _ _ h => h) (Or.inl ⟨by rfl, ?_⟩) ?_ ?_
            rotate_left
            · intro w'
              go_simp
              with_reducible rfl
            rotate_left
            · simp only [Act.put, List.setIfInBounds_toArray, List.set_cons_zero, List.set_cons_succ, i64_w, i32_w]
              rfl
            refine take_ (i := 3) (N := some 68) (v := ?_) (a' := ?_) #[true, true, true, true, false, false, false, false, false] rfl rfl (take_ofW HT_.out HW_.out (by kernel_rfl)) (fun _ _ _ h => h) (Or.inl ⟨by rfl, ?_⟩) hHeld ?_ ?_
            rotate_left
            · rintro w' hbq
              have hq9 := HCL.out.below (below_step HB.out hbq)
              have x0 := hq9.x0
              have x1 := hq9.x1
              have x2 := hq9.x2
              have x3 := hq9.x3
              have x4 := hq9.x4
              have x5 := hq9.x5
              have x6 := hq9.x6
              have x7 := hq9.x7
              have x8 := hq9.x8
              have x9 := hq9.x9
              go_simp
              with_reducible rfl
            rotate_left
            · simp only [Act.put, List.setIfInBounds_toArray, List.set_cons_zero, List.set_cons_succ, i64_w, i32_w]
              rfl
            refine pure_ (i := 4) (N := some 69) (v := ?_) (a' := ?_) #[true, true, true, true, true, false, false, false, false] rfl rfl (any_of HT_.out (by kernel_rfl)) (fun _ _ _ h => h) (Or.inl ⟨by rfl, ?_⟩) ?_ ?_
            rotate_left
            · intro w'
              go_simp
              with_reducible rfl
            rotate_left
            · simp only [Act.put, List.setIfInBounds_toArray, List.set_cons_zero, List.set_cons_succ, i64_w, i32_w]
              rfl
            refine pure_ (i := 5) (N := some 70) (v := ?_) (a' := ?_) #[true, true, true, true, true, true, false, false, false] rfl rfl (any_of HT_.out (by kernel_rfl)) (fun _ _ _ h => h) (Or.inl ⟨by rfl, ?_⟩) ?_ ?_
            rotate_left
            · intro w'
              go_simp
              with_reducible rfl
            rotate_left
            · simp only [Act.put, List.setIfInBounds_toArray, List.set_cons_zero, List.set_cons_succ, i64_w, i32_w]
              rfl
            refine pure_ (i := 6) (N := some 71) (v := ?_) (a' := ?_) #[true, true, true, true, true, true, true, false, false] rfl rfl (any_of HT_.out (by kernel_rfl)) (fun _ _ _ h => h) (Or.inl ⟨by rfl, ?_⟩) ?_ ?_
            rotate_left
            · intro w'
              go_simp
              with_reducible rfl
            rotate_left
            · simp only [Act.put, List.setIfInBounds_toArray, List.set_cons_zero, List.set_cons_succ, i64_w, i32_w]
              rfl
            refine take_ (i := 7) (N := some 72) (v := ?_) (a' := ?_) #[true, true, true, true, true, true, true, true, false] rfl rfl (take_ofW HT_.out HW_.out (by kernel_rfl)) (fun _ _ _ h => h) (Or.inl ⟨by rfl, ?_⟩) hHeld ?_ ?_
            rotate_left
            · rintro w' hbq
              have hq9 := HCL2.out.below (below_step HB.out hbq)
              have x0 := hq9.x0
              have x1 := hq9.x1
              have x2 := hq9.x2
              have x3 := hq9.x3
              have x4 := hq9.x4
              have x5 := hq9.x5
              have x6 := hq9.x6
              have x7 := hq9.x7
              have x8 := hq9.x8
              have x9 := hq9.x9
              go_simp
              with_reducible rfl
            rotate_left
            · simp only [Act.put, List.setIfInBounds_toArray, List.set_cons_zero, List.set_cons_succ, i64_w, i32_w]
              rfl
            refine one_ (i := 8) (N := some 73) #[true, true, true, true, true, true, true, true, true] rfl rfl (one_of HT_.out (by kernel_rfl)) (by decide) (fun K hK => ?_)
            refine goes_ Try.func27 (by kernel_rfl) rfl #[doneV A1 c1 A9 c9 x, doneV B1 d1 B9 d9 y] (by rfl) rfl rfl (by first | done | rfl | (simp only [List.map_toArray, List.map_cons, List.map_nil]; rfl)) ?_
            refine (ahead27 A1 c1 A9 c9 x B1 d1 B9 d9 y wd (HDI.out.below (below_step HB.out hHeld)) (HDI2.out.below (below_step HB.out hHeld))).mono ?_
            rw [HAH.out]
            rintro e0 w6 ⟨rfl, hb⟩
            refine ⟨_, rfl, ?_⟩
            have hx := below_step hHeld hb
            refine hK.out _ _ hx (fun hHeld => ?_)
            have HH6 := Aside0.mk hx
            clear hK K hx hb hHeld
            refine norm_ (a' := ?_) ?_ ?_
            rotate_left
            · show Act.put _ (some 73) _ = _
              simp only [Act.put, List.setIfInBounds_toArray, List.set_cons_zero, List.set_cons_succ, i64_w, i32_w]
              rfl
            refine done_ (done_of HT_.out (by kernel_rfl)) ?_
            cases ah with
            | true =>
              have HF : Aside0 (r = false) := ⟨by have h := HEQ2.out; rw [if_pos (HMEM.out rfl)] at h; exact h.symm⟩
              go_wp2
              go_ret
              exact ⟨by rw [HF.out]; rfl, below_step HB.out HH6.out⟩
            | false =>
              go_wp2
              go_roundw
              case rel => exact ⟨j + 1, by omega, by go_num, HTS2, ⟨below_step HBJ.out HH6.out⟩⟩
              case measure => simp [intOf]; omega
          · obtain rfl : j = i := by omega
            have hb := HBJ.out
            have n_HM := Aside0.mk (Kd.F_below HM.out hb); have n_HOW := Aside0.mk (owns_move HOW.out (hb.block gm (HIntMap.owns_lt HOW.out))); have n_HB := Aside0.mk (below_step HB.out hb); clear HM HOW HB; have HM := n_HM; have HOW := n_HOW; have HB := n_HB; clear n_HM n_HOW n_HB
            clear hb HBJ
            have hpl : pre.length = j := by rw [← HPRE.out, List.length_take]; omega
            have han := HAN.out
            rw [List.take_of_length_le (by omega)] at han
            have HEQ3 := HEQ2.out
            rw [if_neg (by rw [han]; decide)] at HEQ3
            clear HEQ2 han HAN
            have HEQ2 := Aside0.mk HEQ3
            clear HEQ3 hltj hj
            obtain ⟨⟨m2, okb⟩, hth⟩ : ∃ t, thenP m x = t := ⟨_, rfl⟩
            have HTH := Aside0.mk hth
            have hml := thenP_len m x
            rw [hth] at hml HEQ2
            have hxo := HSM.out x HXM.out
            have hnl := HNL.out
            dsimp only at hml HEQ2
            have hml3 : m2.length ≤ n + opsN x := by have := HN.out; omega
            clear hth hml
            obtain ⟨x0, x1, x2, x3, x4, x5, x6, x7, x8, x9⟩ := HCL.out.below HB.out
            have hkl' : (k : Int) < (l.length : Int) := by omega
            go_upto_region 19 with (first | (go_at_call 28; refine (then28n (P := fun k => k ≠ gm) HN.out HTH.out HM.out HMC2.out (HDI.out.below HB.out) (by omega)).mono ?_; rintro e w5 ⟨A8, c8, rfl, hF, hle, hb⟩; have n_HM := Aside0.mk (Kd.F_mono hF (ok' := fun k => k ≠ gm) (fun k hk => hk.elim id (fun h e => by have h2 := HIntMap.owns_lt HOW.out; omega))); have HLE := Aside0.mk hle; have n_HM := Aside0.mk (Kd.F_below HM.out hb); have n_HOW := Aside0.mk (owns_move HOW.out (hb.block gm (HIntMap.owns_lt HOW.out))); have n_HB := Aside0.mk (below_step HB.out hb); clear HM HOW HB; have HM := n_HM; have HOW := n_HOW; have HB := n_HB; clear n_HM n_HOW n_HB; clear HM; have HM := n_HM; clear n_HM hF hle hb))
            clear x0 x1 x2 x3 x4 x5 x6 x7 x8 x9
            cases okb with
            | false =>
              have HF : Aside0 (r = false) := ⟨by have h := HEQ2.out; rw [if_pos rfl] at h; exact h.symm⟩
              go_wp2
              go_ret
              exact ⟨by rw [HF.out]; rfl, HB.out⟩
            | true =>
              obtain ⟨n2, hn2⟩ : ∃ n2, m2.length = n2 := ⟨_, rfl⟩
              have HN2 := Aside0.mk hn2.symm
              have hml2 : n2 ≤ base.length + (j + 1) * 1000 := by omega
              rw [hn2] at HM HLE ⊢
              clear hn2 hml3
              go_wp2
              go_roundw
              case rel => exact ⟨j + 1, m2, A8, n2, c8, by omega, rfl, rfl, by go_num, HN2, ⟨by have h := HEQ2.out; rw [if_neg (by decide)] at h; rw [HTS.out]; exact h⟩, ⟨fun q hq => by rw [HTS.out] at hq; rcases List.mem_append.1 hq with h | h; (· exact HPV.out q h); (· obtain rfl := List.mem_singleton.1 h; omega)⟩, ⟨by have h := HOW.out; rw [show f = (fun k => if k ∈ order.take (j + 1) then some 1 else none) from funext (fun y => by rw [HTS.out]; exact HFE2.out y)] at h; exact h⟩, HM, HLE, ⟨hml2⟩, HB⟩
              case measure => simp [intOf]; omega
    · obtain rfl : i = order.length := by omega
      have heq := HEQ.out
      rw [List.drop_length, List.take_length] at heq
      unfold fitsFrom at heq
      have how := HOW.out
      rw [List.take_length] at how
      have HOW2 := Aside0.mk how
      have HRR := Aside0.mk heq
      clear heq how HEQ HPV HOW HM HMC2 HNL HN hlt hi
      have HOW := HOW2
      clear HOW2
      go_upto_region 23 with (fail)
      rename World => we
      go_loopw [89] (fun v89 wx => ∃ j : Nat, j ≤ l.length ∧ v89 = .int .i64 (j : Int) ∧ Aside0 ((List.range j).all (fun n => !(mustP (l.getD n z36)) || decide ((n : Int) ∈ order)) = true) ∧ Aside0 (Below we.heap.size we wx)) (fun v89 _ => l.length - (intOf v89).toNat)
      case atStart => exact ⟨0, Nat.zero_le _, rfl, ⟨rfl⟩, ⟨Below.refl _ _⟩⟩
      case round =>
        obtain ⟨j, hj, rfl, HAL, HBJ⟩ := hrel
        rename World => wj
        by_cases hltj : j < l.length
        · have hb := HBJ.out
          have n_HOW := Aside0.mk (owns_move HOW.out (hb.block gm (HIntMap.owns_lt HOW.out))); have n_HB := Aside0.mk (below_step HB.out hb); clear HOW HB; have HOW := n_HOW; have HB := n_HB; clear n_HOW n_HB
          clear hb
          obtain ⟨ad, A1, c1, A9, c9, e0, hcl, hdi⟩ := at36 HL.out j hltj
          subst e0
          obtain ⟨x, hx⟩ : ∃ x, l.getD j z36 = x := ⟨_, rfl⟩
          rw [hx] at hcl hdi
          have hal : (List.range (j + 1)).all (fun n => !(mustP (l.getD n z36)) || decide ((n : Int) ∈ order)) = (!(mustP x) || decide ((j : Int) ∈ order)) := by
            rw [List.range_succ, List.all_append, HAL.out, ← hx]
            simp
          have hno : (!(mustP x) || decide ((j : Int) ∈ order)) = false → (List.range l.length).all (fun n => !(mustP (l.getD n z36)) || decide ((n : Int) ∈ order)) = false := fun h => by
            rw [List.all_eq_false]
            exact ⟨j, List.mem_range.2 hltj, by rw [hx, h]; decide⟩
          have HALL := Aside0.mk hal
          have HNO := Aside0.mk hno
          have HCL := Aside0.mk hcl
          have HDI := Aside0.mk hdi
          clear hal hno hcl hdi hx HAL
          obtain ⟨mu, hmu⟩ : ∃ mu, mustP x = mu := ⟨_, rfl⟩
          obtain ⟨my, hmy⟩ : ∃ my, mayP x = my := ⟨_, rfl⟩
          rw [hmu] at HALL HNO
          have HMUST := Aside0.mk hmu
          have HMAY := Aside0.mk hmy
          clear hmu hmy
          have hltj' : (j : Int) < (l.length : Int) := by omega
          obtain ⟨x0, x1, x2, x3, x4, x5, x6, x7, x8, x9⟩ := HCL.out.below HB.out
          go_upto_region 25 with (first | ((with_reducible refine gate_dst (N := 17) rfl ?_); refine box_event ?hg (N := 17) ?hd (cs := #[.int .u8 0, .slice none 0 0, .string ByteArray.empty, .string ByteArray.empty, .int .i64 0, .int .i64 0, .int .i64 0, .int .i64 0, .int .u64 0, .slice none 0 0]) (t := 36) ?hr ?_; (case hd => rfl); (case hg => rfl); (case hr => first | (go_simp; done) | (go_simp; rfl)); intro g17 hg w3 hbox hb; have HGV := Aside0.mk (Nat.le_of_eq hg.symm); have BV := Aside0.mk hbox; have HXV := Aside0.mk hb; have z0 := (blk_cell hbox 0).trans (show _ = some (.int .u8 0) from rfl); have z1 := (blk_cell hbox 1).trans (show _ = some (.slice none 0 0) from rfl); have z2 := (blk_cell hbox 2).trans (show _ = some (.string ByteArray.empty) from rfl); have z3 := (blk_cell hbox 3).trans (show _ = some (.string ByteArray.empty) from rfl); have z4 := (blk_cell hbox 4).trans (show _ = some (.int .i64 0) from rfl); have z5 := (blk_cell hbox 5).trans (show _ = some (.int .i64 0) from rfl); have z6 := (blk_cell hbox 6).trans (show _ = some (.int .i64 0) from rfl); have z7 := (blk_cell hbox 7).trans (show _ = some (.int .i64 0) from rfl); have z8 := (blk_cell hbox 8).trans (show _ = some (.int .u64 0) from rfl); have z9 := (blk_cell hbox 9).trans (show _ = some (.slice none 0 0) from rfl); have zf := fun j => blk_frozen hbox j; clear hg hbox hb))
          clear x0 x1 x2 x3 x4 x5 x6 x7 x8 x9
          clear z0 z1 z2 z3 z4 z5 z6 z7 z8 z9 zf
          rename World => w3
          have s0 := blk_put (cs' := #[.int .u8 x.f0.f0, .slice none 0 0, .string ByteArray.empty, .string ByteArray.empty, .int .i64 0, .int .i64 0, .int .i64 0, .int .i64 0, .int .u64 0, .slice none 0 0]) BV.out 0 (.int .u8 x.f0.f0) rfl
          have s1 := blk_put (cs' := #[.int .u8 x.f0.f0, .slice A1 x.f0.f1.length c1, .string ByteArray.empty, .string ByteArray.empty, .int .i64 0, .int .i64 0, .int .i64 0, .int .i64 0, .int .u64 0, .slice none 0 0]) s0 1 (.slice A1 x.f0.f1.length c1) rfl
          have s2 := blk_put (cs' := #[.int .u8 x.f0.f0, .slice A1 x.f0.f1.length c1, .string x.f0.f2, .string ByteArray.empty, .int .i64 0, .int .i64 0, .int .i64 0, .int .i64 0, .int .u64 0, .slice none 0 0]) s1 2 (.string x.f0.f2) rfl
          have s3 := blk_put (cs' := #[.int .u8 x.f0.f0, .slice A1 x.f0.f1.length c1, .string x.f0.f2, .string x.f0.f3, .int .i64 0, .int .i64 0, .int .i64 0, .int .i64 0, .int .u64 0, .slice none 0 0]) s2 3 (.string x.f0.f3) rfl
          have s4 := blk_put (cs' := #[.int .u8 x.f0.f0, .slice A1 x.f0.f1.length c1, .string x.f0.f2, .string x.f0.f3, .int .i64 x.f0.f4, .int .i64 0, .int .i64 0, .int .i64 0, .int .u64 0, .slice none 0 0]) s3 4 (.int .i64 x.f0.f4) rfl
          have s5 := blk_put (cs' := #[.int .u8 x.f0.f0, .slice A1 x.f0.f1.length c1, .string x.f0.f2, .string x.f0.f3, .int .i64 x.f0.f4, .int .i64 x.f1, .int .i64 0, .int .i64 0, .int .u64 0, .slice none 0 0]) s4 5 (.int .i64 x.f1) rfl
          have s6 := blk_put (cs' := #[.int .u8 x.f0.f0, .slice A1 x.f0.f1.length c1, .string x.f0.f2, .string x.f0.f3, .int .i64 x.f0.f4, .int .i64 x.f1, .int .i64 x.f2, .int .i64 0, .int .u64 0, .slice none 0 0]) s5 6 (.int .i64 x.f2) rfl
          have s7 := blk_put (cs' := #[.int .u8 x.f0.f0, .slice A1 x.f0.f1.length c1, .string x.f0.f2, .string x.f0.f3, .int .i64 x.f0.f4, .int .i64 x.f1, .int .i64 x.f2, .int .i64 x.f3, .int .u64 0, .slice none 0 0]) s6 7 (.int .i64 x.f3) rfl
          have s8 := blk_put (cs' := #[.int .u8 x.f0.f0, .slice A1 x.f0.f1.length c1, .string x.f0.f2, .string x.f0.f3, .int .i64 x.f0.f4, .int .i64 x.f1, .int .i64 x.f2, .int .i64 x.f3, .int .u64 x.f4, .slice none 0 0]) s7 8 (.int .u64 x.f4) rfl
          have s9 := blk_put (cs' := #[.int .u8 x.f0.f0, .slice A1 x.f0.f1.length c1, .string x.f0.f2, .string x.f0.f3, .int .i64 x.f0.f4, .int .i64 x.f1, .int .i64 x.f2, .int .i64 x.f3, .int .u64 x.f4, .slice A9 x.f5.length c9]) s8 9 (.slice A9 x.f5.length c9) rfl
          have hb := ((((((((((HXV.out.setCell (p := ⟨g17, 0, none⟩) HGV.out (.int .u8 x.f0.f0)).setCell (p := ⟨g17, 1, none⟩) HGV.out (.slice A1 x.f0.f1.length c1)).setCell (p := ⟨g17, 2, none⟩) HGV.out (.string x.f0.f2)).setCell (p := ⟨g17, 3, none⟩) HGV.out (.string x.f0.f3)).setCell (p := ⟨g17, 4, none⟩) HGV.out (.int .i64 x.f0.f4)).setCell (p := ⟨g17, 5, none⟩) HGV.out (.int .i64 x.f1)).setCell (p := ⟨g17, 6, none⟩) HGV.out (.int .i64 x.f2)).setCell (p := ⟨g17, 7, none⟩) HGV.out (.int .i64 x.f3)).setCell (p := ⟨g17, 8, none⟩) HGV.out (.int .u64 x.f4)).setCell (p := ⟨g17, 9, none⟩) HGV.out (.slice A9 x.f5.length c9))
          generalize (World.setCell (World.setCell (World.setCell (World.setCell (World.setCell (World.setCell (World.setCell (World.setCell (World.setCell (World.setCell w3 ⟨g17, 0, none⟩ (.int .u8 x.f0.f0)) ⟨g17, 1, none⟩ (.slice A1 x.f0.f1.length c1)) ⟨g17, 2, none⟩ (.string x.f0.f2)) ⟨g17, 3, none⟩ (.string x.f0.f3)) ⟨g17, 4, none⟩ (.int .i64 x.f0.f4)) ⟨g17, 5, none⟩ (.int .i64 x.f1)) ⟨g17, 6, none⟩ (.int .i64 x.f2)) ⟨g17, 7, none⟩ (.int .i64 x.f3)) ⟨g17, 8, none⟩ (.int .u64 x.f4)) ⟨g17, 9, none⟩ (.slice A9 x.f5.length c9)) = wk at s9 hb ⊢
          have n_HOW := Aside0.mk (owns_move HOW.out (hb.block gm (HIntMap.owns_lt HOW.out))); have n_HB := Aside0.mk (below_step HB.out hb); have n_HBJ := Aside0.mk (below_step HBJ.out hb); clear HOW HB HBJ; have HOW := n_HOW; have HB := n_HB; have HBJ := n_HBJ; clear n_HOW n_HB n_HBJ
          clear BV HXV HGV
          have X17 := Aside0.mk s9
          clear s0 s1 s2 s3 s4 s5 s6 s7 s8 s9 hb
          have z0 := (blk_cell X17.out 0).trans (show _ = some (.int .u8 x.f0.f0) from rfl)
          have z1 := (blk_cell X17.out 1).trans (show _ = some (.slice A1 x.f0.f1.length c1) from rfl)
          have z2 := (blk_cell X17.out 2).trans (show _ = some (.string x.f0.f2) from rfl)
          have z3 := (blk_cell X17.out 3).trans (show _ = some (.string x.f0.f3) from rfl)
          have z4 := (blk_cell X17.out 4).trans (show _ = some (.int .i64 x.f0.f4) from rfl)
          have z5 := (blk_cell X17.out 5).trans (show _ = some (.int .i64 x.f1) from rfl)
          have z6 := (blk_cell X17.out 6).trans (show _ = some (.int .i64 x.f2) from rfl)
          have z7 := (blk_cell X17.out 7).trans (show _ = some (.int .i64 x.f3) from rfl)
          have z8 := (blk_cell X17.out 8).trans (show _ = some (.int .u64 x.f4) from rfl)
          have z9 := (blk_cell X17.out 9).trans (show _ = some (.slice A9 x.f5.length c9) from rfl)
          go_upto_region 26 with (first | (go_at_call 26; refine (counts26 A1 c1 A9 c9 x _ (HDI.out.below HB.out)).mono ?_; rw [HMAY.out, HMUST.out]; rintro e w5 ⟨rfl, hb⟩; have n_HOW := Aside0.mk (owns_move HOW.out (hb.block gm (HIntMap.owns_lt HOW.out))); have n_HB := Aside0.mk (below_step HB.out hb); have n_HBJ := Aside0.mk (below_step HBJ.out hb); clear HOW HB HBJ; have HOW := n_HOW; have HB := n_HB; have HBJ := n_HBJ; clear n_HOW n_HB n_HBJ; clear hb))
          clear z0 z1 z2 z3 z4 z5 z6 z7 z8 z9
          have HWF : Aside0 ((Lit.int .i64 (j : Int)).wf = true) := ⟨int_wf (by omega) (by omega)⟩
          cases mu with
          | false =>
            go_wp2
            go_roundw
            case rel => exact ⟨j + 1, by omega, by go_num, ⟨HALL.out⟩, HBJ⟩
            case measure => simp [intOf]; omega
          | true =>
            by_cases hin : (j : Int) ∈ order
            · have HZ : Aside0 ((if (j : Int) ∈ order then some (1 : Int) else none).getD 0 = 1) := ⟨by rw [if_pos hin]; rfl⟩
              have HALL2 : Aside0 ((List.range (j + 1)).all (fun n => !(mustP (l.getD n z36)) || decide ((n : Int) ∈ order)) = true) := ⟨by rw [HALL.out, decide_eq_true hin]; rfl⟩
              clear hin HALL HNO
              have hlk := int_look m60 HOW.out HWF.out
              rw [HZ.out] at hlk
              go_wp2
              clear hlk
              go_roundw
              case rel => exact ⟨j + 1, by omega, by go_num, HALL2, HBJ⟩
              case measure => simp [intOf]; omega
            · have HZ : Aside0 ((if (j : Int) ∈ order then some (1 : Int) else none).getD 0 = 0) := ⟨by rw [if_neg hin]; rfl⟩
              have HF : Aside0 (r = false) := ⟨by rw [← HRR.out]; exact HNO.out (by rw [decide_eq_false hin]; rfl)⟩
              clear hin HALL HNO
              have hlk := int_look m60 HOW.out HWF.out
              rw [HZ.out] at hlk
              go_wp2
              go_ret
              exact ⟨by rw [HF.out]; rfl, HB.out⟩
        · obtain rfl : j = l.length := by omega
          have HF : Aside0 (r = true) := ⟨by rw [← HRR.out]; exact HAL.out⟩
          go_wp2
          go_ret
          exact ⟨by rw [HF.out]; rfl, below_step HB.out HBJ.out⟩

end Go.Proofs.Ytjieagpfnnbiiaa.XLin
