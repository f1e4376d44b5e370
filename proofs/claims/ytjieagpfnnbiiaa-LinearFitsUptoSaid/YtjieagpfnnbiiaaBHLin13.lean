/- Legal's try. -/
import Derived.Test.YtjieagpfnnbiiaaBHLin12
namespace Go.Proofs.Ytjieagpfnnbiiaa.XLin
open Go Go.RowKit Go.Proofs.YtjieagpfnnbiiaaW.PrintWords Go.Proofs.YtjieagpfnnbiiaaW.PrintLast Go.Proofs.YtjieagpfnnbiiaaW.PrintMore
open Go.Proofs.Ytjieagpfnnbiiaa
set_option linter.unusedVariables false
set_option linter.unusedSimpArgs false
/-- What a call of try comes to. -/
def TryPost (w0 : World) (gd gm : Nat) (done : List Int) (N B : Nat) (r : Bool × List ByteArray) (w : World) (e : Ending) (w' : World) : Prop :=
  e = .returned (.bool r.1) ∧ Below w0.heap.size w0 w' ∧ (r.1 = false → ∃ N', N' ≤ N + B ∧ Fr gd gm w w' ∧ w'.heap[gd]? = some (.cells (nums .u8 done).toArray 5 (0, 0)) ∧ Tried w' gm N' r.2)
def TryRel (w0 : World) (gd gm g3 g5 g6 g7 : Nat) (L : Option Addr) (cl : Nat) (l : List S36) (f : List Int → List S25 → List ByteArray → Bool × List ByteArray) (done : List Int) (m : List S25) (A : Option Addr) (n N tk : Nat) (r : Bool × List ByteArray) (w : World) (v8 v28 : Value) (wr : World) : Prop :=
  ∃ (i : Nat) (lf : Bool) (T : List ByteArray) (Ni : Nat), i ≤ l.length ∧ v28 = .int .i64 (i : Int) ∧ v8 = .bool lf ∧ Aside0 (tryLoop l f done m ((List.range l.length).drop i) lf T = r) ∧ Aside0 (Ni ≤ N + 1 + i * tk) ∧ Aside0 (TSt w0 gd gm g3 g5 g6 g7 L cl l.length done T Ni w wr) ∧ Aside0 (Kd.F k25 wr (fun k => k ≠ gm ∧ k ≠ gd) A n m)
theorem key30n {D : Option Addr} {cd : Nat} {done : List Int} {A : Option Addr} {c : Nat} {m : List S25} {n nl : Nat} {ks : ByteArray} {w : World} (hn : n = m.length) (hdn : done.length = nl) (hk : keyP done m = ks) (hd : Kd.C (Kd.int .u8) w D done.length done) (hdc : nl ≤ cd) (hdl : nl ≤ 1000000) (hm : Kd.C k25 w A n m) (hmc : n ≤ c) (hml : n ≤ 1000000) (hsm : Small m) :
    Calls Try.prog 30 #[.slice D nl cd, .slice A n c] w fun e w' => e = .returned (.string ks) ∧ Below w.heap.size w w' := by
  subst hn
  subst hdn
  subst hk
  exact key30 D cd done A c m w hd hdc hdl hm hmc hml (fun p hp => ⟨by have := hsm p hp; omega, by have := hsm p hp; omega⟩)
theorem waits31n {L : Option Addr} {cl : Nat} {l : List S36} {D : Option Addr} {cd : Nat} {done : List Int} {one : Nat} {w : World} {b : Bool} (hw : waitsP l done one = b) (hl : Kd.C k36 w L l.length l) (hd : Kd.C (Kd.int .u8) w D done.length done) (hdl : done.length = l.length) (hone : one < l.length) :
    Calls Try.prog 31 #[.slice L l.length cl, .slice D l.length cd, .int .i64 (one : Int)] w fun e w' => e = .returned (.bool b) ∧ Below w.heap.size w w' := by
  subst hw
  have h := waits31 L cl l D cd done one w hl hd hdl hone
  rw [hdl] at h
  exact h
theorem bits_set {l : List Int} (h : Bits l) (i : Nat) : Bits (l.set i 1) := by
  intro x hx
  rcases List.mem_or_eq_of_mem_set hx with h1 | h1
  · exact h x h1
  · exact .inr h1
theorem bits_at {l : List Int} (h : Bits l) {i : Nat} (hi : i < l.length) : l.getD i 0 = 0 ∨ l.getD i 0 = 1 := by
  rw [List.getD_eq_getElem?_getD, List.getElem?_eq_getElem hi]
  exact h _ (List.getElem_mem hi)
theorem range_drop {n i : Nat} (h : i < n) : (List.range n).drop i = i :: (List.range n).drop (i + 1) := by
  rw [List.drop_eq_getElem_cons (by simpa using h)]
  simp
set_option maxHeartbeats 8000000 in
set_option maxRecDepth 100000 in
theorem try29 {w0 : World} {gd gm g3 g5 g6 g7 cl : Nat} {L : Option Addr} {l : List S36} (hs : TryOf w0 gd gm g3 g5 g6 g7 L cl l) : ∀ (k : Nat) (done : List Int) (m : List S25) (A : Option Addr) (n c : Nat) (T : List ByteArray) (N : Nat) (w : World),
    n = m.length → Bits done → done.length = l.length → done.count 0 < k → TSt w0 gd gm g3 g5 g6 g7 L cl l.length done T N w w → Kd.F k25 w (fun k => k ≠ gm ∧ k ≠ gd) A n m → n ≤ c → Small m → n + done.count 0 * 1000 ≤ 100000 → N + tb l.length k ≤ 1000000000000000000 →
    Calls Try.prog 29 #[.slice A n c, .pointer (some ⟨g5, 0, none⟩), .pointer (some ⟨g6, 0, none⟩), .pointer (some ⟨g3, 0, none⟩), .pointer (some ⟨g7, 0, none⟩)] w (TryPost w0 gd gm done N (tb l.length k) (tryP l k done m T) w) := by
  intro k
  induction k with
  | zero => intro done m A n c T N w _ _ _ hz; exact absurd hz (Nat.not_lt_zero _)
  | succ k ih =>
    intro done m A n c T N w hn hbt hdl hz hts hm hnc hsm hml hN
    have HIH := Aside0.mk ih
    have TSS := Aside0.mk hts
    have HM := Aside0.mk hm
    have HS := Aside0.mk hs
    have HSM := Aside0.mk hsm
    have HN0 := Aside0.mk hn
    have HDL := Aside0.mk hdl
    have HBT := Aside0.mk hbt
    have h12 := hs.h12
    clear ih hts hm hs hsm hn hdl hbt
    obtain ⟨tk, htk⟩ : ∃ tk, tb l.length k = tk := ⟨_, rfl⟩
    have htb : tb l.length (k + 1) = 1 + l.length * tk := by rw [← htk]; rfl
    rw [htb] at hN ⊢
    have HTK := Aside0.mk htk
    clear htb htk
    obtain ⟨lt, hlt0⟩ : ∃ lt, l.length * tk = lt := ⟨_, rfl⟩
    rw [hlt0] at hN ⊢
    have HLT := Aside0.mk hlt0
    clear hlt0
    obtain ⟨ks, hks⟩ : ∃ ks, keyP done m = ks := ⟨_, rfl⟩
    have hksz := keyP_size (done := done) HSM.out
    rw [hks, HDL.out, ← HN0.out] at hksz
    have HKSZ : Aside0 (ks.size ≤ maxLen) := ⟨by unfold maxLen; omega⟩
    clear hksz
    obtain ⟨r, hr⟩ : ∃ r, tryP l (k + 1) done m T = r := ⟨_, rfl⟩
    rw [hr]
    unfold tryP at hr
    rw [hks] at hr
    have HR := Aside0.mk hr
    have HKS := Aside0.mk hks
    clear hr hks
    go_enter Try.func29, Try.ntmps29
    have y5 := (blk_cell TSS.out.b5 0).trans (show _ = some (.slice (some ⟨gd, 0, none⟩) l.length l.length) from rfl)
    go_upto_region 2 with (first | (go_at_call 30; refine (key30n HN0.out HDL.out HKS.out (done_C TSS.out (by have := HDL.out; omega)) (Nat.le_refl _) (by omega) (Kd.F_now HM.out) hnc (by omega) HSM.out).mono ?_; rintro e w5 ⟨rfl, hb⟩; clear y5; have n_TSS := Aside0.mk (TSt.below TSS.out hb); have n_HM := Aside0.mk (Kd.F_below HM.out hb); clear TSS HM; have TSS := n_TSS; have HM := n_HM; clear n_TSS n_HM; clear hb))
    have y6 := (blk_cell TSS.out.b6 0).trans (show _ = some (.map (some gm)) from rfl)
    have ht := TSS.out.tr
    obtain ⟨lm, how, hl1, hl2⟩ := ht
    obtain ⟨z, hlk, hz0, hzN, hzn, hzi⟩ := tried_look (w := w) (gm := gm) hl1 hl2 ks
    have HOW := Aside0.mk how
    have HL1 := Aside0.mk hl1
    have HL2 := Aside0.mk hl2
    have hrl := HStrMap.run_look sm67 how HKSZ.out
    rw [show sm67.z = (.int .i64 0 : Value) from rfl, hlk] at hrl
    clear how hl1 hl2 hlk
    obtain ⟨z1, hz1⟩ : ∃ z1 : Int, z + 1 = z1 := ⟨_, rfl⟩
    have HZI := Aside0.mk hzi
    have HZN := Aside0.mk hzn
    clear hzi hzn
    have HNM : Aside0 (N < maxLen) := ⟨by unfold maxLen; omega⟩
    go_upto_region 3 with (first | (at_mapUpdate; (with_reducible refine HStrMap.wp_store sm67 _ rfl (.tmp 18) (.tmp 19) (.tmp 21) rfl gm _ _ ?g1 HOW.out HNM.out ks ?g3 HKSZ.out (.int .i64 z1) ?g4 ?_); (case g1 => rfl); (case g3 => rfl); (case g4 => rfl); intro w9 ho9 hg9 hs9; have HO9 := Aside0.mk ho9; have HG9 := Aside0.mk hg9; clear ho9 hg9 hs9 y6 hrl))
    rename World => w9
    have hrl := HStrMap.run_look sm67 HO9.out HKSZ.out
    rw [show sm67.z = (.int .i64 0 : Value) from rfl, look_put, if_pos rfl, Option.getD_some] at hrl
    by_cases hin : ks ∈ T
    · have hzz := HZI.out hin
      have HF : Aside0 (r = (false, T)) := ⟨by have h := HR.out; rw [if_pos (List.any_eq_true.2 ⟨ks, hin, by simp⟩)] at h; exact h.symm⟩
      clear HZI HZN
      have n_TSS := Aside0.mk (TSt.mapped HS.out TSS.out HG9.out (tried_put (w := w9) HL1.out HL2.out (by omega) (by omega) HO9.out T (fun y => ⟨.inr, fun h => h.elim (fun e => e ▸ hin) id⟩)))
      have n_HM := Aside0.mk (Kd.F_grown HM.out HG9.out (fun k hk e => hk.1 (Option.some.inj e)))
      clear TSS HM HG9 HO9 HL1 HL2 HOW
      have TSS := n_TSS
      have HM := n_HM
      clear n_TSS n_HM
      have y6 := (blk_cell TSS.out.b6 0).trans (show _ = some (.map (some gm)) from rfl)
      clear hin
      have hgt : z1 > 1 := by omega
      go_wp2
      go_ret
      refine ⟨by rw [HF.out]; rfl, TSS.out.hb, fun _ => ⟨N + 1, by omega, TSS.out.fr, TSS.out.bd, by rw [HF.out]; exact TSS.out.tr⟩⟩
    · have hzz := HZN.out hin
      have HF : Aside0 (tryLoop l (tryP l k) done m (List.range l.length) false (ks :: T) = r) := ⟨by have h := HR.out; rw [if_neg (fun h => by obtain ⟨y, hy, e⟩ := List.any_eq_true.1 h; exact hin (by rw [← of_decide_eq_true e]; exact hy))] at h; exact h⟩
      clear HZI HZN HR
      have n_TSS := Aside0.mk (TSt.mapped HS.out TSS.out HG9.out (tried_put (w := w9) HL1.out HL2.out (by omega) (by omega) HO9.out (ks :: T) (fun y => List.mem_cons)))
      have n_HM := Aside0.mk (Kd.F_grown HM.out HG9.out (fun k hk e => hk.1 (Option.some.inj e)))
      clear TSS HM HG9 HO9 HL1 HL2 HOW
      have TSS := n_TSS
      have HM := n_HM
      clear n_TSS n_HM
      have y6 := (blk_cell TSS.out.b6 0).trans (show _ = some (.map (some gm)) from rfl)
      clear hin
      have hgt : ¬ z1 > 1 := by omega
      have hgt2 : z1 ≤ 1 := by omega
      go_upto_region 6 with (fail)
      clear hrl y6
      have y3 := (blk_cell TSS.out.b3 0).trans (show _ = some (.slice L l.length cl) from rfl)
      go_upto_region 7 with (fail)
      clear y3
      rename World => w9
      obtain ⟨fk, hfk⟩ : ∃ fk, tryP l k = fk := ⟨_, rfl⟩
      rw [hfk] at HF HIH
      clear hfk hz1 hzz hgt hgt2 hz0 hzN
      go_loopw [8, 28] (fun v8 v28 wr => TryRel w0 gd gm g3 g5 g6 g7 L cl l fk done m A n N tk r w v8 v28 wr) (fun v8 v28 _ => l.length - (intOf v28).toNat)
      case atStart => exact ⟨0, false, ks :: T, N + 1, Nat.zero_le _, rfl, rfl, HF, ⟨by omega⟩, TSS, HM⟩
      case round =>
        clear HF TSS HM
        obtain ⟨i, lf, Ti, Ni, hi, rfl, rfl, HEQ, HNI, TSS, HM⟩ := hrel
        rename World => wr
        by_cases hlt : i < l.length
        · obtain ⟨ad, A1, c1, A9, c9, e0, hcl, hdi⟩ := at36 HS.out.hL i hlt
          subst e0
          have hxm : l.getD i z36 ∈ l := by rw [List.getD_eq_getElem?_getD, List.getElem?_eq_getElem hlt]; exact List.getElem_mem hlt
          have hop := HS.out.ops _ hxm
          have heq := HEQ.out
          rw [range_drop hlt] at heq
          unfold tryLoop at heq
          obtain ⟨x, hx⟩ : ∃ x, l.getD i z36 = x := ⟨_, rfl⟩
          rw [hx] at hcl hdi heq hop
          obtain ⟨mu, hmu⟩ : ∃ mu, mustP x = mu := ⟨_, rfl⟩
          obtain ⟨my, hmy⟩ : ∃ my, mayP x = my := ⟨_, rfl⟩
          obtain ⟨dn, hdn⟩ : ∃ dn, done.getD i 0 = dn := ⟨_, rfl⟩
          obtain ⟨wt, hwt⟩ : ∃ wt, waitsP l done i = wt := ⟨_, rfl⟩
          obtain ⟨⟨m2, okb⟩, hth⟩ : ∃ t, thenP m x = t := ⟨_, rfl⟩
          have hml2 := thenP_len m x
          have hsm2 := thenP_small x HSM.out
          rw [hmu, hmy, hdn, hwt, hth] at heq
          rw [hth] at hml2 hsm2
          dsimp only at heq hml2 hsm2
          rw [← HN0.out] at hml2
          obtain ⟨lf2, hlf2⟩ : ∃ lf2, (lf || (mu && decide (dn = 0))) = lf2 := ⟨_, rfl⟩
          rw [hlf2] at heq
          have hid : i < done.length := by rw [HDL.out]; exact hlt
          have hbi := bits_at HBT.out hid
          rw [hdn] at hbi
          have HCL := Aside0.mk hcl
          have HDI := Aside0.mk hdi
          have HEQ2 := Aside0.mk heq
          have HMUST := Aside0.mk hmu
          have HMAY := Aside0.mk hmy
          have HDN := Aside0.mk hdn
          have HWT := Aside0.mk hwt
          have HTH := Aside0.mk hth
          have HML2 := Aside0.mk hml2
          have HSM2 := Aside0.mk hsm2
          have HLF := Aside0.mk hlf2
          have HBI := Aside0.mk hbi
          have HOP := Aside0.mk hop
          clear hcl hdi heq hmu hmy hdn hwt hth hml2 hsm2 hlf2 hbi hop hxm hx HEQ
          obtain ⟨x0, x1, x2, x3, x4, x5, x6, x7, x8, x9⟩ := HCL.out.below TSS.out.hb
          go_upto_region 9 with (first | ((with_reducible refine gate_dst (N := 10) rfl ?_); refine box_event ?hg (N := 10) ?hd (cs := #[.int .u8 0, .slice none 0 0, .string ByteArray.empty, .string ByteArray.empty, .int .i64 0, .int .i64 0, .int .i64 0, .int .i64 0, .int .u64 0, .slice none 0 0]) (t := 36) ?hr ?_; (case hd => rfl); (case hg => rfl); (case hr => first | (go_simp; done) | (go_simp; rfl)); intro g10 hg w3 hbox hb; have HGV := Aside0.mk (Nat.le_of_eq hg.symm); have BV := Aside0.mk hbox; have HXV := Aside0.mk hb; have z0 := (blk_cell hbox 0).trans (show _ = some (.int .u8 0) from rfl); have z1 := (blk_cell hbox 1).trans (show _ = some (.slice none 0 0) from rfl); have z2 := (blk_cell hbox 2).trans (show _ = some (.string ByteArray.empty) from rfl); have z3 := (blk_cell hbox 3).trans (show _ = some (.string ByteArray.empty) from rfl); have z4 := (blk_cell hbox 4).trans (show _ = some (.int .i64 0) from rfl); have z5 := (blk_cell hbox 5).trans (show _ = some (.int .i64 0) from rfl); have z6 := (blk_cell hbox 6).trans (show _ = some (.int .i64 0) from rfl); have z7 := (blk_cell hbox 7).trans (show _ = some (.int .i64 0) from rfl); have z8 := (blk_cell hbox 8).trans (show _ = some (.int .u64 0) from rfl); have z9 := (blk_cell hbox 9).trans (show _ = some (.slice none 0 0) from rfl); have zf := fun j => blk_frozen hbox j; clear hg hbox hb))
          clear x0 x1 x2 x3 x4 x5 x6 x7 x8 x9
          clear z0 z1 z2 z3 z4 z5 z6 z7 z8 z9 zf
          rename World => w3
          have s0 := blk_put (cs' := #[.int .u8 x.f0.f0, .slice none 0 0, .string ByteArray.empty, .string ByteArray.empty, .int .i64 0, .int .i64 0, .int .i64 0, .int .i64 0, .int .u64 0, .slice none 0 0]) BV.out 0 (.int .u8 x.f0.f0) rfl
          have s1 := blk_put (cs' := #[.int .u8 x.f0.f0, .slice A1 x.f0.f1.length c1, .string ByteArray.empty, .string ByteArray.empty, .int .i64 0, .int .i64 0, .int .i64 0, .int .i64 0, .int .u64 0, .slice none 0 0]) s0 1 (.slice A1 x.f0.f1.length c1) rfl
          have s2 := blk_put (cs' := #[.int .u8 x.f0.f0, .slice A1 x.f0.f1.length c1, .string x.f0.f2, .string ByteArray.empty, .int .i64 0, .int .i64 0, .int .i64 0, .int .i64 0, .int .u64 0, .slice none 0 0]) s1 2 (.string x.f0.f2) rfl
          have s3 := blk_put (cs' := #[.int .u8 x.f0.f0, .slice A1 x.f0.f1.length c1, .string x.f0.f2, .string x.f0.f3, .int .i64 0, .int .i64 0, .int .i64 0, .int .i64 0, .int .u64 0, .slice none 0 0]) s2 3 (.string x.f0.f3) rfl
          have s4 := blk_put (cs' := #[.int .u8 x.f0.f0, .slice A1 x.f0.f1.length c1, .string x.f0.f2, .string x.f0.f3, .int .i64 x.f0.f4, .int .i64 0, .int .i64 0, .int .i64 0, .int .u64 0, .slice none 0 0]) s3 4 (.int .i64 x.f0.f4) rfl
          have s5 := blk_put (cs' := #[.int .u8 x.f0.f0, .slice A1 x.f0.f1.length c1, .string x.f0.f2, .string x.f0.f3, .int .i64 x.f0.f4, .int .i64 x.f1, .int .i64 0, .int .i64 0, .int .u64 0, .slice none 0 0]) s4 5 (.int .i64 x.f1) rfl
          have s6 := blk_put (cs' := #[.int .u8 x.f0.f0, .slice A1 x.f0.f1.length c1, .string x.f0.f2, .string x.f0.f3, .int .i64 x.f0.f4, .int .i64 x.f1, .int .i64 x.f2, .int .i64 0, .int .u64 0, .slice none 0 0]) s5 6 (.int .i64 x.f2) rfl
          have s7 := blk_put (cs' := #[.int .u8 x.f0.f0, .slice A1 x.f0.f1.length c1, .string x.f0.f2, .string x.f0.f3, .int .i64 x.f0.f4, .int .i64 x.f1, .int .i64 x.f2, .int .i64 x.f3, .int .u64 0, .slice none 0 0]) s6 7 (.int .i64 x.f3) rfl
          have s8 := blk_put (cs' := #[.int .u8 x.f0.f0, .slice A1 x.f0.f1.length c1, .string x.f0.f2, .string x.f0.f3, .int .i64 x.f0.f4, .int .i64 x.f1, .int .i64 x.f2, .int .i64 x.f3, .int .u64 x.f4, .slice none 0 0]) s7 8 (.int .u64 x.f4) rfl
          have s9 := blk_put (cs' := #[.int .u8 x.f0.f0, .slice A1 x.f0.f1.length c1, .string x.f0.f2, .string x.f0.f3, .int .i64 x.f0.f4, .int .i64 x.f1, .int .i64 x.f2, .int .i64 x.f3, .int .u64 x.f4, .slice A9 x.f5.length c9]) s8 9 (.slice A9 x.f5.length c9) rfl
          have hb := ((((((((((HXV.out.setCell (p := ⟨g10, 0, none⟩) HGV.out (.int .u8 x.f0.f0)).setCell (p := ⟨g10, 1, none⟩) HGV.out (.slice A1 x.f0.f1.length c1)).setCell (p := ⟨g10, 2, none⟩) HGV.out (.string x.f0.f2)).setCell (p := ⟨g10, 3, none⟩) HGV.out (.string x.f0.f3)).setCell (p := ⟨g10, 4, none⟩) HGV.out (.int .i64 x.f0.f4)).setCell (p := ⟨g10, 5, none⟩) HGV.out (.int .i64 x.f1)).setCell (p := ⟨g10, 6, none⟩) HGV.out (.int .i64 x.f2)).setCell (p := ⟨g10, 7, none⟩) HGV.out (.int .i64 x.f3)).setCell (p := ⟨g10, 8, none⟩) HGV.out (.int .u64 x.f4)).setCell (p := ⟨g10, 9, none⟩) HGV.out (.slice A9 x.f5.length c9))
          generalize (World.setCell (World.setCell (World.setCell (World.setCell (World.setCell (World.setCell (World.setCell (World.setCell (World.setCell (World.setCell w3 ⟨g10, 0, none⟩ (.int .u8 x.f0.f0)) ⟨g10, 1, none⟩ (.slice A1 x.f0.f1.length c1)) ⟨g10, 2, none⟩ (.string x.f0.f2)) ⟨g10, 3, none⟩ (.string x.f0.f3)) ⟨g10, 4, none⟩ (.int .i64 x.f0.f4)) ⟨g10, 5, none⟩ (.int .i64 x.f1)) ⟨g10, 6, none⟩ (.int .i64 x.f2)) ⟨g10, 7, none⟩ (.int .i64 x.f3)) ⟨g10, 8, none⟩ (.int .u64 x.f4)) ⟨g10, 9, none⟩ (.slice A9 x.f5.length c9)) = wk at s9 hb ⊢
          have n_TSS := Aside0.mk (TSt.below TSS.out hb); have n_HM := Aside0.mk (Kd.F_below HM.out hb); clear TSS HM; have TSS := n_TSS; have HM := n_HM; clear n_TSS n_HM
          clear BV HXV HGV
          have X10 := Aside0.mk s9
          clear s0 s1 s2 s3 s4 s5 s6 s7 s8 s9 hb
          have z0 := (blk_cell X10.out 0).trans (show _ = some (.int .u8 x.f0.f0) from rfl)
          have z1 := (blk_cell X10.out 1).trans (show _ = some (.slice A1 x.f0.f1.length c1) from rfl)
          have z2 := (blk_cell X10.out 2).trans (show _ = some (.string x.f0.f2) from rfl)
          have z3 := (blk_cell X10.out 3).trans (show _ = some (.string x.f0.f3) from rfl)
          have z4 := (blk_cell X10.out 4).trans (show _ = some (.int .i64 x.f0.f4) from rfl)
          have z5 := (blk_cell X10.out 5).trans (show _ = some (.int .i64 x.f1) from rfl)
          have z6 := (blk_cell X10.out 6).trans (show _ = some (.int .i64 x.f2) from rfl)
          have z7 := (blk_cell X10.out 7).trans (show _ = some (.int .i64 x.f3) from rfl)
          have z8 := (blk_cell X10.out 8).trans (show _ = some (.int .u64 x.f4) from rfl)
          have z9 := (blk_cell X10.out 9).trans (show _ = some (.slice A9 x.f5.length c9) from rfl)
          have hlt' : (i : Int) < (l.length : Int) := by omega
          go_upto_region 10 with (first | (go_at_call 26; refine (counts26 A1 c1 A9 c9 x _ (HDI.out.below TSS.out.hb)).mono ?_; rw [HMAY.out, HMUST.out]; rintro e w5 ⟨rfl, hb⟩; have n_TSS := Aside0.mk (TSt.below TSS.out hb); have n_HM := Aside0.mk (Kd.F_below HM.out hb); have n_X10 := Aside0.mk (blk_below X10.out hb); clear TSS HM X10; have TSS := n_TSS; have HM := n_HM; have X10 := n_X10; clear n_TSS n_HM n_X10; clear hb))
          clear z0 z1 z2 z3 z4 z5 z6 z7 z8 z9
          rename World => w5
          have y5 := (blk_cell TSS.out.b5 0).trans (show _ = some (.slice (some ⟨gd, 0, none⟩) l.length l.length) from rfl)
          have yd := TSS.out.dcell hid
          rw [HDN.out] at yd
          go_cut [8] (fun v8 wx => v8 = .bool lf2 ∧ w5 = wx)
          case first =>
            cases lf with
            | true =>
              have HX : Aside0 (true = lf2) := ⟨HLF.out⟩
              go_wp2
              have hx := HX.out
              subst hx
              go_meet
              case rel => exact ⟨rfl, rfl⟩
            | false =>
              cases mu with
              | false =>
                have HX : Aside0 (false = lf2) := ⟨HLF.out⟩
                go_wp2
                have hx := HX.out
                subst hx
                go_meet
                case rel => exact ⟨rfl, rfl⟩
              | true =>
                by_cases h0 : dn = 0
                · have HX : Aside0 (true = lf2) := ⟨by have h := HLF.out; rw [decide_eq_true h0] at h; exact h⟩
                  have h1 : (dn == 0) = true := by rw [h0]; rfl
                  clear h0
                  go_wp2
                  have hx := HX.out
                  subst hx
                  go_meet
                  case rel => exact ⟨rfl, rfl⟩
                · have HX : Aside0 (false = lf2) := ⟨by have h := HLF.out; rw [decide_eq_false h0] at h; exact h⟩
                  have h1 : (dn == 0) = false := beq_eq_false_iff_ne.2 h0
                  clear h0
                  go_wp2
                  have hx := HX.out
                  subst hx
                  go_meet
                  case rel => exact ⟨rfl, rfl⟩
          case rest =>
            obtain ⟨rfl, rfl⟩ := hcut
            have HLF2 := HLF
            clear HLF
            cases my with
            | false =>
              clear y5 yd
              go_wp2
              have hni2 : (i + 1) * tk = i * tk + tk := Nat.succ_mul i tk
              have HNI2 := Aside0.mk hni2
              clear hni2
              go_roundw
              case rel => exact ⟨i + 1, lf2, Ti, Ni, by omega, by go_num, rfl, ⟨by have h := HEQ2.out; rw [if_pos (.inl rfl)] at h; exact h⟩, ⟨by have := HNI.out; have := HNI2.out; omega⟩, TSS, HM⟩
              case measure => simp [intOf]; omega
            | true =>
              by_cases hd1 : dn = 1
              · have h1 : (dn == 1) = true := by rw [hd1]; rfl
                have HD1 := Aside0.mk hd1
                clear hd1
                go_wp2
                have hni2 : (i + 1) * tk = i * tk + tk := Nat.succ_mul i tk
                have HNI2 := Aside0.mk hni2
                clear hni2
                go_roundw
                case rel => exact ⟨i + 1, lf2, Ti, Ni, by omega, by go_num, rfl, ⟨by have h := HEQ2.out; rw [if_pos (.inr (.inl HD1.out))] at h; exact h⟩, ⟨by have := HNI.out; have := HNI2.out; omega⟩, TSS, HM⟩
                case measure => simp [intOf]; omega
              have h1 : (dn == 1) = false := beq_eq_false_iff_ne.2 hd1
              have HD0 : Aside0 (dn = 0) := ⟨HBI.out.resolve_right hd1⟩
              have HD1 := Aside0.mk hd1
              clear hd1
              have y3 := (blk_cell TSS.out.b3 0).trans (show _ = some (.slice (some ad) l.length cl) from rfl)
              cases wt with
              | true =>
                go_wp2_with (first | (go_at_call 31; refine (waits31n HWT.out (Kd.C_below HS.out.hL TSS.out.hb) (done_C TSS.out (by have := HDL.out; have := HS.out.h12; omega)) HDL.out hlt).mono ?_; rintro e w5 ⟨rfl, hb⟩; have n_TSS := Aside0.mk (TSt.below TSS.out hb); have n_HM := Aside0.mk (Kd.F_below HM.out hb); have n_X10 := Aside0.mk (blk_below X10.out hb); clear TSS HM X10; have TSS := n_TSS; have HM := n_HM; have X10 := n_X10; clear n_TSS n_HM n_X10; clear hb))
                have hni2 : (i + 1) * tk = i * tk + tk := Nat.succ_mul i tk
                have HNI2 := Aside0.mk hni2
                clear hni2
                go_roundw
                case rel => exact ⟨i + 1, lf2, Ti, Ni, by omega, by go_num, rfl, ⟨by have h := HEQ2.out; rw [if_pos (show true = false ∨ dn = 1 ∨ True from .inr (.inr trivial))] at h; exact h⟩, ⟨by have := HNI.out; have := HNI2.out; omega⟩, TSS, HM⟩
                case measure => simp [intOf]; omega
              | false =>
                have heq3 := HEQ2.out
                rw [if_neg (show ¬ (true = false ∨ dn = 1 ∨ false = true) from fun hh => hh.elim (fun h => by cases h) (fun h => h.elim HD1.out (fun h => by cases h)))] at heq3
                have HEQ3 := Aside0.mk heq3
                clear heq3 HEQ2
                go_upto_region 12 with (first | (go_at_call 31; refine (waits31n HWT.out (Kd.C_below HS.out.hL TSS.out.hb) (done_C TSS.out (by have := HDL.out; have := HS.out.h12; omega)) HDL.out hlt).mono ?_; rintro e w5 ⟨rfl, hb⟩; have n_TSS := Aside0.mk (TSt.below TSS.out hb); have n_HM := Aside0.mk (Kd.F_below HM.out hb); have n_X10 := Aside0.mk (blk_below X10.out hb); clear TSS HM X10; have TSS := n_TSS; have HM := n_HM; have X10 := n_X10; clear n_TSS n_HM n_X10; clear hb))
                clear y3 y5 yd
                have z0 := (blk_cell X10.out 0).trans (show _ = some (.int .u8 x.f0.f0) from rfl)
                have z1 := (blk_cell X10.out 1).trans (show _ = some (.slice A1 x.f0.f1.length c1) from rfl)
                have z2 := (blk_cell X10.out 2).trans (show _ = some (.string x.f0.f2) from rfl)
                have z3 := (blk_cell X10.out 3).trans (show _ = some (.string x.f0.f3) from rfl)
                have z4 := (blk_cell X10.out 4).trans (show _ = some (.int .i64 x.f0.f4) from rfl)
                have z5 := (blk_cell X10.out 5).trans (show _ = some (.int .i64 x.f1) from rfl)
                have z6 := (blk_cell X10.out 6).trans (show _ = some (.int .i64 x.f2) from rfl)
                have z7 := (blk_cell X10.out 7).trans (show _ = some (.int .i64 x.f3) from rfl)
                have z8 := (blk_cell X10.out 8).trans (show _ = some (.int .u64 x.f4) from rfl)
                have z9 := (blk_cell X10.out 9).trans (show _ = some (.slice A9 x.f5.length c9) from rfl)
                go_upto_region 13 with (first | (go_at_call 28; refine (then28n (P := fun k => k ≠ gm ∧ k ≠ gd) HN0.out HTH.out HM.out hnc (HDI.out.below TSS.out.hb) (by have := HOP.out; omega)).mono ?_; rintro e w5 ⟨A8, c8, rfl, hF, hle, hb⟩; have HM2 := Aside0.mk (Kd.F_mono hF (ok' := fun k => k ≠ gm ∧ k ≠ gd) (fun k hk => hk.elim id (fun h => ⟨by have := TSS.out.tr.lt; omega, by have := blk_lt TSS.out.bd; omega⟩))); have HLE := Aside0.mk hle; have n_TSS := Aside0.mk (TSt.below TSS.out hb); have n_HM := Aside0.mk (Kd.F_below HM.out hb); clear TSS HM; have TSS := n_TSS; have HM := n_HM; clear n_TSS n_HM; clear hF hle hb))
                clear z0 z1 z2 z3 z4 z5 z6 z7 z8 z9
                cases okb with
                | false =>
                  go_wp2
                  have hni2 : (i + 1) * tk = i * tk + tk := Nat.succ_mul i tk
                  have HNI2 := Aside0.mk hni2
                  clear hni2
                  go_roundw
                  case rel => exact ⟨i + 1, lf2, Ti, Ni, by omega, by go_num, rfl, ⟨by have h := HEQ3.out; rw [if_pos rfl] at h; exact h⟩, ⟨by have := HNI.out; have := HNI2.out; omega⟩, TSS, HM⟩
                  case measure => simp [intOf]; omega
                | true =>
                  have heq := HEQ3.out
                  rw [if_neg (by decide)] at heq
                  obtain ⟨⟨b2, T2⟩, hr2⟩ : ∃ t, fk (done.set i 1) m2 Ti = t := ⟨_, rfl⟩
                  rw [hr2] at heq
                  dsimp only at heq
                  have HEQ4 := Aside0.mk heq
                  have HR2 := Aside0.mk hr2
                  clear heq hr2 HEQ3
                  rename World => w5
                  have y5 := (blk_cell TSS.out.b5 0).trans (show _ = some (.slice (some ⟨gd, 0, none⟩) l.length l.length) from rfl)
                  have yd := TSS.out.dcell hid
                  rw [HDN.out] at yd
                  have yf := fun j => blk_frozen TSS.out.bd j
                  go_upto_region 15 with (fail)
                  clear y5 yd yf
                  have n_TSS := TSt.put HS.out TSS.out i 1
                  have n_HM := Kd.F_far HM.out (p := ⟨gd, i, none⟩) (fun k hk => hk.2) (.int .u8 1)
                  have n_HM2 := Kd.F_far HM2.out (p := ⟨gd, i, none⟩) (fun k hk => hk.2) (.int .u8 1)
                  clear TSS HM HM2
                  generalize (World.setCell w5 ⟨gd, i, none⟩ (.int .u8 1)) = w6 at n_TSS n_HM n_HM2 ⊢
                  have TSS := Aside0.mk n_TSS
                  have HM := Aside0.mk n_HM
                  have HM2 := Aside0.mk n_HM2
                  clear n_TSS n_HM n_HM2
                  have y7 := (blk_cell TSS.out.b7 0).trans (show _ = some (tryV g3 g5 g6 g7) from rfl)
                  have hcs := count_set done i hid (HDN.out.trans HD0.out)
                  have HCS := Aside0.mk hcs
                  clear hcs
                  have hni2 : (i + 1) * tk = i * tk + tk := Nat.succ_mul i tk
                  have hni3 : (i + 1) * tk ≤ l.length * tk := Nat.mul_le_mul_right tk (by omega)
                  rw [HLT.out] at hni3
                  have HNI3 : Aside0 (Ni + tk ≤ 1000000000000000000) := ⟨by have := HNI.out; omega⟩
                  clear hni2 hni3
                  cases b2 with
                  | true =>
                    have HF : Aside0 (r = (true, T2)) := ⟨by have h := HEQ4.out; rw [if_pos rfl] at h; exact h.symm⟩
                    go_wp2_with (first | (go_at_call 29; refine (HIH.out (done.set i 1) m2 A8 m2.length c8 Ti Ni _ rfl (bits_set HBT.out i) (by rw [List.length_set]; exact HDL.out) (by have := HCS.out; omega) TSS.out.restart HM2.out HLE.out HSM2.out (by have := HCS.out; have := HML2.out; have := HOP.out; omega) (by rw [HTK.out]; exact HNI3.out)).mono ?_; intro e w8 hpost; rw [HR2.out, HTK.out] at hpost; obtain ⟨rfl, hb0, hfl⟩ := hpost; have HB0 := Aside0.mk hb0; have HFL := Aside0.mk hfl; clear hb0 hfl))
                    go_ret
                    exact ⟨by rw [HF.out]; rfl, HB0.out, fun h => by rw [HF.out] at h; cases h⟩
                  | false =>
                    go_upto_region 17 with (first | (go_at_call 29; refine (HIH.out (done.set i 1) m2 A8 m2.length c8 Ti Ni _ rfl (bits_set HBT.out i) (by rw [List.length_set]; exact HDL.out) (by have := HCS.out; omega) TSS.out.restart HM2.out HLE.out HSM2.out (by have := HCS.out; have := HML2.out; have := HOP.out; omega) (by rw [HTK.out]; exact HNI3.out)).mono ?_; intro e w8 hpost; rw [HR2.out, HTK.out] at hpost; obtain ⟨rfl, hb0, hfl⟩ := hpost; have HB0 := Aside0.mk hb0; have HFL := Aside0.mk hfl; clear hb0 hfl))
                    clear y7
                    obtain ⟨N2, hN2, hfr, hbd, htr⟩ := HFL.out (by simp)
                    have n_TSS := Aside0.mk (TSt.on HS.out TSS.out hfr HB0.out hbd htr)
                    have n_HM := Aside0.mk (F_fr HM.out hfr)
                    clear TSS HM HM2 HB0 HFL hfr hbd htr
                    have TSS := n_TSS
                    have HM := n_HM
                    clear n_TSS n_HM
                    rename World => w8
                    have y5 := (blk_cell TSS.out.b5 0).trans (show _ = some (.slice (some ⟨gd, 0, none⟩) l.length l.length) from rfl)
                    have hid2 : i < (done.set i 1).length := by rw [List.length_set]; exact hid
                    have yd := TSS.out.dcell hid2
                    have yf := fun j => blk_frozen TSS.out.bd j
                    have HN2 := Aside0.mk hN2
                    clear hN2 hid2
                    go_upto_region 18 with (fail)
                    clear y5 yd yf
                    have n_TSS := TSt.put HS.out TSS.out i 0
                    have n_HM := Kd.F_far HM.out (p := ⟨gd, i, none⟩) (fun k hk => hk.2) (.int .u8 0)
                    clear TSS HM
                    generalize (World.setCell w8 ⟨gd, i, none⟩ (.int .u8 0)) = w9 at n_TSS n_HM ⊢
                    have TSS := Aside0.mk n_TSS
                    have HM := Aside0.mk n_HM
                    clear n_TSS n_HM
                    have n_TSS := TSS.out
                    rw [set_back done i (HDN.out.trans HD0.out) hid] at n_TSS
                    clear TSS
                    have TSS := Aside0.mk n_TSS
                    clear n_TSS
                    go_wp2
                    have hni2 : (i + 1) * tk = i * tk + tk := Nat.succ_mul i tk
                    have HNI2 := Aside0.mk hni2
                    clear hni2
                    go_roundw
                    case rel => exact ⟨i + 1, lf2, T2, N2, by omega, by go_num, rfl, ⟨by have h := HEQ4.out; rw [if_neg (by decide)] at h; exact h⟩, ⟨by have := HNI.out; have := HN2.out; have := HNI2.out; omega⟩, TSS, HM ⟩
                    case measure => simp [intOf]; omega
        · obtain rfl : i = l.length := by omega
          have HF : Aside0 (r = (!lf, Ti)) := ⟨by have h := HEQ.out; rw [List.drop_eq_nil_of_le (by simp)] at h; exact h.symm⟩
          have hni := HNI.out
          rw [HLT.out] at hni
          go_wp2
          go_ret
          exact ⟨by rw [HF.out]; first | rfl | (cases lf <;> rfl), TSS.out.hb, fun _ => ⟨Ni, by omega, TSS.out.fr, TSS.out.bd, by rw [HF.out]; exact TSS.out.tr⟩⟩

end Go.Proofs.Ytjieagpfnnbiiaa.XLin
