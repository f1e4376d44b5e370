/- LinearFits's walk. -/
import Derived.Test.YtjieagpfnnbiiaaBHLin27
namespace Go.Proofs.Ytjieagpfnnbiiaa.XLin
open Go Go.RowKit Go.Proofs.YtjieagpfnnbiiaaW.PrintWords Go.Proofs.YtjieagpfnnbiiaaW.PrintLast Go.Proofs.YtjieagpfnnbiiaaW.PrintMore
open Go.Proofs.Ytjieagpfnnbiiaa
set_option linter.unusedVariables false
set_option linter.unusedSimpArgs false
theorem order12n {L : Option Addr} {n cl : Nat} {l : List S36} {k : Nat} {w : World} (hk : (orderP l).length = k) (hn : n = l.length) (hl : Kd.C k36 w L n l) (hl19 : n ≤ 19) :
    Calls Try.prog 12 #[.slice L n cl] w fun e w' => ∃ O co, e = .returned (.slice O k co) ∧ Below w.heap.size w w' := by
  subst hn
  subst hk
  refine (order12 L cl l w hl hl19).mono ?_
  rintro e w' ⟨O, co, h1, h2, h3⟩
  exact ⟨O, co, h1, h3⟩
set_option maxHeartbeats 8000000 in
set_option maxRecDepth 100000 in
theorem fits_walk (A0 : Option Addr) (c0 : Nat) (base : List S25) (A1 : Option Addr) (c1 : Nat) (calls : List S32) (at_ later bad : Int) (w : World) (h0 : Kd.C k25 w A0 base.length base) (hc0 : base.length ≤ c0) (h1 : Kd.C k32 w A1 calls.length calls) (hc1 : calls.length ≤ c1) (ha0 : 0 ≤ at_) (ha1 : at_ ≤ 255) (hl0 : 0 ≤ later) (hl1 : later ≤ 65535) (hb1 : base.length ≤ 1048576) (hK : ∀ x ∈ calls, x.f0 = 1 → x.f1.length ≤ 1048576) :
    Calls Try.prog 4 #[.slice A0 base.length c0, .slice A1 calls.length c1, .int .u8 at_, .int .u16 later, .int .i64 bad] w fun e w' => e = .returned (.bool true) ∧ Below w.heap.size w w' := by
  have HA0 := Aside0.mk h0
  have HC0 := Aside0.mk hc0
  have HA1 := Aside0.mk h1
  have HC1 := Aside0.mk hc1
  have HK := Aside0.mk hK
  have HB := Aside0.mk (Below.refl w.heap.size w)
  clear h0 hc0 h1 hc1 hK
  go_enter Try.func4, Try.ntmps4
  by_cases hz : calls.length = 0
  · have e0 : ((calls.length : Int) == 0) = true := by rw [hz]; rfl
    clear hz
    go_wp2_with (first | (go_at_call 7; refine (awake7 _).mono ?_; rintro e w5 ⟨rfl, hb⟩; have n_HB := Aside0.mk (below_step HB.out hb); clear HB; have HB := n_HB; clear n_HB; clear hb))
    go_ret
    exact ⟨rfl, HB.out⟩
  have e0 : ((calls.length : Int) == 0) = false := beq_eq_false_iff_ne.2 (by omega)
  by_cases h9 : calls.length > 9
  · have hgt : (calls.length : Int) > 9 := by omega
    clear hz h9
    go_wp2_with (first | (go_at_call 7; refine (awake7 _).mono ?_; rintro e w5 ⟨rfl, hb⟩; have n_HB := Aside0.mk (below_step HB.out hb); clear HB; have HB := n_HB; clear n_HB; clear hb))
    go_ret
    exact ⟨rfl, HB.out⟩
  have hgt : ¬ (calls.length : Int) > 9 := by omega
  have hgt2 : (calls.length : Int) ≤ 9 := by omega
  go_upto_region 4 with (first | (go_at_call 6; refine (alone6 A0 c0 base _ c1 calls 1048576 _ (Kd.C_below HA0.out HB.out) HC0.out (Kd.C_below HA1.out HB.out) (by omega) HK.out (by omega)).mono ?_; rintro e w6 ⟨L, cl, vm, rfl, hN, hb⟩; have hN2 := (Kd.N_reads' hN).2; have hlen := aloneP_len calls 0 base; obtain ⟨l, hl⟩ : ∃ l, (aloneP 0 base calls).1 = l := ⟨_, rfl⟩; rw [hl] at hN2 hlen; have HLE := Aside0.mk hl; have HLN := Aside0.mk hlen; rw [HLN.out] at hN2; have HLL := Aside0.mk hN2.2; have HLCC := Aside0.mk hN2.1; have n_HB := Aside0.mk (below_step HB.out hb); clear HB; have HB := n_HB; clear n_HB; clear hN hN2 hb hl hlen))
  clear e0 hgt hgt2
  have HX := Aside0.mk (Below.refl w6.heap.size w6)
  obtain ⟨b, hb⟩ : ∃ b, mayAll base l 9 = b := ⟨_, rfl⟩
  have HMAY := Aside0.mk hb
  clear hb
  cases b with
  | false =>
    go_wp2_with (first | (go_at_call 8; refine (mayB HMAY.out HLN.out.symm (Kd.C_below HA0.out (below_step HB.out HX.out)) HC0.out (Kd.C_below HLL.out HX.out)).mono ?_; rintro e w5 ⟨rfl, hb⟩; have n_HX := Aside0.mk (below_step HX.out hb); clear HX; have HX := n_HX; clear n_HX; clear hb) | (go_at_call 7; refine (awake7 _).mono ?_; rintro e w5 ⟨rfl, hb⟩; have n_HX := Aside0.mk (below_step HX.out hb); clear HX; have HX := n_HX; clear n_HX; clear hb))
    go_ret
    exact ⟨rfl, below_step HB.out HX.out⟩
  | true =>
    obtain ⟨hsm, hb20, hc9, hops⟩ := may_facts HMAY.out
    have hops2 : ∀ c ∈ calls, c.f0 = 1 → c.f1.length ≤ 32 := fun c hc h => by
      obtain ⟨j, hj, rfl⟩ := List.getElem_of_mem hc
      have hg := alone_get calls 0 base j hj
      rw [HLE.out] at hg
      have hjl : j < l.length := by rw [HLN.out]; exact hj
      rw [List.getD_eq_getElem?_getD, List.getElem?_eq_getElem hjl] at hg
      have hg : l[j] = _ := hg
      have h2 := hops l[j] (List.getElem_mem hjl)
      rw [hg] at h2
      rw [List.getD_eq_getElem?_getD, List.getElem?_eq_getElem hj] at h2
      exact h2 h
    have HOPS := Aside0.mk (alone_ops (base := base) hops2)
    rw [HLE.out] at HOPS
    have HSM := Aside0.mk hsm
    have hb1000 : base.length ≤ 1000 := by omega
    clear hsm hops hops2 hc9
    have hnz : ((calls.length : Int) == 0) = false := beq_eq_false_iff_ne.2 (by omega)
    go_upto_region 7 with (first | (go_at_call 8; refine (mayB HMAY.out HLN.out.symm (Kd.C_below HA0.out (below_step HB.out HX.out)) HC0.out (Kd.C_below HLL.out HX.out)).mono ?_; rintro e w5 ⟨rfl, hb⟩; have n_HX := Aside0.mk (below_step HX.out hb); clear HX; have HX := n_HX; clear n_HX; clear hb))
    clear hnz
    obtain ⟨n, hn⟩ : ∃ n : Nat, at_ % (calls.length : Int) = (n : Int) := ⟨(at_ % (calls.length : Int)).toNat, by have := Int.emod_nonneg at_ (show (calls.length : Int) ≠ 0 by omega); omega⟩
    have hnc : n < calls.length := by have := Int.emod_lt_of_pos at_ (show 0 < (calls.length : Int) by omega); omega
    rw [hn]
    clear hn
    have hnc2 : (n : Int) < (calls.length : Int) := by omega
    have hnn0 : (0 : Int) ≤ (n : Int) := by omega
    have HNL : Aside0 (n < l.length) := ⟨by rw [HLN.out]; exact hnc⟩
    rename World => w7
    have n_HB := Aside0.mk (below_step HB.out HX.out)
    have n_HLL := Aside0.mk (Kd.C_below HLL.out HX.out)
    clear HB HLL HX
    have HB := n_HB
    have HLL := n_HLL
    clear n_HB n_HLL
    have HX := Aside0.mk (Below.refl w7.heap.size w7)
    have HL36 : Aside0 (Kd.C k36 w7 L l.length l) := ⟨by rw [HLN.out]; exact HLL.out⟩
    obtain ⟨adl, A1', c1', A9, c9, e0, hcl, hdi⟩ := at36 HL36.out n HNL.out
    have HE8 := Aside0.mk e0
    subst e0
    have HCL := Aside0.mk hcl
    clear hcl hdi
    go_upto_region 8 with (first | ((with_reducible refine gate_dst (N := 41) rfl ?_); (refine Kd.N_lit k36 (w0 := w7) w7.heap.size 36 rfl rfl (xs := ([] : List S36)) (inner := []) (ok := fun _ => True) (okp := fun _ => False) ?hrun ?hrep (fun _ hk => hk.elim) trivial HX.out (below_size HX.out) (by simp) ?_); (case hrun => first | (go_simp; done) | (go_simp; rfl)); (case hrep => exact Reps.none _ _); intro v5 w5 ho hb hg hat; have HE := Aside0.mk ho; clear HX; have HX := Aside0.mk hb; clear ho hb hg hat) | ((with_reducible refine gate_builtin (b := .append) (xs := #[.tmp 41, .tmp 42]) rfl ?_); at_builtin; (refine Kd.N_append_rows k36 (w0 := w7) w7.heap.size rfl (.tmp 41) (.tmp 42) 26 36 _ 128 rfl Try.underlying26 info36 rfl (by decide) (by decide) _ [] l (some adl) calls.length cl (fun _ => True) (fun k => k < w7.heap.size) rfl rfl HE.out (arg_F36 HLL.out HX.out) (fun k hk => ⟨trivial, fun e => by have := Kd.N_base HE.out k e.symm; omega⟩) (fun _ _ => trivial) HX.out (below_size HX.out) (by (try simp only [List.length_nil]); omega) ?_); intro v1 w1 ho hb hg hat; rw [List.nil_append] at ho; obtain ⟨gw, cw, hv, hgw, _⟩ := Kd.N_form ho (by have := HNL.out; omega); rw [HLN.out] at hv; subst hv; have HW := Aside0.mk ho; have HGW := Aside0.mk hgw; clear HX; have HX := Aside0.mk hb; clear ho hb hg hat hgw HE))
    rename World => w8
    obtain ⟨cw6, cwf⟩ := N_ecell HW.out hnc
    obtain ⟨f2, hf2⟩ : ∃ f2, (l.getD n z36).f2 = f2 := ⟨_, rfl⟩
    have hfv : f2 = 2 * (n : Int) + 1 := by
      have h := alone_get calls 0 base n hnc
      rw [HLE.out] at h
      rw [← hf2, h, Nat.zero_add]
    rw [hf2] at cw6
    have HF2 := Aside0.mk hf2
    have HFV := Aside0.mk hfv
    have hfb : 0 ≤ f2 ∧ f2 ≤ 100 := by omega
    obtain ⟨hfb0, hfb1⟩ := hfb
    clear hf2 hfv
    have hfw : wrap64 (f2 + later) = f2 + later := w64' (by omega) (by omega)
    obtain ⟨z, hz9⟩ : ∃ z, f2 + later = z := ⟨_, rfl⟩
    have HZ9 := Aside0.mk hz9
    clear hz9
    go_upto_region 9 with (fail)
    clear cw6 cwf hfw
    have hp := N_end (z := (f2 + later)) HW.out hnc
    have hx12 := HX.out.setCell (p := ⟨gw, n * 10 + 6, none⟩) HGW.out (.int .i64 (f2 + later))
    generalize (World.setCell w8 ⟨gw, n * 10 + 6, none⟩ (.int .i64 (f2 + later))) = w9 at hp hx12 ⊢
    clear HX HW
    have HX := Aside0.mk hx12
    have HW := Aside0.mk hp
    clear hx12 hp
    have HLG := Aside0.mk (legal_late (z := f2 + later) (base := base) (calls := calls) (n := n) HSM.out (by omega) (by rw [HLE.out]; exact HNL.out) (by rw [HLE.out, HF2.out]; omega))
    rw [HLE.out] at HLG
    have hr := Kd.N_reads' HW.out
    rw [List.length_set, HLN.out] at hr
    have HWC := Aside0.mk hr.2.2
    have HWL := Aside0.mk hr.2.1
    clear hr
    go_upto_region 11 with (first | (go_at_call 10; refine (legalB HLG.out (by rw [List.length_set]; exact HLN.out.symm) (Kd.C_below HA0.out (below_step HB.out HX.out)) HC0.out HWC.out HWL.out hb1000 (end_ops HNL.out HOPS.out) HSM.out).mono ?_; rintro e w5 ⟨rfl, hb⟩; have n_HW := Aside0.mk (Kd.N_below HW.out hb); clear HW HWC; have HW := n_HW; clear n_HW; have n_HX := Aside0.mk (below_step HX.out hb); clear HX; have HX := n_HX; clear n_HX; clear hb))
    clear HLG HWL
    rename World => w10
    obtain ⟨cw6, cwf⟩ := N_ecell HW.out (i := n) hnc
    go_upto_region 12 with (fail)
    clear cw6 cwf
    have hp := N_end (z := (-1)) HW.out hnc
    have hx12 := HX.out.setCell (p := ⟨gw, n * 10 + 6, none⟩) HGW.out (.int .i64 (-1))
    generalize (World.setCell w10 ⟨gw, n * 10 + 6, none⟩ (.int .i64 (-1))) = w11 at hp hx12 ⊢
    clear HX HW
    have HX := Aside0.mk hx12
    have HW := Aside0.mk hp
    clear hx12 hp
    rw [List.set_set, getD_set36 HNL.out, if_pos rfl] at HW
    have n_HW : Aside0 (Kd.N k36 36 w11 w7.heap.size (fun _ => True) (.slice (some ⟨gw, 0, none⟩) calls.length cw) (l.set n { l.getD n z36 with f2 := -1 })) := ⟨HW.out⟩
    clear HW
    have HW := n_HW
    clear n_HW
    have hr := Kd.N_reads' HW.out
    rw [List.length_set, HLN.out] at hr
    have HWC := Aside0.mk hr.2.2
    have HWL := Aside0.mk hr.2.1
    clear hr
    obtain ⟨x, hx⟩ : ∃ x, (l.getD n z36).f0.f0 = x := ⟨_, rfl⟩
    have x0 := HCL.out.x0
    rw [hx] at x0
    have x1 := (HX.out.cell (World.block_lt_of_cell? w7 _ x0)).trans x0
    have HXE := Aside0.mk hx
    clear hx x0
    by_cases hx1 : x = 1
    · have y1 : (x == 1) = true := by rw [hx1]; rfl
      have HLG := Aside0.mk (legal_open HSM.out (base := base) (calls := calls) (n := n) (by omega) (by rw [HLE.out]; exact HNL.out) (by rw [HLE.out, HXE.out]; exact hx1))
      rw [HLE.out] at HLG
      clear hx1
      go_upto_region 14 with (first | (go_at_call 10; refine (legalB HLG.out (by rw [List.length_set]; exact HLN.out.symm) (Kd.C_below HA0.out (below_step HB.out HX.out)) HC0.out HWC.out HWL.out hb1000 (end_ops HNL.out HOPS.out) HSM.out).mono ?_; rintro e w5 ⟨rfl, hb⟩; have n_HW := Aside0.mk (Kd.N_below HW.out hb); clear HW HWC; have HW := n_HW; clear n_HW; have n_HX := Aside0.mk (below_step HX.out hb); clear HX; have HX := n_HX; clear n_HX; clear hb))
      clear HLG HWL y1 x1
      rename World => w12
      clear HW HGW
      by_cases hb0 : bad = 0
      · have y2 : (bad == 0) = true := by rw [hb0]; rfl
        clear hb0
        go_wp2_with (first | (go_at_call 7; refine (awake7 _).mono ?_; rintro e w5 ⟨rfl, hb⟩; have n_HX := Aside0.mk (below_step HX.out hb); clear HX; have HX := n_HX; clear n_HX; clear hb))
        go_ret
        exact ⟨rfl, below_step HB.out HX.out⟩
      have y2 : (bad == 0) = false := beq_eq_false_iff_ne.2 hb0
      have HBAD := Aside0.mk hb0
      clear hb0
      go_upto_region 16 with (fail)
      clear y2
      go_upto_region 17 with (first | ((with_reducible refine gate_dst (N := 78) rfl ?_); (refine Kd.N_lit k36 (w0 := w7) w7.heap.size 36 rfl rfl (xs := ([] : List S36)) (inner := []) (ok := fun _ => True) (okp := fun _ => False) ?hrun ?hrep (fun _ hk => hk.elim) trivial HX.out (below_size HX.out) (by simp) ?_); (case hrun => first | (go_simp; done) | (go_simp; rfl)); (case hrep => exact Reps.none _ _); intro v5 w5 ho hb hg hat; have HE := Aside0.mk ho; clear HX; have HX := Aside0.mk hb; clear ho hb hg hat) | ((with_reducible refine gate_builtin (b := .append) (xs := #[.tmp 78, .tmp 79]) rfl ?_); at_builtin; (refine Kd.N_append_rows k36 (w0 := w7) w7.heap.size rfl (.tmp 78) (.tmp 79) 26 36 _ 128 rfl Try.underlying26 info36 rfl (by decide) (by decide) _ [] l (some adl) calls.length cl (fun _ => True) (fun k => k < w7.heap.size) rfl rfl HE.out (arg_F36 HLL.out HX.out) (fun k hk => ⟨trivial, fun e => by have := Kd.N_base HE.out k e.symm; omega⟩) (fun _ _ => trivial) HX.out (below_size HX.out) (by (try simp only [List.length_nil]); omega) ?_); intro v1 w1 ho hb hg hat; rw [List.nil_append] at ho; obtain ⟨gw, cw, hv, hgw, _⟩ := Kd.N_form ho (by have := HNL.out; omega); rw [HLN.out] at hv; subst hv; have HW := Aside0.mk ho; have HGW := Aside0.mk hgw; clear HX; have HX := Aside0.mk hb; clear ho hb hg hat hgw HE) | (go_at_call 11; (refine (ratlinelaw28_put.calls ⟨#[122, 122]⟩ ⟨#[110, 101, 118, 101, 114]⟩ 1 [⟨1, ⟨#[122, 122]⟩, ⟨#[110, 101, 118, 101, 114]⟩⟩] ⟨#[]⟩ ⟨#[]⟩ 0 _ rfl).mono ?_); rintro e w5 ⟨v1, rfl, hR, hb⟩; obtain ⟨Ap, cp, hv⟩ := Kd.R_slice hR; subst hv; have HP := Aside0.mk (Kd.R_F (Kd.R_bound hR)); have HPC := Aside0.mk (Kd.R_reads' hR).2.1; have HPL := Aside0.mk (Kd.N_lt HW.out); have n_HW := Aside0.mk (Kd.N_below HW.out hb); clear HW; have HW := n_HW; clear n_HW; have n_HX := Aside0.mk (below_step HX.out hb); clear HX; have HX := n_HX; clear n_HX; clear hR hb; simp only [List.length_cons, List.length_nil, Nat.zero_add]) | ((with_reducible refine gate_dst (N := 84) rfl ?_); refine lit_event ?hg (cs := #[.int .u8 1, .slice Ap 1 cp, .string ⟨#[]⟩, .string ⟨#[]⟩, .int .i64 0, .int .i64 0, .int .i64 100, .int .i64 bad, .int .u64 0, .slice none 0 0]) (t := 36) (k := 1) ?hr ?_; (case hg => rfl); (case hr => first | (go_simp; done) | (go_simp; rfl)); intro vb hg w3 hbox hb; have HVB : Aside0 (some vb ≠ (Value.slice (some ⟨gw, 0, none⟩) calls.length cw).ownBlock) := ⟨by rw [hg]; exact fun e => Nat.lt_irrefl _ (Kd.N_lt HW.out _ e.symm)⟩; have n_HP := Aside0.mk (Kd.F_below HP.out hb); clear HP; have HP := n_HP; clear n_HP; have n_HW := Aside0.mk (Kd.N_below HW.out hb); clear HW; have HW := n_HW; clear n_HW; have BV := Aside0.mk (one_F36 (x := (⟨⟨1, [⟨1, ⟨#[122, 122]⟩, ⟨#[110, 101, 118, 101, 114]⟩⟩], ⟨#[]⟩, ⟨#[]⟩, 0⟩, 0, 100, bad, 0, []⟩ : S36)) hbox HPC.out (Kd.F_mono HP.out (ok' := fun k => True ∧ some k ≠ (Value.slice (some ⟨gw, 0, none⟩) calls.length cw).ownBlock) (fun k hk => ⟨trivial, fun e => by have := HPL.out k e.symm; have := hk.2.1; omega⟩)) (Nat.le_refl 0) (Kd.F_nil _ _ _)); have n_HX := Aside0.mk (below_step HX.out hb); clear HX; have HX := n_HX; clear n_HX; clear hg hbox hb) | ((with_reducible refine gate_builtin (b := .append) (xs := #[.tmp 80, .tmp 84]) rfl ?_); at_builtin; (refine Kd.N_append_rows k36 (w0 := w7) w7.heap.size rfl (.tmp 80) (.tmp 84) 26 36 _ 128 rfl Try.underlying26 info36 rfl (by decide) (by decide) (.slice (some ⟨gw, 0, none⟩) calls.length cw) l [(⟨⟨1, [⟨1, ⟨#[122, 122]⟩, ⟨#[110, 101, 118, 101, 114]⟩⟩], ⟨#[]⟩, ⟨#[]⟩, 0⟩, 0, 100, bad, 0, []⟩ : S36)] (some ⟨vb, 0, none⟩) 1 1 (fun _ => True) (fun k => (True ∧ some k ≠ (Value.slice (some ⟨gw, 0, none⟩) calls.length cw).ownBlock) ∨ k = vb) rfl rfl HW.out BV.out (fun k hk => ⟨trivial, hk.elim (fun h => h.2) (fun h => h ▸ HVB.out)⟩) (fun _ _ => trivial) HX.out (below_size HX.out) (by have := HLN.out; omega) ?_); intro v1 w1 ho hb hg hat; obtain ⟨l2, hl2⟩ : ∃ l2, l ++ [(⟨⟨1, [⟨1, ⟨#[122, 122]⟩, ⟨#[110, 101, 118, 101, 114]⟩⟩], ⟨#[]⟩, ⟨#[]⟩, 0⟩, 0, 100, bad, 0, []⟩ : S36)] = l2 := ⟨_, rfl⟩; rw [hl2] at ho; obtain ⟨L2, cl2, hv⟩ := Kd.N_slice ho; obtain ⟨n2, hn2⟩ : ∃ n2, l2.length = n2 := ⟨_, rfl⟩; rw [hn2] at hv; subst hv; have HW2 := Aside0.mk ho; have HL2 := Aside0.mk hl2; have HN2 := Aside0.mk hn2.symm; clear HX; have HX := Aside0.mk hb; clear ho hb hg hat hl2 hn2))
      rename World => w13
      have hz : mustP (⟨⟨1, [⟨1, ⟨#[122, 122]⟩, ⟨#[110, 101, 118, 101, 114]⟩⟩], ⟨#[]⟩, ⟨#[]⟩, 0⟩, 0, 100, bad, 0, []⟩ : S36) = false := by
        unfold mustP
        rw [if_neg (show ¬ (100 : Int) < 0 by omega), if_neg HBAD.out]
      have HLG := Aside0.mk (legal_more (base := base) (calls := calls) HSM.out (by omega) hz)
      rw [HLE.out, HL2.out] at HLG
      have HOM := Aside0.mk (musts_more l _ hz)
      rw [HL2.out] at HOM
      have HN2L : Aside0 (n2 = calls.length + 1) := ⟨by rw [HN2.out, ← HL2.out, List.length_append, HLN.out]; rfl⟩
      have HOPS2 : Aside0 (∀ q ∈ l2, opsN q ≤ 1000) := ⟨fun q hq => by
        rw [← HL2.out] at hq
        rcases List.mem_append.1 hq with h | h
        · exact HOPS.out q h
        · obtain rfl := List.mem_singleton.1 h
          show (1 : Nat) ≤ 1000
          omega⟩
      clear hz
      have hr := Kd.N_reads' HW2.out
      rw [← HN2.out] at hr
      have HC2 := Aside0.mk hr.2.2
      have HCL2 := Aside0.mk hr.2.1
      clear hr HW2
      obtain ⟨k, hk⟩ : ∃ k, (orderP l).length = k := ⟨_, rfl⟩
      rw [hk] at HOM
      have HKK := Aside0.mk hk
      clear hk
      have TK1 := Aside0.mk True.intro
      have hn2le : n2 ≤ 19 := by have := HN2L.out; omega
      go_wp2_with (first | (go_at_call 10; refine (legalB HLG.out HN2.out (Kd.C_below HA0.out (below_step HB.out HX.out)) HC0.out HC2.out HCL2.out hb1000 HOPS2.out HSM.out).mono ?_; rintro e w5 ⟨rfl, hb⟩; have n_HC2 := Aside0.mk (Kd.C_below HC2.out hb); clear HC2; have HC2 := n_HC2; clear n_HC2; have n_HX := Aside0.mk (below_step HX.out hb); clear HX; have HX := n_HX; clear n_HX; clear hb) | (go_at_call 12; have tk := TK1.out; clear tk TK1; refine (order12n HOM.out HN2.out HC2.out hn2le).mono ?_; rintro e w5 ⟨O1, co1, rfl, hb⟩; have n_HC2 := Aside0.mk (Kd.C_below HC2.out hb); clear HC2; have HC2 := n_HC2; clear n_HC2; have n_HX := Aside0.mk (below_step HX.out hb); clear HX; have HX := n_HX; clear n_HX; clear hb) | (go_at_call 12; refine (order12n HKK.out HLN.out.symm (Kd.C_below HLL.out HX.out) (by omega)).mono ?_; rintro e w5 ⟨O2, co2, rfl, hb⟩; have n_HC2 := Aside0.mk (Kd.C_below HC2.out hb); clear HC2; have HC2 := n_HC2; clear n_HC2; have n_HX := Aside0.mk (below_step HX.out hb); clear HX; have HX := n_HX; clear n_HX; clear hb) | (go_at_call 7; refine (awake7 _).mono ?_; rintro e w5 ⟨rfl, hb⟩; have n_HX := Aside0.mk (below_step HX.out hb); clear HX; have HX := n_HX; clear n_HX; clear hb))
      go_ret
      exact ⟨rfl, below_step HB.out HX.out⟩
    · have y1 : (x == 1) = false := beq_eq_false_iff_ne.2 hx1
      clear hx1
      go_upto_region 14 with (fail)
      clear HWL HWC y1 x1
      rename World => w12
      clear HW HGW
      by_cases hb0 : bad = 0
      · have y2 : (bad == 0) = true := by rw [hb0]; rfl
        clear hb0
        go_wp2_with (first | (go_at_call 7; refine (awake7 _).mono ?_; rintro e w5 ⟨rfl, hb⟩; have n_HX := Aside0.mk (below_step HX.out hb); clear HX; have HX := n_HX; clear n_HX; clear hb))
        go_ret
        exact ⟨rfl, below_step HB.out HX.out⟩
      have y2 : (bad == 0) = false := beq_eq_false_iff_ne.2 hb0
      have HBAD := Aside0.mk hb0
      clear hb0
      go_upto_region 16 with (fail)
      clear y2
      go_upto_region 17 with (first | ((with_reducible refine gate_dst (N := 78) rfl ?_); (refine Kd.N_lit k36 (w0 := w7) w7.heap.size 36 rfl rfl (xs := ([] : List S36)) (inner := []) (ok := fun _ => True) (okp := fun _ => False) ?hrun ?hrep (fun _ hk => hk.elim) trivial HX.out (below_size HX.out) (by simp) ?_); (case hrun => first | (go_simp; done) | (go_simp; rfl)); (case hrep => exact Reps.none _ _); intro v5 w5 ho hb hg hat; have HE := Aside0.mk ho; clear HX; have HX := Aside0.mk hb; clear ho hb hg hat) | ((with_reducible refine gate_builtin (b := .append) (xs := #[.tmp 78, .tmp 79]) rfl ?_); at_builtin; (refine Kd.N_append_rows k36 (w0 := w7) w7.heap.size rfl (.tmp 78) (.tmp 79) 26 36 _ 128 rfl Try.underlying26 info36 rfl (by decide) (by decide) _ [] l (some adl) calls.length cl (fun _ => True) (fun k => k < w7.heap.size) rfl rfl HE.out (arg_F36 HLL.out HX.out) (fun k hk => ⟨trivial, fun e => by have := Kd.N_base HE.out k e.symm; omega⟩) (fun _ _ => trivial) HX.out (below_size HX.out) (by (try simp only [List.length_nil]); omega) ?_); intro v1 w1 ho hb hg hat; rw [List.nil_append] at ho; obtain ⟨gw, cw, hv, hgw, _⟩ := Kd.N_form ho (by have := HNL.out; omega); rw [HLN.out] at hv; subst hv; have HW := Aside0.mk ho; have HGW := Aside0.mk hgw; clear HX; have HX := Aside0.mk hb; clear ho hb hg hat hgw HE) | (go_at_call 11; (refine (ratlinelaw28_put.calls ⟨#[122, 122]⟩ ⟨#[110, 101, 118, 101, 114]⟩ 1 [⟨1, ⟨#[122, 122]⟩, ⟨#[110, 101, 118, 101, 114]⟩⟩] ⟨#[]⟩ ⟨#[]⟩ 0 _ rfl).mono ?_); rintro e w5 ⟨v1, rfl, hR, hb⟩; obtain ⟨Ap, cp, hv⟩ := Kd.R_slice hR; subst hv; have HP := Aside0.mk (Kd.R_F (Kd.R_bound hR)); have HPC := Aside0.mk (Kd.R_reads' hR).2.1; have HPL := Aside0.mk (Kd.N_lt HW.out); have n_HW := Aside0.mk (Kd.N_below HW.out hb); clear HW; have HW := n_HW; clear n_HW; have n_HX := Aside0.mk (below_step HX.out hb); clear HX; have HX := n_HX; clear n_HX; clear hR hb; simp only [List.length_cons, List.length_nil, Nat.zero_add]) | ((with_reducible refine gate_dst (N := 84) rfl ?_); refine lit_event ?hg (cs := #[.int .u8 1, .slice Ap 1 cp, .string ⟨#[]⟩, .string ⟨#[]⟩, .int .i64 0, .int .i64 0, .int .i64 100, .int .i64 bad, .int .u64 0, .slice none 0 0]) (t := 36) (k := 1) ?hr ?_; (case hg => rfl); (case hr => first | (go_simp; done) | (go_simp; rfl)); intro vb hg w3 hbox hb; have HVB : Aside0 (some vb ≠ (Value.slice (some ⟨gw, 0, none⟩) calls.length cw).ownBlock) := ⟨by rw [hg]; exact fun e => Nat.lt_irrefl _ (Kd.N_lt HW.out _ e.symm)⟩; have n_HP := Aside0.mk (Kd.F_below HP.out hb); clear HP; have HP := n_HP; clear n_HP; have n_HW := Aside0.mk (Kd.N_below HW.out hb); clear HW; have HW := n_HW; clear n_HW; have BV := Aside0.mk (one_F36 (x := (⟨⟨1, [⟨1, ⟨#[122, 122]⟩, ⟨#[110, 101, 118, 101, 114]⟩⟩], ⟨#[]⟩, ⟨#[]⟩, 0⟩, 0, 100, bad, 0, []⟩ : S36)) hbox HPC.out (Kd.F_mono HP.out (ok' := fun k => True ∧ some k ≠ (Value.slice (some ⟨gw, 0, none⟩) calls.length cw).ownBlock) (fun k hk => ⟨trivial, fun e => by have := HPL.out k e.symm; have := hk.2.1; omega⟩)) (Nat.le_refl 0) (Kd.F_nil _ _ _)); have n_HX := Aside0.mk (below_step HX.out hb); clear HX; have HX := n_HX; clear n_HX; clear hg hbox hb) | ((with_reducible refine gate_builtin (b := .append) (xs := #[.tmp 80, .tmp 84]) rfl ?_); at_builtin; (refine Kd.N_append_rows k36 (w0 := w7) w7.heap.size rfl (.tmp 80) (.tmp 84) 26 36 _ 128 rfl Try.underlying26 info36 rfl (by decide) (by decide) (.slice (some ⟨gw, 0, none⟩) calls.length cw) l [(⟨⟨1, [⟨1, ⟨#[122, 122]⟩, ⟨#[110, 101, 118, 101, 114]⟩⟩], ⟨#[]⟩, ⟨#[]⟩, 0⟩, 0, 100, bad, 0, []⟩ : S36)] (some ⟨vb, 0, none⟩) 1 1 (fun _ => True) (fun k => (True ∧ some k ≠ (Value.slice (some ⟨gw, 0, none⟩) calls.length cw).ownBlock) ∨ k = vb) rfl rfl HW.out BV.out (fun k hk => ⟨trivial, hk.elim (fun h => h.2) (fun h => h ▸ HVB.out)⟩) (fun _ _ => trivial) HX.out (below_size HX.out) (by have := HLN.out; omega) ?_); intro v1 w1 ho hb hg hat; obtain ⟨l2, hl2⟩ : ∃ l2, l ++ [(⟨⟨1, [⟨1, ⟨#[122, 122]⟩, ⟨#[110, 101, 118, 101, 114]⟩⟩], ⟨#[]⟩, ⟨#[]⟩, 0⟩, 0, 100, bad, 0, []⟩ : S36)] = l2 := ⟨_, rfl⟩; rw [hl2] at ho; obtain ⟨L2, cl2, hv⟩ := Kd.N_slice ho; obtain ⟨n2, hn2⟩ : ∃ n2, l2.length = n2 := ⟨_, rfl⟩; rw [hn2] at hv; subst hv; have HW2 := Aside0.mk ho; have HL2 := Aside0.mk hl2; have HN2 := Aside0.mk hn2.symm; clear HX; have HX := Aside0.mk hb; clear ho hb hg hat hl2 hn2))
      rename World => w13
      have hz : mustP (⟨⟨1, [⟨1, ⟨#[122, 122]⟩, ⟨#[110, 101, 118, 101, 114]⟩⟩], ⟨#[]⟩, ⟨#[]⟩, 0⟩, 0, 100, bad, 0, []⟩ : S36) = false := by
        unfold mustP
        rw [if_neg (show ¬ (100 : Int) < 0 by omega), if_neg HBAD.out]
      have HLG := Aside0.mk (legal_more (base := base) (calls := calls) HSM.out (by omega) hz)
      rw [HLE.out, HL2.out] at HLG
      have HOM := Aside0.mk (musts_more l _ hz)
      rw [HL2.out] at HOM
      have HN2L : Aside0 (n2 = calls.length + 1) := ⟨by rw [HN2.out, ← HL2.out, List.length_append, HLN.out]; rfl⟩
      have HOPS2 : Aside0 (∀ q ∈ l2, opsN q ≤ 1000) := ⟨fun q hq => by
        rw [← HL2.out] at hq
        rcases List.mem_append.1 hq with h | h
        · exact HOPS.out q h
        · obtain rfl := List.mem_singleton.1 h
          show (1 : Nat) ≤ 1000
          omega⟩
      clear hz
      have hr := Kd.N_reads' HW2.out
      rw [← HN2.out] at hr
      have HC2 := Aside0.mk hr.2.2
      have HCL2 := Aside0.mk hr.2.1
      clear hr HW2
      obtain ⟨k, hk⟩ : ∃ k, (orderP l).length = k := ⟨_, rfl⟩
      rw [hk] at HOM
      have HKK := Aside0.mk hk
      clear hk
      have TK1 := Aside0.mk True.intro
      have hn2le : n2 ≤ 19 := by have := HN2L.out; omega
      go_wp2_with (first | (go_at_call 10; refine (legalB HLG.out HN2.out (Kd.C_below HA0.out (below_step HB.out HX.out)) HC0.out HC2.out HCL2.out hb1000 HOPS2.out HSM.out).mono ?_; rintro e w5 ⟨rfl, hb⟩; have n_HC2 := Aside0.mk (Kd.C_below HC2.out hb); clear HC2; have HC2 := n_HC2; clear n_HC2; have n_HX := Aside0.mk (below_step HX.out hb); clear HX; have HX := n_HX; clear n_HX; clear hb) | (go_at_call 12; have tk := TK1.out; clear tk TK1; refine (order12n HOM.out HN2.out HC2.out hn2le).mono ?_; rintro e w5 ⟨O1, co1, rfl, hb⟩; have n_HC2 := Aside0.mk (Kd.C_below HC2.out hb); clear HC2; have HC2 := n_HC2; clear n_HC2; have n_HX := Aside0.mk (below_step HX.out hb); clear HX; have HX := n_HX; clear n_HX; clear hb) | (go_at_call 12; refine (order12n HKK.out HLN.out.symm (Kd.C_below HLL.out HX.out) (by omega)).mono ?_; rintro e w5 ⟨O2, co2, rfl, hb⟩; have n_HC2 := Aside0.mk (Kd.C_below HC2.out hb); clear HC2; have HC2 := n_HC2; clear n_HC2; have n_HX := Aside0.mk (below_step HX.out hb); clear HX; have HX := n_HX; clear n_HX; clear hb) | (go_at_call 7; refine (awake7 _).mono ?_; rintro e w5 ⟨rfl, hb⟩; have n_HX := Aside0.mk (below_step HX.out hb); clear HX; have HX := n_HX; clear n_HX; clear hb))
      go_ret
      exact ⟨rfl, below_step HB.out HX.out⟩

end Go.Proofs.Ytjieagpfnnbiiaa.XLin
