/- linear.Order. -/
import Derived.Test.YtjieagpfnnbiiaaBHLin25
namespace Go.Proofs.Ytjieagpfnnbiiaa.XLin
open Go Go.RowKit Go.Proofs.YtjieagpfnnbiiaaW.PrintWords Go.Proofs.YtjieagpfnnbiiaaW.PrintLast Go.Proofs.YtjieagpfnnbiiaaW.PrintMore
open Go.Proofs.Ytjieagpfnnbiiaa
set_option linter.unusedVariables false
set_option linter.unusedSimpArgs false
/-- linear.Order. -/
def orderP (l : List S36) : List Int := isortP (ltP l) (((List.range l.length).filter (fun j => mustP (l.getD j z36))).map (fun j : Nat => (j : Int)))
def mustsP (l : List S36) (i : Nat) : List Int := ((List.range i).filter (fun j => mustP (l.getD j z36))).map (fun j : Nat => (j : Int))
theorem mustsP_succ (l : List S36) (i : Nat) : mustsP l (i + 1) = if mustP (l.getD i z36) = true then mustsP l i ++ [(i : Int)] else mustsP l i := by
  unfold mustsP
  rw [List.range_succ, List.filter_append, List.map_append]
  split
  · next h => simp only [List.filter_cons, h, List.filter_nil, if_true, List.map_cons, List.map_nil]
  · next h => simp only [List.filter_cons, h, List.filter_nil, Bool.false_eq_true, if_false, List.map_nil, List.append_nil]
theorem mustsP_in (l : List S36) (i : Nat) (hi : i ≤ l.length) : InL l (mustsP l i) := by
  intro v hv
  unfold mustsP at hv
  obtain ⟨j, hj, rfl⟩ := List.mem_map.1 hv
  rw [List.mem_filter, List.mem_range] at hj
  exact ⟨j, rfl, by omega⟩
theorem isortP_len (lt : Int → Int → Bool) (xs : List Int) : (isortP lt xs).length = xs.length := by
  unfold isortP
  have : ∀ (is : List Nat) (ys : List Int), (is.foldl (fun ys i => downP lt i ys) ys).length = ys.length := by
    intro is
    induction is with
    | nil => intro ys; rfl
    | cons i is ih => intro ys; rw [List.foldl_cons, ih, downP_len]
  exact this _ _
theorem orderP_len (l : List S36) : (orderP l).length = (mustsP l l.length).length := isortP_len _ _
set_option maxHeartbeats 8000000 in
set_option maxRecDepth 100000 in
theorem stable54 {w0 : World} {L : Option Addr} {cl : Nat} {l : List S36} {gl : Nat} {A : Option Addr} {n c : Nat} {xs : List Int} (hl : Kd.C k36 w0 L l.length l) (hn : n ≤ 19) : ∀ w : World, Srt w0 L cl l gl A n c xs w →
    Calls Try.prog 54 #[.slice A n c, .int .i64 (n : Int), cmpV gl] w fun e w' => e = .returned (.tuple #[]) ∧ Srt w0 L cl l gl A n c (isortP (ltP l) xs) w' := by
  intro w hs
  have HS := Aside0.mk hs
  have HL := Aside0.mk hl
  clear hs hl
  unfold cmpV
  have h20 : ¬ (20 : Int) ≤ (n : Int) := by omega
  have h21 : ¬ (20 : Int) < (n : Int) := by omega
  go_enter Try.func54, Try.ntmps54
  go_upto_region 2 with (fail)
  go_loopw [7, 8] (fun v7 v8 wr => v7 = .int .i64 0 ∧ v8 = .int .i64 20 ∧ w = wr) (fun _ _ _ => 0)
  case atStart => exact ⟨rfl, rfl, rfl⟩
  case round =>
    obtain ⟨rfl, rfl, rfl⟩ := hrel
    go_upto_region 7 with (first | (go_at_call 68; refine (insertion68 HL.out (by omega) _ HS.out).mono ?_; rintro e w5 ⟨rfl, hs⟩; have HS2 := Aside0.mk hs; clear hs))
    rename World => w6
    go_loopw [6] (fun v6 wr => v6 = .int .i64 20 ∧ w6 = wr) (fun _ _ => 0)
    case atStart => exact ⟨rfl, rfl⟩
    case round =>
      obtain ⟨rfl, rfl⟩ := hrel
      go_wp2
      (first | go_end0 | ((try simp only [Exit.inBlock, Exit.then]); refine bodyPost_ret (results_none rfl _ _ _) rfl ?_))
      exact ⟨rfl, HS2.out⟩
set_option maxHeartbeats 8000000 in
set_option maxRecDepth 100000 in
theorem sort32 {w0 : World} {L : Option Addr} {cl : Nat} {l : List S36} {gl : Nat} {A : Option Addr} {n c : Nat} {xs : List Int} (hl : Kd.C k36 w0 L l.length l) (hn : n ≤ 19) : ∀ w : World, Srt w0 L cl l gl A n c xs w →
    Calls Try.prog 32 #[.slice A n c, cmpV gl] w fun e w' => e = .returned (.tuple #[]) ∧ Srt w0 L cl l gl A n c (isortP (ltP l) xs) w' := by
  intro w hs
  have HS := Aside0.mk hs
  have HL := Aside0.mk hl
  clear hs hl
  unfold cmpV
  go_enter Try.func32, Try.ntmps32
  go_wp2_with (first | (go_at_call 54; refine (stable54 HL.out hn _ HS.out).mono ?_; rintro e w5 ⟨rfl, hs⟩; have HS2 := Aside0.mk hs; clear hs))
  (first | go_end0 | ((try simp only [Exit.inBlock, Exit.then]); refine bodyPost_ret (results_none rfl _ _ _) rfl ?_))
  exact ⟨rfl, HS2.out⟩
set_option maxHeartbeats 8000000 in
set_option maxRecDepth 100000 in
theorem order12 (L : Option Addr) (cl : Nat) (l : List S36) (w : World) (hl : Kd.C k36 w L l.length l) (hl19 : l.length ≤ 19) :
    Calls Try.prog 12 #[.slice L l.length cl] w fun e w' => ∃ O co, e = .returned (.slice O (orderP l).length co) ∧ Kd.R (Kd.int .i64) 3 w' w.heap.size (fun _ => True) (.slice O (orderP l).length co) (orderP l) ∧ Below w.heap.size w w' := by
  have HL := Aside0.mk hl
  have HB := Aside0.mk (Below.refl w.heap.size w)
  have hll : l.length ≤ 19 := hl19
  clear hl
  obtain ⟨r, hr⟩ : ∃ r, orderP l = r := ⟨_, rfl⟩
  rw [hr]
  have HR : Aside0 (isortP (ltP l) (mustsP l l.length) = r) := ⟨hr⟩
  have HRL : Aside0 (r.length = (mustsP l l.length).length) := ⟨by rw [← hr]; exact orderP_len l⟩
  clear hr
  go_enter Try.func12, Try.ntmps12
  go_upto_region 2 with (first | ((with_reducible refine gate_dst (N := 1) rfl ?_); refine box_event ?hg (N := 1) ?hd (cs := #[.slice L l.length cl]) (t := 26) ?hr ?_; (case hd => rfl); (case hg => rfl); (case hr => first | (go_simp; done) | (go_simp; rfl)); intro g1 hg w3 hbox hb; have GE_g1 : Aside0 (w.heap.size ≤ g1) := ⟨by rw [hg]; exact below_size HB.out⟩; have n_HB := Aside0.mk (below_step HB.out hb); clear HB; have HB := n_HB; clear n_HB; have B1 := Aside0.mk hbox; clear hg hbox hb))
  have bB1_0 := (blk_cell B1.out 0).trans (show _ = some (.slice L l.length cl) from rfl)
  have bB1_f := fun j => blk_frozen B1.out j
  go_upto_region 3 with (fail)
  clear bB1_0 bB1_f
  go_loopw [3, 10] (fun v3 v10 wr => ∃ (i : Nat) (O : Option Addr) (no co : Nat), i ≤ l.length ∧ v3 = .slice O no co ∧ v10 = .int .i64 (i : Int) ∧ Aside0 (no = (mustsP l i).length) ∧ Aside0 (no ≤ i) ∧ Aside0 (Kd.R (Kd.int .i64) 3 wr w.heap.size (fun _ => True) (.slice O no co) (mustsP l i)) ∧ Aside0 (wr.heap[g1]? = some (.cells #[.slice L l.length cl] 26 (0, 0))) ∧ Aside0 (Below w.heap.size w wr)) (fun v3 v10 _ => l.length - (intOf v10).toNat)
  case atStart => exact ⟨0, none, 0, 0, Nat.zero_le _, rfl, rfl, ⟨rfl⟩, ⟨Nat.le_refl 0⟩, ⟨Kd.R_nil _ _ _ _ _⟩, B1, HB⟩
  case round =>
    clear B1 HB
    obtain ⟨i, O, no, co, hi, rfl, rfl, HNO, HNI, HO, B1, HB⟩ := hrel
    rename World => wr
    by_cases hlt : i < l.length
    · obtain ⟨ad, A1, c1, A9, c9, e0, hcl, hdi⟩ := at36 HL.out i hlt
      have HE0 := Aside0.mk e0
      subst e0
      have hos := mustsP_succ l i
      obtain ⟨x, hx⟩ : ∃ x, l.getD i z36 = x := ⟨_, rfl⟩
      rw [hx] at hcl hdi hos
      obtain ⟨mu, hmu⟩ : ∃ mu, mustP x = mu := ⟨_, rfl⟩
      obtain ⟨my, hmy⟩ : ∃ my, mayP x = my := ⟨_, rfl⟩
      rw [hmu] at hos
      have HOS := Aside0.mk hos
      have HCL := Aside0.mk hcl
      have HDI := Aside0.mk hdi
      have HMUST := Aside0.mk hmu
      have HMAY := Aside0.mk hmy
      clear hcl hdi hos hx hmu hmy
      have hlt' : (i : Int) < (l.length : Int) := by omega
      obtain ⟨x0, x1, x2, x3, x4, x5, x6, x7, x8, x9⟩ := HCL.out.below HB.out
      go_upto_region 5 with (first | ((with_reducible refine gate_dst (N := 5) rfl ?_); refine box_event ?hg (N := 5) ?hd (cs := #[.int .u8 0, .slice none 0 0, .string ByteArray.empty, .string ByteArray.empty, .int .i64 0, .int .i64 0, .int .i64 0, .int .i64 0, .int .u64 0, .slice none 0 0]) (t := 36) ?hr ?_; (case hd => rfl); (case hg => rfl); (case hr => first | (go_simp; done) | (go_simp; rfl)); intro g5 hg w3 hbox hb; have HGV := Aside0.mk (Nat.le_of_eq hg.symm); have BV := Aside0.mk hbox; have HXV := Aside0.mk hb; have z0 := (blk_cell hbox 0).trans (show _ = some (.int .u8 0) from rfl); have z1 := (blk_cell hbox 1).trans (show _ = some (.slice none 0 0) from rfl); have z2 := (blk_cell hbox 2).trans (show _ = some (.string ByteArray.empty) from rfl); have z3 := (blk_cell hbox 3).trans (show _ = some (.string ByteArray.empty) from rfl); have z4 := (blk_cell hbox 4).trans (show _ = some (.int .i64 0) from rfl); have z5 := (blk_cell hbox 5).trans (show _ = some (.int .i64 0) from rfl); have z6 := (blk_cell hbox 6).trans (show _ = some (.int .i64 0) from rfl); have z7 := (blk_cell hbox 7).trans (show _ = some (.int .i64 0) from rfl); have z8 := (blk_cell hbox 8).trans (show _ = some (.int .u64 0) from rfl); have z9 := (blk_cell hbox 9).trans (show _ = some (.slice none 0 0) from rfl); have zf := fun j => blk_frozen hbox j; clear hg hbox hb))
      clear x0 x1 x2 x3 x4 x5 x6 x7 x8 x9
      clear z0 z1 z2 z3 z4 z5 z6 z7 z8 z9 zf
      rename World => w3
      have s0 := blk_put (cs' := #[.int .u8 x.f0.f0, .slice none 0 0, .string ByteArray.empty, .string ByteArray.empty, .int .i64 0, .int .i64 0, .int .i64 0, .int .i64 0, .int .u64 0, .slice none 0 0]) BV.out 0 (.int .u8 x.f0.f0) rfl
      have s1 := blk_put (cs' := #[.int .u8 x.f0.f0, .slice A1 x.f0.f1.length c1, .string ByteArray.empty, .string ByteArray.empty, .int .i64 0, .int .i64 0, .int .i64 0, .int .i64 0, .int .u64 0, .slice none 0 0]) s0 1 (.slice A1 x.f0.f1.length c1) rfl
      have s2 := blk_put (cs' := #[.int .u8 x.f0.f0, .slice A1 x.f0.f1.length c1, .string x.f0.f2, .string ByteArray.empty, .int .i64 0, .int .i64 0, .int .i64 0, .int .i64 0, .int .u64 0, .slice none 0 0]) s1 2 (.string x.f0.f2) rfl
      have s3 := blk_put (cs' := #[.int .u8 x.f0.f0, .slice A1 x.f0.f1.length c1, .string x.f0.f2, .string x.f0.f3, .int .i64 0, .int .i64 0, .int .i64 0, .int .i64 0, .int .u64 0, .slice none 0 0]) s2 3 (.string x.f0.f3) rfl
      have s4 := blk_put (cs' := #[.int .u8 x.f0.f0, .slice A1 x.f0.f1.length c1, .string x.f0.f2, .string x.f0.f3, .int .i64 x.f0.f4, .int .i64 0, .int .i64 0, .int .i64 0, .int .u64 0, .slice none 0 0]) s3 4 (.int .i64 x.f0.f4) rfl
      have s5 := blk_put (cs' := #[.int .u8 x.f0.f0, .slice A1 x.f0.f1.length c1, .string x.f0.f2, .string x.f0.f3, .int .i64 x.f0.f4, .int .i64 x.f1, .int .i64 0, .int .i64 0, .int .u64 0, .slice none 0 0]) s4 5 (.int .i64 x.f1) rfl
      have s6 := blk_put (cs' := #[.int .u8 x.f0.f0, .slice A1 x.f0.f1.length c1, .string x.f0.f2, .string x.f0.f3, .int .i64 x.f0.f4, .int .i64 x.f1, .int .i64 x.f2, .int .i64 0, .int .u64 0, .slice none 0 0]) s5 6 (.int .i64 x.f2) rfl
      have s7 := blk_put (cs' := #[.int .u8 x.f0.f0, .slice A1 x.f0.f1.length c1, .string x.f0.f2, .string x.f0.f3, .int .i64 x.f0.f4, .int .i64 x.f1, .int .i64 x.f2, .int .i64 x.f3, .int .u64 0, .slice none 0 0]) s6 7 (.int .i64 x.f3) rfl
      have s8 := blk_put (cs' := #[.int .u8 x.f0.f0, .slice A1 x.f0.f1.length c1, .string x.f0.f2, .string x.f0.f3, .int .i64 x.f0.f4, .int .i64 x.f1, .int .i64 x.f2, .int .i64 x.f3, .int .u64 x.f4, .slice none 0 0]) s7 8 (.int .u64 x.f4) rfl
      have s9 := blk_put (cs' := #[.int .u8 x.f0.f0, .slice A1 x.f0.f1.length c1, .string x.f0.f2, .string x.f0.f3, .int .i64 x.f0.f4, .int .i64 x.f1, .int .i64 x.f2, .int .i64 x.f3, .int .u64 x.f4, .slice A9 x.f5.length c9]) s8 9 (.slice A9 x.f5.length c9) rfl
      have hb := ((((((((((HXV.out.setCell (p := ⟨g5, 0, none⟩) HGV.out (.int .u8 x.f0.f0)).setCell (p := ⟨g5, 1, none⟩) HGV.out (.slice A1 x.f0.f1.length c1)).setCell (p := ⟨g5, 2, none⟩) HGV.out (.string x.f0.f2)).setCell (p := ⟨g5, 3, none⟩) HGV.out (.string x.f0.f3)).setCell (p := ⟨g5, 4, none⟩) HGV.out (.int .i64 x.f0.f4)).setCell (p := ⟨g5, 5, none⟩) HGV.out (.int .i64 x.f1)).setCell (p := ⟨g5, 6, none⟩) HGV.out (.int .i64 x.f2)).setCell (p := ⟨g5, 7, none⟩) HGV.out (.int .i64 x.f3)).setCell (p := ⟨g5, 8, none⟩) HGV.out (.int .u64 x.f4)).setCell (p := ⟨g5, 9, none⟩) HGV.out (.slice A9 x.f5.length c9))
      generalize (World.setCell (World.setCell (World.setCell (World.setCell (World.setCell (World.setCell (World.setCell (World.setCell (World.setCell (World.setCell w3 ⟨g5, 0, none⟩ (.int .u8 x.f0.f0)) ⟨g5, 1, none⟩ (.slice A1 x.f0.f1.length c1)) ⟨g5, 2, none⟩ (.string x.f0.f2)) ⟨g5, 3, none⟩ (.string x.f0.f3)) ⟨g5, 4, none⟩ (.int .i64 x.f0.f4)) ⟨g5, 5, none⟩ (.int .i64 x.f1)) ⟨g5, 6, none⟩ (.int .i64 x.f2)) ⟨g5, 7, none⟩ (.int .i64 x.f3)) ⟨g5, 8, none⟩ (.int .u64 x.f4)) ⟨g5, 9, none⟩ (.slice A9 x.f5.length c9)) = wk at s9 hb ⊢
      have n_HO := Aside0.mk (Kd.R_below HO.out hb); have n_B1 := Aside0.mk (blk_below B1.out hb); have n_HB := Aside0.mk (below_step HB.out hb); clear HO B1 HB; have HO := n_HO; have B1 := n_B1; have HB := n_HB; clear n_HO n_B1 n_HB
      clear BV HXV HGV
      have X5 := Aside0.mk s9
      clear s0 s1 s2 s3 s4 s5 s6 s7 s8 s9 hb
      have z0 := (blk_cell X5.out 0).trans (show _ = some (.int .u8 x.f0.f0) from rfl)
      have z1 := (blk_cell X5.out 1).trans (show _ = some (.slice A1 x.f0.f1.length c1) from rfl)
      have z2 := (blk_cell X5.out 2).trans (show _ = some (.string x.f0.f2) from rfl)
      have z3 := (blk_cell X5.out 3).trans (show _ = some (.string x.f0.f3) from rfl)
      have z4 := (blk_cell X5.out 4).trans (show _ = some (.int .i64 x.f0.f4) from rfl)
      have z5 := (blk_cell X5.out 5).trans (show _ = some (.int .i64 x.f1) from rfl)
      have z6 := (blk_cell X5.out 6).trans (show _ = some (.int .i64 x.f2) from rfl)
      have z7 := (blk_cell X5.out 7).trans (show _ = some (.int .i64 x.f3) from rfl)
      have z8 := (blk_cell X5.out 8).trans (show _ = some (.int .u64 x.f4) from rfl)
      have z9 := (blk_cell X5.out 9).trans (show _ = some (.slice A9 x.f5.length c9) from rfl)
      go_upto_region 6 with (first | (go_at_call 26; refine (counts26 A1 c1 A9 c9 x _ (HDI.out.below HB.out)).mono ?_; rw [HMAY.out, HMUST.out]; rintro e w5 ⟨rfl, hb⟩; have n_HO := Aside0.mk (Kd.R_below HO.out hb); have n_B1 := Aside0.mk (blk_below B1.out hb); have n_X5 := Aside0.mk (blk_below X5.out hb); have n_HB := Aside0.mk (below_step HB.out hb); clear HO B1 X5 HB; have HO := n_HO; have B1 := n_B1; have X5 := n_X5; have HB := n_HB; clear n_HO n_B1 n_X5 n_HB; clear hb))
      clear z0 z1 z2 z3 z4 z5 z6 z7 z8 z9
      cases mu with
      | false =>
        go_wp2
        go_roundw
        case rel => exact ⟨i + 1, O, no, co, by omega, rfl, by go_num, ⟨by rw [HOS.out]; exact HNO.out⟩, ⟨by have := HNI.out; omega⟩, ⟨by rw [HOS.out]; exact HO.out⟩, B1, HB⟩
        case measure => simp [intOf]; omega
      | true =>
        have HKF : Aside0 (mustsP l (i + 1) = mustsP l i ++ [(i : Int)]) := ⟨HOS.out.trans (if_pos rfl)⟩
        go_upto_region 8 with (first | ((with_reducible refine gate_dst (N := 23) rfl ?_); refine lit_event ?hg (cs := #[.int .i64 (i : Int)]) (t := 3) (k := 1) ?hr ?_; (case hg => rfl); (case hr => first | (go_simp; done) | (go_simp; rfl)); intro vb hg w3 hbox hb; have n_HO := Aside0.mk (Kd.R_below HO.out hb); have n_B1 := Aside0.mk (blk_below B1.out hb); have n_HB := Aside0.mk (below_step HB.out hb); clear HO B1 HB; have HO := n_HO; have B1 := n_B1; have HB := n_HB; clear n_HO n_B1 n_HB; have BV := Aside0.mk (lit_C (k := .i64) [(i : Int)] hbox rfl (by simp)); clear hg hbox hb) | ((with_reducible refine gate_builtin (b := .append) (xs := #[.tmp 21, .tmp 23]) rfl ?_); at_builtin; (refine Kd.R_append_row (Value.int .i64) 0 (w0 := w) w.heap.size rfl (.tmp 21) (.tmp 23) 38 3 (.int .i64 0) 8 rfl Try.underlying38 infoI64 rfl (by omega) _ (mustsP l i) [(i : Int)] _ _ _ (fun _ => True) rfl rfl (fun _ _ => trivial) HO.out BV.out HB.out (below_size HB.out) (by (try simp only [List.length_cons, List.length_nil]); have := HNO.out; have := HNI.out; omega) ?_); intro v1 w1 ho hb hg hat; rw [← HKF.out] at ho; obtain ⟨O1, co1, hv⟩ := R_form ho; obtain ⟨n1, hn1⟩ : ∃ n1, (mustsP l (i + 1)).length = n1 := ⟨_, rfl⟩; rw [hn1] at hv; subst hv; have HN1 := Aside0.mk hn1.symm; have n_B1 := Aside0.mk (blk_grown B1.out hg (fun e => Kd.R_ne HO.out B1.out (by decide) e)); clear B1; have B1 := n_B1; clear n_B1; have HO9 := Aside0.mk ho; have HB9 := Aside0.mk hb; clear ho hb hg hat hn1))
        go_wp2
        go_roundw
        case rel => exact ⟨i + 1, O1, n1, co1, by omega, rfl, by go_num, HN1, ⟨by have h1 := HN1.out; rw [HKF.out, List.length_append, ← HNO.out] at h1; have := HNI.out; simp at h1; omega⟩, HO9, B1, HB9⟩
        case measure => simp [intOf]; omega
    · obtain rfl : i = l.length := by omega
      have hs : Srt w L cl l g1 O no co (mustsP l l.length) wr := ⟨HB.out, B1.out, HO.out, HNO.out, mustsP_in l l.length (Nat.le_refl _)⟩
      have HS := Aside0.mk hs
      have hno := HNI.out
      clear hs HO HB B1
      go_wp2_with (first | (go_at_call 32; refine (sort32 HL.out (by omega) _ HS.out).mono ?_; rintro e w5 ⟨rfl, hs⟩; rw [HR.out] at hs; have HS2 := Aside0.mk hs; clear hs))
      go_ret
      exact ⟨O, co, by rw [HRL.out, ← HNO.out]; rfl, by rw [HRL.out, ← HNO.out]; exact HS2.out.hr, HS2.out.hb⟩

end Go.Proofs.Ytjieagpfnnbiiaa.XLin
