/- The sort; linear.Order. -/
import Derived.Test.YtjieagpfnnbiiaaBHLin24
namespace Go.Proofs.Ytjieagpfnnbiiaa.XLin
open Go Go.RowKit Go.Proofs.YtjieagpfnnbiiaaW.PrintWords Go.Proofs.YtjieagpfnnbiiaaW.PrintLast Go.Proofs.YtjieagpfnnbiiaaW.PrintMore
open Go.Proofs.Ytjieagpfnnbiiaa
set_option linter.unusedVariables false
set_option linter.unusedSimpArgs false
def r68_4.T : Bool × List (List Nat × List Nat) := (true, [([], []), ([], []), ([0, 1], [0, 1]), ([2], [2]), ([3], [3]), ([3], [3]), ([3], [3]), ([5, 6, 3], [3, 5, 6]), ([7, 3], [3, 7]), ([3], [3]), ([3], [3]), ([10, 3], [3, 10]), ([9, 11, 3], [3, 9, 11]), ([12, 3], [3, 12]), ([4, 8, 13, 3, 3], [3, 4, 8, 13]), ([14, 3], [3, 14]), ([3, 15], [3, 15])])
def r68_4.B : List Nat := [0, 0, 3, 7, 15, 15, 15, 111, 239, 15, 15, 1039, 3599, 7695, 16383, 32767, 65535]
theorem r68_4.tab : rtab .any (opsOf Try.f68 4) = r68_4.T := by kernel_rfl
theorem r68_4.bits : waitsOk r68_4.T.2 r68_4.B = true := by kernel_rfl
def r68_6.T : Bool × List (List Nat × List Nat) := (true, [([], []), ([], []), ([], []), ([], []), ([3], [3]), ([], []), ([], []), ([6], [6]), ([5, 7], [5, 7]), ([8], [8]), ([], []), ([], []), ([10, 11], [10, 11]), ([12], [12]), ([0, 1, 0, 1, 5, 6, 7, 8, 9, 13], [0, 1]), ([14, 9, 0, 1, 5, 6, 7, 8, 9, 13], [9, 14]), ([2, 4, 0, 1, 2, 3, 4, 5, 6, 7, 8, 9, 10, 11, 12, 13, 14, 15], [2, 4]), ([16, 13, 15, 0, 1, 2, 3, 4, 5, 6, 7, 8, 9, 10, 11, 12, 13, 14, 15], [13, 16])])
def r68_6.B : List Nat := [0, 0, 0, 0, 8, 0, 0, 64, 224, 480, 0, 0, 3072, 7168, 16355, 32739, 65535, 131071]
theorem r68_6.tab : rtab .any (opsOf Try.f68 6) = r68_6.T := by kernel_rfl
theorem r68_6.bits : waitsOk r68_6.T.2 r68_6.B = true := by kernel_rfl
theorem goesC_ {P : Program} {ops : Array Oper} {Q : Exit → Act → World → Prop} {oi : Oper} {N : Option Tmp} {a : Act} {w : World} {K : Act → World → Prop} {f : FuncId} {fn : Func} {fo : Operand} {as0 : Array Operand} {ts : Array TypeId} {caps : Array Value} (hf : P.funcs[f]? = some fn) (hname : (fn.name == "runtime.NumGoroutine") = false) (hb : fn.body.isSome = true) (args : Array Value)
    (hw : Region.wanted oi (yielded ops a.tmps) = true) (hN : oi.dst = N) (hop : oi.op = .call { callee := .value fo, args := as0, argTypes := ts }) (hfo : a.eval fo = .func (.func f) #[] caps) (hargs : as0.map a.eval = args)
    (h : Calls P f (args ++ caps) w fun e w' => ∃ v, e = .returned v ∧ K (a.put N v) w') : if Region.wanted oi (yielded ops a.tmps) = true then Oper.wp P oi a w K Q else K (a.put N undef) w :=
  call_ f (args ++ caps) hw hN (by
    have he := enters_ hf hname hb (args ++ caps) w
    unfold execOp
    simp [hop, resolve, hfo, Deferred.ofValue, invoke, hargs, he]) h
/-- One is brought down to its place. -/
def downP (lt : Int → Int → Bool) : Nat → List Int → List Int
  | 0, xs => xs
  | j + 1, xs => if lt (xs.getD (j + 1) 0) (xs.getD j 0) = true then downP lt j (swapP xs j) else xs
/-- The insertion sort. -/
def isortP (lt : Int → Int → Bool) (xs : List Int) : List Int := (List.range' 1 (xs.length - 1)).foldl (fun ys i => downP lt i ys) xs
def ltP (l : List S36) (a b : Int) : Bool := decide (byP (l.getD a.toNat z36) (l.getD b.toNat z36) < 0)
theorem downP_len (lt : Int → Int → Bool) : ∀ (j : Nat) (xs : List Int), (downP lt j xs).length = xs.length
  | 0, _ => rfl
  | j + 1, xs => by
    unfold downP
    split
    · rw [downP_len lt j, swapP_len]
    · rfl
def InL (l : List S36) (xs : List Int) : Prop := ∀ v ∈ xs, ∃ j : Nat, v = (j : Int) ∧ j < l.length
theorem getD_mem {xs : List Int} {i : Nat} (h : i < xs.length) : xs.getD i 0 ∈ xs := by rw [List.getD_eq_getElem?_getD, List.getElem?_eq_getElem h]; exact List.getElem_mem h
theorem swap_comm (xs : List Int) (k : Nat) (a b : Int) : (xs.set (k + 1) a).set k b = (xs.set k b).set (k + 1) a := List.set_comm _ _ (by omega)
def cmpV (gl : Nat) : Value := .func (.func 33) #[] #[.pointer (some ⟨gl, 0, none⟩)]
/-- What the sort's world holds. -/
structure Srt (w0 : World) (L : Option Addr) (cl : Nat) (l : List S36) (gl : Nat) (A : Option Addr) (n c : Nat) (ys : List Int) (wr : World) : Prop where
  hb : Below w0.heap.size w0 wr
  hg : wr.heap[gl]? = some (.cells #[.slice L l.length cl] 26 (0, 0))
  hr : Kd.R (Kd.int .i64) 3 wr w0.heap.size (fun _ => True) (.slice A n c) ys
  hn : n = ys.length
  hi : InL l ys
theorem Srt.below {w0 wr w' : World} {L : Option Addr} {cl : Nat} {l : List S36} {gl : Nat} {A : Option Addr} {n c : Nat} {ys : List Int} (h : Srt w0 L cl l gl A n c ys wr) (hb : Below wr.heap.size wr w') : Srt w0 L cl l gl A n c ys w' :=
  ⟨below_step h.hb hb, blk_below h.hg hb, Kd.R_below h.hr hb, h.hn, h.hi⟩
theorem Srt.put {w0 wr : World} {L : Option Addr} {cl : Nat} {l : List S36} {gl gs : Nat} {n c : Nat} {ys : List Int} (h : Srt w0 L cl l gl (some ⟨gs, 0, none⟩) n c ys wr) {i : Nat} (hi : i < n) {pb : Nat} (hp : pb < l.length) : Srt w0 L cl l gl (some ⟨gs, 0, none⟩) n c (ys.set i (pb : Int)) (wr.setCell ⟨gs, i, none⟩ (.int .i64 (pb : Int))) := by
  have hr := Kd.R_putn h.hr (i : Int) (pb : Int)
  rw [Int.toNat_natCast] at hr
  have hne : gl ≠ gs := fun e => Kd.R_ne h.hr h.hg (by decide) (by rw [e]; simp [Value.ownBlock])
  refine ⟨h.hb.setCell (p := ⟨gs, i, none⟩) (Kd.R_base h.hr gs (by simp [Value.ownBlock])) _, blk_far h.hg (p := ⟨gs, i, none⟩) hne _, hr, by rw [List.length_set]; exact h.hn, fun v hv => ?_⟩
  rcases List.mem_or_eq_of_mem_set hv with h1 | rfl
  · exact h.hi v h1
  · exact ⟨pb, rfl, hp⟩
set_option maxHeartbeats 8000000 in
set_option maxRecDepth 100000 in
theorem insertion68 {w0 : World} {L : Option Addr} {cl : Nat} {l : List S36} {gl : Nat} {A : Option Addr} {n c : Nat} {xs : List Int} (hl : Kd.C k36 w0 L l.length l) (hn : n ≤ 1000) : ∀ w : World, Srt w0 L cl l gl A n c xs w →
    Calls Try.prog 68 #[.slice A n c, .int .i64 0, .int .i64 (n : Int), cmpV gl] w fun e w' => e = .returned (.tuple #[]) ∧ Srt w0 L cl l gl A n c (isortP (ltP l) xs) w' := by
  intro w hs
  have HS := Aside0.mk hs
  have HL := Aside0.mk hl
  have hn20 := hn
  clear hs hl
  obtain ⟨r, hr⟩ : ∃ r, isortP (ltP l) xs = r := ⟨_, rfl⟩
  rw [hr]
  unfold isortP at hr
  rw [← HS.out.hn] at hr
  have HR := Aside0.mk hr
  clear hr
  unfold cmpV
  go_enter Try.func68, Try.ntmps68
  go_upto_region 1 with (fail)
  go_loopw [8] (fun v8 wr => ∃ (i : Nat) (ys : List Int), 1 ≤ i ∧ v8 = .int .i64 (i : Int) ∧ Aside0 (i ≤ n ∨ n = 0) ∧ Aside0 ((List.range' i (n - i)).foldl (fun ys i => downP (ltP l) i ys) ys = r) ∧ Aside0 (Srt w0 L cl l gl A n c ys wr)) (fun v8 _ => n - (intOf v8).toNat)
  case atStart => exact ⟨1, xs, Nat.le_refl 1, rfl, ⟨by omega⟩, HR, HS⟩
  case round =>
    clear HS HR
    obtain ⟨i, ys, hi1, rfl, HI, HEQ, HS⟩ := hrel
    rename World => wr
    by_cases hlt : i < n
    · obtain ⟨gs, cs, hv, _, _⟩ := Kd.R_form HS.out.hr (by rw [← HS.out.hn]; omega)
      injection hv with hv1 hv2 hv3
      clear hv2 hv3
      subst hv1
      have hrg : List.range' i (n - i) = i :: List.range' (i + 1) (n - (i + 1)) := by rw [show n - i = (n - (i + 1)) + 1 by omega, List.range'_succ]
      have heq := HEQ.out
      rw [hrg, List.foldl_cons] at heq
      obtain ⟨zs, hzs⟩ : ∃ zs, downP (ltP l) i ys = zs := ⟨_, rfl⟩
      rw [hzs] at heq
      have HEQ2 := Aside0.mk heq
      have HZS := Aside0.mk hzs
      clear heq hzs hrg HEQ
      have hlt' : (i : Int) < (n : Int) := by omega
      go_upto_block 1 with (fail)
      go_cut [] (fun wx => Aside0 (Srt w0 L cl l gl (some ⟨gs, 0, none⟩) n c zs wx))
      case first =>
        go_upto_region 4 with (fail)
        go_loopw [9] (fun v9 wr => ∃ (j : Nat) (us : List Int), j < n ∧ v9 = .int .i64 (j : Int) ∧ Aside0 (downP (ltP l) j us = zs) ∧ Aside0 (Srt w0 L cl l gl (some ⟨gs, 0, none⟩) n c us wr)) (fun v9 _ => (intOf v9).toNat)
        case atStart => exact ⟨i, ys, hlt, rfl, HZS, HS⟩
        case round =>
          clear HS HZS
          obtain ⟨j, us, hjn, rfl, HZS, HS⟩ := hrel
          rename World => wr
          by_cases hj0 : j = 0
          · subst hj0
            have HF : Aside0 (us = zs) := ⟨HZS.out⟩
            go_upto_region 4 with (fail)
            go_quiet (fail)
            go_wp2
            go_meet
            case rel => exact ⟨by rw [← HF.out]; exact Srt.below HS.out (pw_below_drewN (Below.refl _ _) _)⟩
          obtain ⟨k, hk⟩ : ∃ k, j = k + 1 := ⟨j - 1, by omega⟩
          have hkn2 : k < n := by omega
          have HUL := Aside0.mk HS.out.hn
          obtain ⟨pa, hpa, hpl⟩ := HS.out.hi _ (getD_mem (xs := us) (i := j) (by rw [← HUL.out]; exact hjn))
          obtain ⟨pb, hpb, hql⟩ := HS.out.hi _ (getD_mem (xs := us) (i := k) (by rw [← HUL.out]; omega))
          obtain ⟨ca, caf⟩ := own_cell HS.out.hr j hjn
          obtain ⟨cb, cbf⟩ := own_cell HS.out.hr k hkn2
          rw [hpa] at ca
          rw [hpb] at cb
          have CA_ := Aside0.mk ca
          have CAF := Aside0.mk caf
          have CB_ := Aside0.mk cb
          have CBF := Aside0.mk cbf
          have HPA := Aside0.mk hpa
          have HPB := Aside0.mk hpb
          clear ca caf cb cbf hpa hpb
          have hj1 : (0 : Int) < (j : Int) := by omega
          have hj2 : (j : Int) < (n : Int) := by omega
          have hk2 : (k : Int) < (n : Int) := by omega
          have hjw : wrap64 ((j : Int) - 1) = (k : Int) := by rw [show (j : Int) - 1 = (k : Int) by omega]; exact w64' (by omega) (by omega)
          have hgt : decide ((j : Int) > 0) = true := decide_eq_true (by omega)
          have hgt2 : decide (0 < (j : Int)) = true := decide_eq_true (by omega)
          have hjp : 0 < j := by omega
          have hgt3 : decide (0 < j) = true := decide_eq_true hjp
          have HJK := Aside0.mk hk
          have HJW := Aside0.mk hjw
          clear hk hj0
          have hzs := HZS.out
          rw [HJK.out] at hzs
          unfold downP at hzs
          rw [← HJK.out, HPA.out, HPB.out] at hzs
          unfold ltP at hzs
          rw [Int.toNat_natCast, Int.toNat_natCast] at hzs
          obtain ⟨v, hv⟩ : ∃ v, byP (l.getD pa z36) (l.getD pb z36) = v := ⟨_, rfl⟩
          rw [hv] at hzs
          have HZ2 := Aside0.mk hzs
          have HVV := Aside0.mk hv
          clear hzs hv HZS
          go_upto_region 4 with (fail)
          refine start_ (n := 17) (S := fun w' => Below wr.heap.size wr w') (ds := []) #[false, false, false, false, false, false, false, false, false, false, false, false, false, false, false, false, false] (by kernel_rfl) rfl rfl (below_drew (Below.refl _ _)) (fun hHeld => ?_)
          refine with_tabW r68_4.tab r68_4.bits (fun HT_ HW_ => ?_)
          generalize wr.drew = wd at hHeld ⊢
          refine pure_ (i := 0) (N := some 18) (v := ?_) (a' := ?_) #[true, false, false, false, false, false, false, false, false, false, false, false, false, false, false, false, false] rfl rfl (any_of HT_.out (by kernel_rfl)) (fun _ _ _ h => h) (Or.inl ⟨by rfl, ?_⟩) ?_ ?_
          rotate_left
          · intro w'
            go_simp
            with_reducible rfl
          rotate_left
          · simp only [Act.put, List.setIfInBounds_toArray, List.set_cons_zero, List.set_cons_succ, i64_w, i32_w]
            rfl
          refine pure_ (i := 1) (N := some 19) (v := ?_) (a' := ?_) #[true, true, false, false, false, false, false, false, false, false, false, false, false, false, false, false, false] rfl rfl (any_of HT_.out (by kernel_rfl)) (fun _ _ _ h => h) (Or.inl ⟨by rfl, ?_⟩) ?_ ?_
          rotate_left
          · intro w'
            go_simp
            with_reducible rfl
          rotate_left
          · simp only [Act.put, List.setIfInBounds_toArray, List.set_cons_zero, List.set_cons_succ, i64_w, i32_w]
            rfl
          refine pure_ (i := 2) (N := some 20) (v := ?_) (a' := ?_) #[true, true, true, false, false, false, false, false, false, false, false, false, false, false, false, false, false] rfl rfl (any_of HT_.out (by kernel_rfl)) (fun _ _ _ h => h) (Or.inl ⟨by rfl, ?_⟩) ?_ ?_
          rotate_left
          · intro w'
            go_simp
            with_reducible rfl
          rotate_left
          · simp only [Act.put, List.setIfInBounds_toArray, List.set_cons_zero, List.set_cons_succ, i64_w, i32_w]
            rfl
          refine pure_ (i := 3) (N := some 21) (v := ?_) (a' := ?_) #[true, true, true, true, false, false, false, false, false, false, false, false, false, false, false, false, false] rfl rfl (any_of HT_.out (by kernel_rfl)) (fun _ _ _ h => h) (Or.inl ⟨by rfl, ?_⟩) ?_ ?_
          rotate_left
          · intro w'
            go_simp
            with_reducible rfl
          rotate_left
          · simp only [Act.put, List.setIfInBounds_toArray, List.set_cons_zero, List.set_cons_succ, i64_w, i32_w]
            rfl
          refine pure_ (i := 4) (N := some 22) (v := ?_) (a' := ?_) #[true, true, true, true, true, false, false, false, false, false, false, false, false, false, false, false, false] rfl rfl (any_of HT_.out (by kernel_rfl)) (fun _ _ _ h => h) (Or.inl ⟨by rfl, ?_⟩) ?_ ?_
          rotate_left
          · intro w'
            go_simp
            with_reducible rfl
          rotate_left
          · simp only [Act.put, List.setIfInBounds_toArray, List.set_cons_zero, List.set_cons_succ, i64_w, i32_w]
            rfl
          refine pure_ (i := 5) (N := some 23) (v := ?_) (a' := ?_) #[true, true, true, true, true, true, false, false, false, false, false, false, false, false, false, false, false] rfl rfl (any_of HT_.out (by kernel_rfl)) (fun _ _ _ h => h) (Or.inl ⟨by rfl, ?_⟩) ?_ ?_
          rotate_left
          · intro w'
            go_simp
            with_reducible rfl
          rotate_left
          · simp only [Act.put, List.setIfInBounds_toArray, List.set_cons_zero, List.set_cons_succ, i64_w, i32_w]
            rfl
          refine pure_ (i := 6) (N := some 24) (v := ?_) (a' := ?_) #[true, true, true, true, true, true, true, false, false, false, false, false, false, false, false, false, false] rfl rfl (any_of HT_.out (by kernel_rfl)) (fun _ _ _ h => h) (Or.inl ⟨by rfl, ?_⟩) ?_ ?_
          rotate_left
          · intro w'
            go_simp
            with_reducible rfl
          rotate_left
          · simp only [Act.put, List.setIfInBounds_toArray, List.set_cons_zero, List.set_cons_succ, i64_w, i32_w]
            rfl
          refine pure_ (i := 7) (N := some 25) (v := ?_) (a' := ?_) #[true, true, true, true, true, true, true, true, false, false, false, false, false, false, false, false, false] rfl rfl (any_of HT_.out (by kernel_rfl)) (fun _ _ _ h => h) (Or.inl ⟨by rfl, ?_⟩) ?_ ?_
          rotate_left
          · intro w'
            go_simp
            with_reducible rfl
          rotate_left
          · simp only [Act.put, List.setIfInBounds_toArray, List.set_cons_zero, List.set_cons_succ, i64_w, i32_w]
            rfl
          refine take_ (i := 8) (N := some 26) (v := ?_) (a' := ?_) #[true, true, true, true, true, true, true, true, true, false, false, false, false, false, false, false, false] rfl rfl (take_ofW HT_.out HW_.out (by kernel_rfl)) (fun _ _ _ h => h) (Or.inl ⟨by rfl, ?_⟩) hHeld ?_ ?_
          rotate_left
          · rintro w' hbq
            have c_0 := (hbq.cell (World.block_lt_of_cell? wr _ CA_.out)).trans CA_.out
            go_simp
            with_reducible rfl
          rotate_left
          · simp only [Act.put, List.setIfInBounds_toArray, List.set_cons_zero, List.set_cons_succ, i64_w, i32_w]
            rfl
          refine pure_ (i := 9) (N := some 27) (v := ?_) (a' := ?_) #[true, true, true, true, true, true, true, true, true, true, false, false, false, false, false, false, false] rfl rfl (any_of HT_.out (by kernel_rfl)) (fun _ _ _ h => h) (Or.inl ⟨by rfl, ?_⟩) ?_ ?_
          rotate_left
          · intro w'
            go_simp
            with_reducible rfl
          rotate_left
          · simp only [Act.put, List.setIfInBounds_toArray, List.set_cons_zero, List.set_cons_succ, i64_w, i32_w]
            rfl
          refine pure_ (i := 10) (N := some 28) (v := ?_) (a' := ?_) #[true, true, true, true, true, true, true, true, true, true, true, false, false, false, false, false, false] rfl rfl (any_of HT_.out (by kernel_rfl)) (fun _ _ _ h => h) (Or.inl ⟨by rfl, ?_⟩) ?_ ?_
          rotate_left
          · intro w'
            go_simp
            with_reducible rfl
          rotate_left
          · simp only [Act.put, List.setIfInBounds_toArray, List.set_cons_zero, List.set_cons_succ, i64_w, i32_w]
            rfl
          refine pure_ (i := 11) (N := some 29) (v := ?_) (a' := ?_) #[true, true, true, true, true, true, true, true, true, true, true, true, false, false, false, false, false] rfl rfl (any_of HT_.out (by kernel_rfl)) (fun _ _ _ h => h) (Or.inl ⟨by rfl, ?_⟩) ?_ ?_
          rotate_left
          · intro w'
            go_simp
            with_reducible rfl
          rotate_left
          · simp only [Act.put, List.setIfInBounds_toArray, List.set_cons_zero, List.set_cons_succ, i64_w, i32_w]
            rfl
          refine pure_ (i := 12) (N := some 30) (v := ?_) (a' := ?_) #[true, true, true, true, true, true, true, true, true, true, true, true, true, false, false, false, false] rfl rfl (any_of HT_.out (by kernel_rfl)) (fun _ _ _ h => h) (Or.inl ⟨by rfl, ?_⟩) ?_ ?_
          rotate_left
          · intro w'
            go_simp
            with_reducible rfl
          rotate_left
          · simp only [Act.put, List.setIfInBounds_toArray, List.set_cons_zero, List.set_cons_succ, i64_w, i32_w]
            rfl
          refine take_ (i := 13) (N := some 31) (v := ?_) (a' := ?_) #[true, true, true, true, true, true, true, true, true, true, true, true, true, true, false, false, false] rfl rfl (take_ofW HT_.out HW_.out (by kernel_rfl)) (fun _ _ _ h => h) (Or.inl ⟨by rfl, ?_⟩) hHeld ?_ ?_
          rotate_left
          · rintro w' hbq
            have c_0 := (hbq.cell (World.block_lt_of_cell? wr _ CB_.out)).trans CB_.out
            go_simp
            with_reducible rfl
          rotate_left
          · simp only [Act.put, List.setIfInBounds_toArray, List.set_cons_zero, List.set_cons_succ, i64_w, i32_w]
            rfl
          refine one_ (i := 14) (N := some 32) #[true, true, true, true, true, true, true, true, true, true, true, true, true, true, true, false, false] rfl rfl (one_of HT_.out (by kernel_rfl)) (by decide) (fun K hK => ?_)
          refine goesC_ Try.func33 (by kernel_rfl) rfl #[.int .i64 (pa : Int), .int .i64 (pb : Int)] (by rfl) rfl rfl (by rfl) (by first | done | rfl | (simp only [List.map_toArray, List.map_cons, List.map_nil]; rfl)) ?_
          refine (by33 gl L cl l pa pb _ (blk_below HS.out.hg hHeld) (Kd.C_below HL.out (below_step HS.out.hb hHeld)) hpl hql).mono ?_
          rw [HVV.out]
          rintro e0 wq ⟨rfl, hb⟩
          refine ⟨_, rfl, ?_⟩
          have hx := below_step hHeld hb
          refine hK.out _ _ hx (fun hNew => ?_)
          clear hK K hx hb hHeld
          have hHeld := hNew
          clear hNew
          refine norm_ (a' := ?_) ?_ ?_
          rotate_left
          · show Act.put _ (some 32) _ = _
            simp only [Act.put, List.setIfInBounds_toArray, List.set_cons_zero, List.set_cons_succ, i64_w, i32_w]
            rfl
          refine pure_ (i := 15) (N := some 33) (v := ?_) (a' := ?_) #[true, true, true, true, true, true, true, true, true, true, true, true, true, true, true, true, false] rfl rfl (any_of HT_.out (by kernel_rfl)) (fun _ _ _ h => h) (Or.inl ⟨by rfl, ?_⟩) ?_ ?_
          rotate_left
          · intro w'
            go_simp
            with_reducible rfl
          rotate_left
          · simp only [Act.put, List.setIfInBounds_toArray, List.set_cons_zero, List.set_cons_succ, i64_w, i32_w]
            rfl
          refine pure_ (i := 16) (N := some 34) (v := ?_) (a' := ?_) #[true, true, true, true, true, true, true, true, true, true, true, true, true, true, true, true, true] rfl rfl (any_of HT_.out (by kernel_rfl)) (fun _ _ _ h => h) (Or.inl ⟨by rfl, ?_⟩) ?_ ?_
          rotate_left
          · intro w'
            go_simp
            with_reducible rfl
          rotate_left
          · simp only [Act.put, List.setIfInBounds_toArray, List.set_cons_zero, List.set_cons_succ, i64_w, i32_w]
            rfl
          refine done_ (done_of HT_.out (by kernel_rfl)) ?_
          have n_HS := Aside0.mk (Srt.below HS.out hHeld)
          have n_CA := Aside0.mk ((hHeld.cell (World.block_lt_of_cell? wr _ CA_.out)).trans CA_.out)
          have n_CB := Aside0.mk ((hHeld.cell (World.block_lt_of_cell? wr _ CB_.out)).trans CB_.out)
          have n_CAF := Aside0.mk ((hHeld.frozen (World.block_lt_of_cell? wr _ CA_.out)).trans CAF.out)
          have n_CBF := Aside0.mk ((hHeld.frozen (World.block_lt_of_cell? wr _ CB_.out)).trans CBF.out)
          clear HS CA_ CB_ CAF CBF hHeld
          have HS := n_HS
          have CA_ := n_CA
          have CB_ := n_CB
          have CAF := n_CAF
          have CBF := n_CBF
          clear n_HS n_CA n_CB n_CAF n_CBF
          rename World => w8
          by_cases hv0 : v < 0
          rotate_left
          · have d0 : decide (v < 0) = false := decide_eq_false hv0
            have HF : Aside0 (us = zs) := ⟨by have h := HZ2.out; rw [if_neg (by rw [d0]; decide)] at h; exact h⟩
            go_wp2
            go_meet
            case rel => exact ⟨by rw [← HF.out]; exact HS.out⟩
          have d0 : decide (v < 0) = true := decide_eq_true hv0
          have HF : Aside0 (downP (ltP l) k (swapP us k) = zs) := ⟨by have h := HZ2.out; rw [if_pos d0] at h; exact h⟩
          go_upto_region 6 with (fail)
          clear d0 hv0
          refine start_ (n := 18) (S := fun w' => Below w8.heap.size w8 w') (ds := [15, 17]) #[false, false, false, false, false, false, false, false, false, false, false, false, false, false, false, false, false, false] (by kernel_rfl) rfl rfl (below_drew (Below.refl _ _)) (fun hHeld => ?_)
          refine with_tabW r68_6.tab r68_6.bits (fun HT_ HW_ => ?_)
          generalize w8.drew = wd at hHeld ⊢
          refine pure_ (i := 0) (N := some 37) (v := ?_) (a' := ?_) #[true, false, false, false, false, false, false, false, false, false, false, false, false, false, false, false, false, false] rfl rfl (any_of HT_.out (by kernel_rfl)) (fun _ _ _ h => h) (Or.inl ⟨by rfl, ?_⟩) ?_ ?_
          rotate_left
          · intro w'
            go_simp
            with_reducible rfl
          rotate_left
          · simp only [Act.put, List.setIfInBounds_toArray, List.set_cons_zero, List.set_cons_succ, i64_w, i32_w]
            rfl
          refine pure_ (i := 1) (N := some 38) (v := ?_) (a' := ?_) #[true, true, false, false, false, false, false, false, false, false, false, false, false, false, false, false, false, false] rfl rfl (any_of HT_.out (by kernel_rfl)) (fun _ _ _ h => h) (Or.inl ⟨by rfl, ?_⟩) ?_ ?_
          rotate_left
          · intro w'
            go_simp
            with_reducible rfl
          rotate_left
          · simp only [Act.put, List.setIfInBounds_toArray, List.set_cons_zero, List.set_cons_succ, i64_w, i32_w]
            rfl
          refine pure_ (i := 2) (N := some 39) (v := ?_) (a' := ?_) #[true, true, true, false, false, false, false, false, false, false, false, false, false, false, false, false, false, false] rfl rfl (any_of HT_.out (by kernel_rfl)) (fun _ _ _ h => h) (Or.inl ⟨by rfl, ?_⟩) ?_ ?_
          rotate_left
          · intro w'
            go_simp
            with_reducible rfl
          rotate_left
          · simp only [Act.put, List.setIfInBounds_toArray, List.set_cons_zero, List.set_cons_succ, i64_w, i32_w]
            rfl
          refine pure_ (i := 3) (N := some 40) (v := ?_) (a' := ?_) #[true, true, true, true, false, false, false, false, false, false, false, false, false, false, false, false, false, false] rfl rfl (any_of HT_.out (by kernel_rfl)) (fun _ _ _ h => h) (Or.inl ⟨by rfl, ?_⟩) ?_ ?_
          rotate_left
          · intro w'
            go_simp
            with_reducible rfl
          rotate_left
          · simp only [Act.put, List.setIfInBounds_toArray, List.set_cons_zero, List.set_cons_succ, i64_w, i32_w]
            rfl
          refine pure_ (i := 4) (N := some 41) (v := ?_) (a' := ?_) #[true, true, true, true, true, false, false, false, false, false, false, false, false, false, false, false, false, false] rfl rfl (any_of HT_.out (by kernel_rfl)) (fun _ _ _ h => h) (Or.inl ⟨by rfl, ?_⟩) ?_ ?_
          rotate_left
          · intro w'
            go_simp
            with_reducible rfl
          rotate_left
          · simp only [Act.put, List.setIfInBounds_toArray, List.set_cons_zero, List.set_cons_succ, i64_w, i32_w]
            rfl
          refine pure_ (i := 5) (N := some 42) (v := ?_) (a' := ?_) #[true, true, true, true, true, true, false, false, false, false, false, false, false, false, false, false, false, false] rfl rfl (any_of HT_.out (by kernel_rfl)) (fun _ _ _ h => h) (Or.inl ⟨by rfl, ?_⟩) ?_ ?_
          rotate_left
          · intro w'
            go_simp
            with_reducible rfl
          rotate_left
          · simp only [Act.put, List.setIfInBounds_toArray, List.set_cons_zero, List.set_cons_succ, i64_w, i32_w]
            rfl
          refine pure_ (i := 6) (N := some 43) (v := ?_) (a' := ?_) #[true, true, true, true, true, true, true, false, false, false, false, false, false, false, false, false, false, false] rfl rfl (any_of HT_.out (by kernel_rfl)) (fun _ _ _ h => h) (Or.inl ⟨by rfl, ?_⟩) ?_ ?_
          rotate_left
          · intro w'
            go_simp
            with_reducible rfl
          rotate_left
          · simp only [Act.put, List.setIfInBounds_toArray, List.set_cons_zero, List.set_cons_succ, i64_w, i32_w]
            rfl
          refine pure_ (i := 7) (N := some 44) (v := ?_) (a' := ?_) #[true, true, true, true, true, true, true, true, false, false, false, false, false, false, false, false, false, false] rfl rfl (any_of HT_.out (by kernel_rfl)) (fun _ _ _ h => h) (Or.inl ⟨by rfl, ?_⟩) ?_ ?_
          rotate_left
          · intro w'
            go_simp
            with_reducible rfl
          rotate_left
          · simp only [Act.put, List.setIfInBounds_toArray, List.set_cons_zero, List.set_cons_succ, i64_w, i32_w]
            rfl
          refine pure_ (i := 8) (N := some 45) (v := ?_) (a' := ?_) #[true, true, true, true, true, true, true, true, true, false, false, false, false, false, false, false, false, false] rfl rfl (any_of HT_.out (by kernel_rfl)) (fun _ _ _ h => h) (Or.inl ⟨by rfl, ?_⟩) ?_ ?_
          rotate_left
          · intro w'
            go_simp
            with_reducible rfl
          rotate_left
          · simp only [Act.put, List.setIfInBounds_toArray, List.set_cons_zero, List.set_cons_succ, i64_w, i32_w]
            rfl
          refine take_ (i := 9) (N := some 46) (v := ?_) (a' := ?_) #[true, true, true, true, true, true, true, true, true, true, false, false, false, false, false, false, false, false] rfl rfl (take_ofW HT_.out HW_.out (by kernel_rfl)) (fun _ _ _ h => h) (Or.inl ⟨by rfl, ?_⟩) hHeld ?_ ?_
          rotate_left
          · rintro w' hbq
            have c_0 := (hbq.cell (World.block_lt_of_cell? w8 _ CB_.out)).trans CB_.out
            go_simp
            with_reducible rfl
          rotate_left
          · simp only [Act.put, List.setIfInBounds_toArray, List.set_cons_zero, List.set_cons_succ, i64_w, i32_w]
            rfl
          refine pure_ (i := 10) (N := some 47) (v := ?_) (a' := ?_) #[true, true, true, true, true, true, true, true, true, true, true, false, false, false, false, false, false, false] rfl rfl (any_of HT_.out (by kernel_rfl)) (fun _ _ _ h => h) (Or.inl ⟨by rfl, ?_⟩) ?_ ?_
          rotate_left
          · intro w'
            go_simp
            with_reducible rfl
          rotate_left
          · simp only [Act.put, List.setIfInBounds_toArray, List.set_cons_zero, List.set_cons_succ, i64_w, i32_w]
            rfl
          refine pure_ (i := 11) (N := some 48) (v := ?_) (a' := ?_) #[true, true, true, true, true, true, true, true, true, true, true, true, false, false, false, false, false, false] rfl rfl (any_of HT_.out (by kernel_rfl)) (fun _ _ _ h => h) (Or.inl ⟨by rfl, ?_⟩) ?_ ?_
          rotate_left
          · intro w'
            go_simp
            with_reducible rfl
          rotate_left
          · simp only [Act.put, List.setIfInBounds_toArray, List.set_cons_zero, List.set_cons_succ, i64_w, i32_w]
            rfl
          refine pure_ (i := 12) (N := some 49) (v := ?_) (a' := ?_) #[true, true, true, true, true, true, true, true, true, true, true, true, true, false, false, false, false, false] rfl rfl (any_of HT_.out (by kernel_rfl)) (fun _ _ _ h => h) (Or.inl ⟨by rfl, ?_⟩) ?_ ?_
          rotate_left
          · intro w'
            go_simp
            with_reducible rfl
          rotate_left
          · simp only [Act.put, List.setIfInBounds_toArray, List.set_cons_zero, List.set_cons_succ, i64_w, i32_w]
            rfl
          refine take_ (i := 13) (N := some 50) (v := ?_) (a' := ?_) #[true, true, true, true, true, true, true, true, true, true, true, true, true, true, false, false, false, false] rfl rfl (take_ofW HT_.out HW_.out (by kernel_rfl)) (fun _ _ _ h => h) (Or.inl ⟨by rfl, ?_⟩) hHeld ?_ ?_
          rotate_left
          · rintro w' hbq
            have c_0 := (hbq.cell (World.block_lt_of_cell? w8 _ CA_.out)).trans CA_.out
            go_simp
            with_reducible rfl
          rotate_left
          · simp only [Act.put, List.setIfInBounds_toArray, List.set_cons_zero, List.set_cons_succ, i64_w, i32_w]
            rfl
          refine pure_ (i := 14) (N := some 51) (v := ?_) (a' := ?_) #[true, true, true, true, true, true, true, true, true, true, true, true, true, true, true, false, false, false] rfl rfl (any_of HT_.out (by kernel_rfl)) (fun _ _ _ h => h) (Or.inl ⟨by rfl, ?_⟩) ?_ ?_
          rotate_left
          · intro w'
            go_simp
            with_reducible rfl
          rotate_left
          · simp only [Act.put, List.setIfInBounds_toArray, List.set_cons_zero, List.set_cons_succ, i64_w, i32_w]
            rfl
          have HSD := Aside0.mk (Srt.below HS.out hHeld)
          have ca := (hHeld.cell (World.block_lt_of_cell? w8 _ CA_.out)).trans CA_.out
          have caf := (hHeld.frozen (World.block_lt_of_cell? w8 _ CA_.out)).trans CAF.out
          clear hHeld CA_ CB_ CAF CBF HS
          refine last_ (i := 15) (N := none) #[true, true, true, true, true, true, true, true, true, true, true, true, true, true, true, true, false, false] rfl rfl (one_of HT_.out (by kernel_rfl)) (by decide) (fun K hK => ?_)
          refine skip_ (w1 := ?_) (by rfl) rfl ?_ ?_
          rotate_left
          · go_simp
            rfl
          refine hK.out _ _ ?_
          clear hK K ca caf
          have hs1 := Srt.put HSD.out (i := j) hjn hql (pb := pb)
          generalize (World.setCell _ ⟨gs, j, none⟩ (.int .i64 (pb : Int))) = w9 at hs1 ⊢
          have HS := Aside0.mk hs1
          clear hs1 HSD
          obtain ⟨cb, cbf⟩ := own_cell HS.out.hr k (by omega)
          refine pure_ (i := 16) (N := some 52) (v := ?_) (a' := ?_) #[true, true, true, true, true, true, true, true, true, true, true, true, true, true, true, true, true, false] rfl rfl (any_of HT_.out (by kernel_rfl)) (fun _ _ _ h => h) (Or.inl ⟨by rfl, ?_⟩) ?_ ?_
          rotate_left
          · intro w'
            go_simp
            with_reducible rfl
          rotate_left
          · simp only [Act.put, List.setIfInBounds_toArray, List.set_cons_zero, List.set_cons_succ, i64_w, i32_w]
            rfl
          refine last_ (i := 17) (N := none) #[true, true, true, true, true, true, true, true, true, true, true, true, true, true, true, true, true, true] rfl rfl (one_of HT_.out (by kernel_rfl)) (by decide) (fun K hK => ?_)
          refine skip_ (w1 := ?_) (by rfl) rfl ?_ ?_
          rotate_left
          · go_simp
            rfl
          refine hK.out _ _ ?_
          clear hK K cb cbf
          have hs1 := Srt.put HS.out (i := k) hkn2 hpl (pb := pa)
          rw [← HPA.out, ← HPB.out, HJK.out, swap_comm] at hs1
          have hs2 : Srt w0 L cl l gl (some ⟨gs, 0, none⟩) n c (swapP us k) _ := hs1
          rw [← HJK.out, HPA.out] at hs2
          generalize (World.setCell w9 ⟨gs, k, none⟩ (.int .i64 (pa : Int))) = w10 at hs2 ⊢
          clear HS hs1
          have HS := Aside0.mk hs2
          clear hs2
          refine done_ (done_of HT_.out (by kernel_rfl)) ?_
          go_wp2
          go_roundw
          case rel => exact ⟨k, swapP us k, hkn2, by first | (rw [show (j : Int) - 1 = (k : Int) by have := HJK.out; omega]) | rfl | (rw [HJW.out]), HF, HS⟩
          case measure => have hjk := HJK.out; have hjw2 := HJW.out; simp [intOf]; omega
      case rest =>
        clear HS
        have HS := hcut
        go_wp2
        go_roundw
        case rel => exact ⟨i + 1, zs, by omega, by go_num, ⟨by omega⟩, HEQ2, HS⟩
        case measure => simp [intOf]; omega
    · have HF : Aside0 (ys = r) := ⟨by have h := HEQ.out; rw [show n - i = 0 by omega] at h; exact h⟩
      have hge : ¬ (i : Int) < (n : Int) := by omega
      go_wp2
      (first | go_end0 | ((try simp only [Exit.inBlock, Exit.then]); refine bodyPost_ret (results_none rfl _ _ _) rfl ?_))
      exact ⟨rfl, by rw [← HF.out]; exact HS.out⟩

end Go.Proofs.Ytjieagpfnnbiiaa.XLin
