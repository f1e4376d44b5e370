/- Read and Loose of the given program's disk. -/
import Derived.Test.YteibdmpjlpcgbaaTHClone
namespace Go.Proofs.Yteibdmpjlpcgbaa.XDisk
open Go Go.RowKit Go.Proofs.YteibdmpjlpcgbaaW.PrintWords Go.Proofs.YteibdmpjlpcgbaaW.PrintLast Go.Proofs.YteibdmpjlpcgbaaW.PrintMore
open Go.Proofs.Yteibdmpjlpcgbaa
set_option linter.unusedVariables false
set_option linter.unusedSimpArgs false
set_option maxHeartbeats 8000000 in
set_option maxRecDepth 100000 in
theorem read_at (gd B : Nat) (φ : Nat → Tg) (S : DA) (nm : Nm) (w : World) (h : DAt w φ B gd S) (hnm : nm.length ≤ 1000) (hlen : (findP S nm).1.b.length ≤ 1000000) :
    Calls Try.prog 23 #[.pointer (some ⟨gd, 0, none⟩), .string (str nm)] w fun e w' => ∃ A c, e = .returned (.tuple #[.slice A (findP S nm).1.b.length c, .int .i64 (findP S nm).2]) ∧ Kd.R (Kd.int .u8) 5 w' w.heap.size (fun _ => True) (.slice A (findP S nm).1.b.length c) (findP S nm).1.b ∧ Below w.heap.size w w' := by
  have HH := Aside0.mk (find_at gd B φ S nm w h hnm)
  obtain ⟨r, hr⟩ : ∃ r, findP S nm = r := ⟨_, rfl⟩
  rw [hr] at HH hlen ⊢
  have HL := Aside0.mk hlen
  clear h hr hlen
  go_enter Try.func23, Try.ntmps23
  go_wp2_with (first | (go_at_call 45; refine HH.out.mono ?_; rintro e w5 ⟨g, rfl, ⟨A, c, h1, h2, h3⟩, hb⟩; have HB := Aside0.mk hb; have HC := Aside0.mk h2; have H3 := Aside0.mk h3; have c0 := (blk_cell h1 0).trans (show _ = some (.slice A r.1.b.length c) from rfl); clear h1 h2 h3 hb) | (go_at_call 46; refine (clone46_at A c r.1.b w5 HC.out H3.out HL.out).mono ?_; rintro e w6 ⟨A1, c1, rfl, hr1, hb1⟩; have HR1 := Aside0.mk hr1; have HB1 := Aside0.mk (below_step HB.out hb1); clear hr1 hb1))
  go_ret2
  exact ⟨A1, c1, rfl, Kd.R_lower HR1.out (below_size HB.out), HB1.out⟩
set_option maxHeartbeats 8000000 in
set_option maxRecDepth 100000 in
theorem loose_at (gd B : Nat) (φ : Nat → Tg) (S : DA) (nm : Nm) (w : World) (h : DAt w φ B gd S) (hnm : nm.length ≤ 1000) (hlen : (findP S nm).1.b.length ≤ 1000000) (hs0 : 0 ≤ (findP S nm).1.safe) (hs1 : (findP S nm).1.safe ≤ (findP S nm).1.b.length) :
    Calls Try.prog 30 #[.pointer (some ⟨gd, 0, none⟩), .string (str nm)] w fun e w' => e = .returned (.tuple #[.int .i64 ((findP S nm).1.b.length - (findP S nm).1.safe), .int .i64 (findP S nm).2]) ∧ Below w.heap.size w w' := by
  have HH := Aside0.mk (find_at gd B φ S nm w h hnm)
  obtain ⟨r, hr⟩ : ∃ r, findP S nm = r := ⟨_, rfl⟩
  rw [hr] at HH hlen hs0 hs1 ⊢
  clear h hr
  go_enter Try.func30, Try.ntmps30
  go_upto_region 2 with (first | (go_at_call 45; refine HH.out.mono ?_; rintro e w5 ⟨g, rfl, ⟨A, c, h1, h2, h3⟩, hb⟩; have HB := Aside0.mk hb; have c0 := (blk_cell h1 0).trans (show _ = some (.slice A r.1.b.length c) from rfl); have c1 := (blk_cell h1 1).trans (show _ = some (.int .i64 r.1.safe) from rfl); clear h1 h2 h3 hb))
  go_quiet (fail)
  go_wp2
  go_ret2
  refine ⟨?_, belowN HB.out _⟩
  rfl
end Go.Proofs.Yteibdmpjlpcgbaa.XDisk
