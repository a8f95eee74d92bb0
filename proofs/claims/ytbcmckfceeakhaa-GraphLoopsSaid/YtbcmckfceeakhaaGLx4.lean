-- Printed by a program of this session (wip/tools/turnprint.py), out of the translation. Not trusted: Lean checks it.
-- squeezed: the indentation halved
import Derived.Test.YtbcmckfceeakhaaGLx0
import Derived.Test.YtbcmckfceeakhaaGLx3
namespace Go.Proofs.Ytbcmckfceeakhaa.GL
open Go.RowKit Go.Proofs.YtbcmckfceeakhaaW.PrintWords Go.Proofs.YtbcmckfceeakhaaW.PrintLast Go.Proofs.YtbcmckfceeakhaaW.PrintMore
attribute [local go_sem] max2_int min2_int max_two min_two max_three min_three max_four min_four   -- for this text's walks alone
set_option linter.unusedVariables false
set_option linter.unusedSimpArgs false

/-! ### astrolaberef13_Decode: function 38 -/
mutual
def astrolaberef13_Decode.j0 : Nat → ByteArray → Int → Int → Int → Int → Int → Int → Option (Int × Int × Int × Int × Int × Int)
 | 0, _, _, _, _, _, _, _ => none
 | k + 1, x6, x7, x134000, x134001, x134002, x134003, x134004 => if 3 < (x6.size : Int) then (if (bt x6 3) = 45 then (astrolaberef13_Decode.j1 k x6 x7 x134000 x134001 x134002 x134003 x134004) else (astrolaberef13_Decode.j1 k x6 0 x134000 x134001 x134002 x134003 x7)) else (none)
def astrolaberef13_Decode.j1 : Nat → ByteArray → Int → Int → Int → Int → Int → Int → Option (Int × Int × Int × Int × Int × Int)
 | 0, _, _, _, _, _, _, _ => none
 | k + 1, x6, x7, x134000, x134001, x134002, x134003, x134004 => if 3 < (x6.size : Int) then (if (bt x6 3) = 115 then (astrolaberef13_Decode.j2 k x6 x7 (decide (x134004 ≥ 32768)) x134000 x134001 x134002 x134003 x134004) else (astrolaberef13_Decode.j2 k x6 x7 false x134000 x134001 x134002 x134003 x134004)) else (none)
def astrolaberef13_Decode.j2 : Nat → ByteArray → Int → Bool → Int → Int → Int → Int → Int → Option (Int × Int × Int × Int × Int × Int)
 | 0, _, _, _, _, _, _, _, _ => none
 | k + 1, x6, x7, x47, x134000, x134001, x134002, x134003, x134004 => if x47 = true then (if x7 = 0 then (if 0 < (x6.size : Int) then (if (bt x6 0) = 45 then (if x134001 = 0 then (if 1 < (x6.size : Int) then (if (bt x6 1) = 45 then (if x134002 = 0 then (some (x134000, x134001, x134002, x134003, wrap64 (x134004 - 65536), 0)) else (some (0, 0, 0, 0, 0, 3))) else (some (x134000, x134001, x134002, x134003, wrap64 (x134004 - 65536), 0))) else (none)) else (some (0, 0, 0, 0, 0, 3))) else (if 1 < (x6.size : Int) then (if (bt x6 1) = 45 then (if x134002 = 0 then (some (x134000, x134001, x134002, x134003, wrap64 (x134004 - 65536), 0)) else (some (0, 0, 0, 0, 0, 3))) else (some (x134000, x134001, x134002, x134003, wrap64 (x134004 - 65536), 0))) else (none))) else (none)) else (some (0, 0, 0, 0, 0, 3))) else (if x7 = 0 then (if 0 < (x6.size : Int) then (if (bt x6 0) = 45 then (if x134001 = 0 then (if 1 < (x6.size : Int) then (if (bt x6 1) = 45 then (if x134002 = 0 then (some (x134000, x134001, x134002, x134003, x134004, 0)) else (some (0, 0, 0, 0, 0, 3))) else (some (x134000, x134001, x134002, x134003, x134004, 0))) else (none)) else (some (0, 0, 0, 0, 0, 3))) else (if 1 < (x6.size : Int) then (if (bt x6 1) = 45 then (if x134002 = 0 then (some (x134000, x134001, x134002, x134003, x134004, 0)) else (some (0, 0, 0, 0, 0, 3))) else (some (x134000, x134001, x134002, x134003, x134004, 0))) else (none))) else (none)) else (some (0, 0, 0, 0, 0, 3)))
end
def astrolaberef13_Decode.f (k : Nat) (a0 : Int) : Option (Int × Int × Int × Int × Int × Int) := (astrolaberef06_Shape.f k (wrap64 (Int.tdiv (wrap64 (a0)) 67108864))).bind fun t134 => (if t134.toList = ([] : List UInt8) then (some (0, 0, 0, 0, 0, 2)) else (if 2 < (t134.size : Int) then (if (bt t134 2) = 98 then (astrolaberef13_Decode.j0 k t134 (Int.tmod (Int.tmod (wrap64 (a0)) 65536) 2048) (wrap64 (Int.tdiv (wrap64 (a0)) 67108864)) (Int.tmod (wrap64 (Int.tdiv (wrap64 (a0)) 2097152)) 32) (Int.tmod (wrap64 (Int.tdiv (wrap64 (a0)) 65536)) 32) (wrap64 (Int.tdiv (Int.tmod (wrap64 (a0)) 65536) 2048)) 0) else (astrolaberef13_Decode.j0 k t134 (Int.tmod (wrap64 (a0)) 65536) (wrap64 (Int.tdiv (wrap64 (a0)) 67108864)) (Int.tmod (wrap64 (Int.tdiv (wrap64 (a0)) 2097152)) 32) (Int.tmod (wrap64 (Int.tdiv (wrap64 (a0)) 65536)) 32) 0 0)) else (none)))
theorem astrolaberef13_Decode.mono_l : ∀ k, (∀ y0 y1 y2 y3 y4 y5 y6, LeO (astrolaberef13_Decode.j0 k y0 y1 y2 y3 y4 y5 y6) (astrolaberef13_Decode.j0 (k + 1) y0 y1 y2 y3 y4 y5 y6)) ∧ (∀ y0 y1 y2 y3 y4 y5 y6, LeO (astrolaberef13_Decode.j1 k y0 y1 y2 y3 y4 y5 y6) (astrolaberef13_Decode.j1 (k + 1) y0 y1 y2 y3 y4 y5 y6)) ∧ (∀ y0 y1 y2 y3 y4 y5 y6 y7, LeO (astrolaberef13_Decode.j2 k y0 y1 y2 y3 y4 y5 y6 y7) (astrolaberef13_Decode.j2 (k + 1) y0 y1 y2 y3 y4 y5 y6 y7))
 | 0 => ⟨fun _ _ _ _ _ _ _ r h => by simp [astrolaberef13_Decode.j0] at h, fun _ _ _ _ _ _ _ r h => by simp [astrolaberef13_Decode.j1] at h, fun _ _ _ _ _ _ _ _ r h => by simp [astrolaberef13_Decode.j2] at h⟩
 | k + 1 => by
  obtain ⟨ih0, ih1, ih2⟩ := astrolaberef13_Decode.mono_l k
  refine ⟨?_, ?_, ?_⟩
  ·
   intro y0 y1 y2 y3 y4 y5 y6
   unfold astrolaberef13_Decode.j0
   repeat' first
   | (with_reducible exact ih0 _ _ _ _ _ _ _)
   | (with_reducible exact ih1 _ _ _ _ _ _ _)
   | (with_reducible exact ih2 _ _ _ _ _ _ _ _)
   | (with_reducible exact astrolaberef06_Shape.mono _ _)
   | (with_reducible exact LeO.refl _)
   | (with_reducible exact LeO.none _)
   | (with_reducible refine LeO.ite ?_ ?_)
   | (with_reducible refine LeO.bind ?_ (fun _ => ?_))
   | exact ih0 _ _ _ _ _ _ _
   | exact ih1 _ _ _ _ _ _ _
   | exact ih2 _ _ _ _ _ _ _ _
   | exact astrolaberef06_Shape.mono _ _
   | exact LeO.none _
   | refine LeO.ite ?_ ?_
   | refine LeO.bind ?_ (fun _ => ?_)
  ·
   intro y0 y1 y2 y3 y4 y5 y6
   unfold astrolaberef13_Decode.j1
   repeat' first
   | (with_reducible exact ih0 _ _ _ _ _ _ _)
   | (with_reducible exact ih1 _ _ _ _ _ _ _)
   | (with_reducible exact ih2 _ _ _ _ _ _ _ _)
   | (with_reducible exact astrolaberef06_Shape.mono _ _)
   | (with_reducible exact LeO.refl _)
   | (with_reducible exact LeO.none _)
   | (with_reducible refine LeO.ite ?_ ?_)
   | (with_reducible refine LeO.bind ?_ (fun _ => ?_))
   | exact ih0 _ _ _ _ _ _ _
   | exact ih1 _ _ _ _ _ _ _
   | exact ih2 _ _ _ _ _ _ _ _
   | exact astrolaberef06_Shape.mono _ _
   | exact LeO.none _
   | refine LeO.ite ?_ ?_
   | refine LeO.bind ?_ (fun _ => ?_)
  ·
   intro y0 y1 y2 y3 y4 y5 y6 y7
   unfold astrolaberef13_Decode.j2
   repeat' first
   | (with_reducible exact ih0 _ _ _ _ _ _ _)
   | (with_reducible exact ih1 _ _ _ _ _ _ _)
   | (with_reducible exact ih2 _ _ _ _ _ _ _ _)
   | (with_reducible exact astrolaberef06_Shape.mono _ _)
   | (with_reducible exact LeO.refl _)
   | (with_reducible exact LeO.none _)
   | (with_reducible refine LeO.ite ?_ ?_)
   | (with_reducible refine LeO.bind ?_ (fun _ => ?_))
   | exact ih0 _ _ _ _ _ _ _
   | exact ih1 _ _ _ _ _ _ _
   | exact ih2 _ _ _ _ _ _ _ _
   | exact astrolaberef06_Shape.mono _ _
   | exact LeO.none _
   | refine LeO.ite ?_ ?_
   | refine LeO.bind ?_ (fun _ => ?_)
theorem astrolaberef13_Decode.mono : ∀ a0 k, LeO (astrolaberef13_Decode.f k a0) (astrolaberef13_Decode.f (k + 1) a0) := by
 intro a0 k
 obtain ⟨ih0, ih1, ih2⟩ := astrolaberef13_Decode.mono_l k
 unfold astrolaberef13_Decode.f
 repeat' first
   | (with_reducible exact ih0 _ _ _ _ _ _ _)
   | (with_reducible exact ih1 _ _ _ _ _ _ _)
   | (with_reducible exact ih2 _ _ _ _ _ _ _ _)
   | (with_reducible exact astrolaberef06_Shape.mono _ _)
   | (with_reducible exact LeO.refl _)
   | (with_reducible exact LeO.none _)
   | (with_reducible refine LeO.ite ?_ ?_)
   | (with_reducible refine LeO.bind ?_ (fun _ => ?_))
   | exact ih0 _ _ _ _ _ _ _
   | exact ih1 _ _ _ _ _ _ _
   | exact ih2 _ _ _ _ _ _ _ _
   | exact astrolaberef06_Shape.mono _ _
   | exact LeO.none _
   | refine LeO.ite ?_ ?_
   | refine LeO.bind ?_ (fun _ => ?_)
set_option maxHeartbeats 8000000 in
set_option maxRecDepth 100000 in
theorem astrolaberef13_Decode.calls (k : Nat) (a0 : Int) (r1 : Int) (r2 : Int) (r3 : Int) (r4 : Int) (r5 : Int) (r6 : Int) (w : World) (h : astrolaberef13_Decode.f k a0 = some (r1, r2, r3, r4, r5, r6)) :
  Calls Try.prog 38 #[.int .u32 a0] w fun e w' => e = .returned (.tuple #[.agg #[.int .i64 r1, .int .i64 r2, .int .i64 r3, .int .i64 r4, .int .i64 r5], .int .i64 r6]) ∧ Below w.heap.size w w' := by
 have hu52 := Try.underlying52
 have HB := Aside0.mk (Below.refl w.heap.size w)
 have H : ((astrolaberef06_Shape.f k (wrap64 (Int.tdiv (wrap64 (a0)) 67108864))).bind fun t134 => (if t134.toList = ([] : List UInt8) then (some (0, 0, 0, 0, 0, 2)) else (if 2 < (t134.size : Int) then (if (bt t134 2) = 98 then (astrolaberef13_Decode.j0 k t134 (Int.tmod (Int.tmod (wrap64 (a0)) 65536) 2048) (wrap64 (Int.tdiv (wrap64 (a0)) 67108864)) (Int.tmod (wrap64 (Int.tdiv (wrap64 (a0)) 2097152)) 32) (Int.tmod (wrap64 (Int.tdiv (wrap64 (a0)) 65536)) 32) (wrap64 (Int.tdiv (Int.tmod (wrap64 (a0)) 65536) 2048)) 0) else (astrolaberef13_Decode.j0 k t134 (Int.tmod (wrap64 (a0)) 65536) (wrap64 (Int.tdiv (wrap64 (a0)) 67108864)) (Int.tmod (wrap64 (Int.tdiv (wrap64 (a0)) 2097152)) 32) (Int.tmod (wrap64 (Int.tdiv (wrap64 (a0)) 65536)) 32) 0 0)) else (none)))) = some (r1, r2, r3, r4, r5, r6) := h
 clear h
 replace H := Option.bind_eq_some_iff.mp H
 obtain ⟨t134, A20, H⟩ := H
 replace H : (if t134.toList = ([] : List UInt8) then (some (0, 0, 0, 0, 0, 2)) else (if 2 < (t134.size : Int) then (if (bt t134 2) = 98 then (astrolaberef13_Decode.j0 k t134 (Int.tmod (Int.tmod (wrap64 (a0)) 65536) 2048) (wrap64 (Int.tdiv (wrap64 (a0)) 67108864)) (Int.tmod (wrap64 (Int.tdiv (wrap64 (a0)) 2097152)) 32) (Int.tmod (wrap64 (Int.tdiv (wrap64 (a0)) 65536)) 32) (wrap64 (Int.tdiv (Int.tmod (wrap64 (a0)) 65536) 2048)) 0) else (astrolaberef13_Decode.j0 k t134 (Int.tmod (wrap64 (a0)) 65536) (wrap64 (Int.tdiv (wrap64 (a0)) 67108864)) (Int.tmod (wrap64 (Int.tdiv (wrap64 (a0)) 2097152)) 32) (Int.tmod (wrap64 (Int.tdiv (wrap64 (a0)) 65536)) 32) 0 0)) else (none))) = some (r1, r2, r3, r4, r5, r6) := H
 have A2 := Aside0.mk A20
 clear A20
 by_cases c3 : t134.toList = ([] : List UInt8)
 ·
  rw [if_pos c3] at H
  have c3b0 : (t134.toList == ([] : List UInt8)) = true := beq_iff_eq.mpr c3
  have c3b1 : (t134.toList != ([] : List UInt8)) = false := bne_eq_false_iff_eq.mpr c3
  clear c3
  simp only [Option.some.injEq, Prod.mk.injEq] at H
  obtain ⟨rfl, rfl, rfl, rfl, rfl, rfl⟩ := H
  go_enter Try.func38, Try.ntmps38
  go_wp2_with (first | ((with_reducible refine gate_dst (N := 2) rfl ?_); refine box_event ?hg (N := 2) ?hd (cs := #[.int .i64 0, .int .i64 0, .int .i64 0, .int .i64 0, .int .i64 0]) (t := 52) ?hr ?_; (case hd => rfl); (case hg => rfl); (case hr => first | (go_simp; done) | (go_simp; rfl)); intro gb132 hg w4 hbox hb; have n0_ := Aside0.mk (below_step (by repeat (first | (with_reducible first | exact HB.out | apply below_alloc | apply pw_below_drewN | apply below_drew1) | exact HB.out)) hb); have n1_ := Aside0.mk (hbox); have n2_ := Aside0.mk ((by rw [hg]; exact (below_size (by repeat (first | (with_reducible first | exact HB.out | apply below_alloc | apply pw_below_drewN | apply below_drew1) | exact HB.out))) : w.heap.size ≤ gb132)); have n3_ := Aside0.mk ((by rw [hg]; exact (below_size (by repeat (first | (with_reducible first | exact HB.out | apply below_alloc | apply pw_below_drewN | apply below_drew1) | exact HB.out))) : w.heap.size ≤ gb132)); clear HB; have HB := n0_; have BK132 := n1_; have GW132 := n2_; have GE132 := n3_; clear n0_ n1_ n2_ n3_; clear hb hbox hg) | ((with_reducible refine gate_dst (N := 5) rfl ?_); refine box_event ?hg (N := 5) ?hd (cs := #[.int .i64 0, .int .i64 0, .int .i64 0, .int .i64 0, .int .i64 0]) (t := 52) ?hr ?_; (case hd => rfl); (case hg => rfl); (case hr => first | (go_simp; done) | (go_simp; rfl)); intro gb133 hg w5 hbox hb; have n0_ := Aside0.mk (blk_below (g := gb132) (o := .cells #[.int .i64 0, .int .i64 0, .int .i64 0, .int .i64 0, .int .i64 0] 52 (0, 0)) (by (with_reducible repeat (first | refine blk_drewN ?_ _ | refine blk_drew ?_ | refine blk_alloc ?_ _)); exact BK132.out) hb); have n1_ := Aside0.mk (below_step (by repeat (first | (with_reducible first | exact HB.out | apply below_alloc | apply pw_below_drewN | apply below_drew1 | refine below_set ?_ GE132.out) | exact HB.out)) hb); have n2_ := Aside0.mk (hbox); have n3_ := Aside0.mk ((by rw [hg]; exact (below_size (by repeat (first | (with_reducible first | exact HB.out | apply below_alloc | apply pw_below_drewN | apply below_drew1 | refine below_set ?_ GE132.out) | exact HB.out))) : w.heap.size ≤ gb133)); have n4_ := Aside0.mk ((by rw [hg]; exact (below_size (by repeat (first | (with_reducible first | exact HB.out | apply below_alloc | apply pw_below_drewN | apply below_drew1 | refine below_set ?_ GE132.out) | exact HB.out))) : w.heap.size ≤ gb133)); have n5_ := Aside0.mk ((by rw [hg]; exact Nat.ne_of_lt (blk_lt (g := gb132) (o := .cells #[.int .i64 0, .int .i64 0, .int .i64 0, .int .i64 0, .int .i64 0] 52 (0, 0)) (by (with_reducible repeat (first | refine blk_drewN ?_ _ | refine blk_drew ?_ | refine blk_alloc ?_ _)); exact BK132.out)) : gb132 ≠ gb133)); have n6_ := Aside0.mk ((by rw [hg]; exact Nat.ne_of_gt (blk_lt (g := gb132) (o := .cells #[.int .i64 0, .int .i64 0, .int .i64 0, .int .i64 0, .int .i64 0] 52 (0, 0)) (by (with_reducible repeat (first | refine blk_drewN ?_ _ | refine blk_drew ?_ | refine blk_alloc ?_ _)); exact BK132.out)) : gb133 ≠ gb132)); clear BK132; clear HB; have BK132 := n0_; have HB := n1_; have BK133 := n2_; have GW133 := n3_; have GE133 := n4_; have NB132_133 := n5_; have NB133_132 := n6_; clear n0_ n1_ n2_ n3_ n4_ n5_ n6_; clear hb hbox hg; have hnb6 := NB133_132.out; have hnc6 := NB132_133.out; have hcz7_0 : w5.cell? ⟨gb133, 0, none⟩ = some (.int .i64 0) := (blk_cell BK133.out 0).trans rfl; have hcz7_1 : w5.cell? ⟨gb133, 1, none⟩ = some (.int .i64 0) := (blk_cell BK133.out 1).trans rfl; have hcz7_2 : w5.cell? ⟨gb133, 2, none⟩ = some (.int .i64 0) := (blk_cell BK133.out 2).trans rfl; have hcz7_3 : w5.cell? ⟨gb133, 3, none⟩ = some (.int .i64 0) := (blk_cell BK133.out 3).trans rfl; have hcz7_4 : w5.cell? ⟨gb133, 4, none⟩ = some (.int .i64 0) := (blk_cell BK133.out 4).trans rfl; have hfz7_0 := blk_frozen BK133.out 0; have hfz7_1 := blk_frozen BK133.out 1; have hfz7_2 := blk_frozen BK133.out 2; have hfz7_3 := blk_frozen BK133.out 3; have hfz7_4 := blk_frozen BK133.out 4) | ((with_reducible refine gate_callee (f := 75) rfl ?_); refine goesL_ (some 21) rfl rfl Try.func75 (by kernel_rfl) rfl #[.int .i64 (wrap64 (Int.tdiv (wrap64 (a0)) 67108864))] rfl (by (try simp only [List.map_toArray, List.map_cons, List.map_nil]); first | done | rfl | (simp only [List.length_drop, List.length_take]; rfl)) ?_; (with_reducible refine (astrolaberef06_Shape.calls k (wrap64 (Int.tdiv (wrap64 (a0)) 67108864)) t134 _ A2.out).mono ?_); rintro e w' ⟨rfl, ⟨nd, rfl⟩⟩; refine ⟨_, rfl, ?_⟩; have hcz8_0 : w5.cell? ⟨gb132, 0, none⟩ = some (.int .i64 0) := (blk_cell BK132.out 0).trans rfl; have hcz8_1 : w5.cell? ⟨gb132, 1, none⟩ = some (.int .i64 0) := (blk_cell BK132.out 1).trans rfl; have hcz8_2 : w5.cell? ⟨gb132, 2, none⟩ = some (.int .i64 0) := (blk_cell BK132.out 2).trans rfl; have hcz8_3 : w5.cell? ⟨gb132, 3, none⟩ = some (.int .i64 0) := (blk_cell BK132.out 3).trans rfl; have hcz8_4 : w5.cell? ⟨gb132, 4, none⟩ = some (.int .i64 0) := (blk_cell BK132.out 4).trans rfl; have hfz8_0 := blk_frozen BK132.out 0; have hfz8_1 := blk_frozen BK132.out 1; have hfz8_2 := blk_frozen BK132.out 2; have hfz8_3 := blk_frozen BK132.out 3; have hfz8_4 := blk_frozen BK132.out 4))
  refine bodyPost_ret (results_ct rfl _ _ gb132 52 #[.int .i64 0, .int .i64 0, .int .i64 0, .int .i64 0, .int .i64 0] (0, 0) _ rfl (by (with_reducible repeat (first | refine blk_drewN ?_ _ | refine blk_drew ?_ | refine blk_alloc ?_ _)); refine blk_put (cs := #[.int .i64 0, .int .i64 0, .int .i64 0, .int .i64 0, .int .i64 0]) ?_ 4 _ rfl; (with_reducible repeat (first | refine blk_drewN ?_ _ | refine blk_drew ?_ | refine blk_alloc ?_ _)); refine blk_put (cs := #[.int .i64 0, .int .i64 0, .int .i64 0, .int .i64 0, .int .i64 0]) ?_ 3 _ rfl; (with_reducible repeat (first | refine blk_drewN ?_ _ | refine blk_drew ?_ | refine blk_alloc ?_ _)); refine blk_put (cs := #[.int .i64 0, .int .i64 0, .int .i64 0, .int .i64 0, .int .i64 0]) ?_ 2 _ rfl; (with_reducible repeat (first | refine blk_drewN ?_ _ | refine blk_drew ?_ | refine blk_alloc ?_ _)); refine blk_put (cs := #[.int .i64 0, .int .i64 0, .int .i64 0, .int .i64 0, .int .i64 0]) ?_ 1 _ rfl; (with_reducible repeat (first | refine blk_drewN ?_ _ | refine blk_drew ?_ | refine blk_alloc ?_ _)); refine blk_put (cs := #[.int .i64 0, .int .i64 0, .int .i64 0, .int .i64 0, .int .i64 0]) ?_ 0 _ rfl; (with_reducible repeat (first | refine blk_drewN ?_ _ | refine blk_drew ?_ | refine blk_alloc ?_ _)); refine blk_far ?_ NB132_133.out _; (with_reducible repeat (first | refine blk_drewN ?_ _ | refine blk_drew ?_ | refine blk_alloc ?_ _)); refine blk_far ?_ NB132_133.out _; (with_reducible repeat (first | refine blk_drewN ?_ _ | refine blk_drew ?_ | refine blk_alloc ?_ _)); refine blk_far ?_ NB132_133.out _; (with_reducible repeat (first | refine blk_drewN ?_ _ | refine blk_drew ?_ | refine blk_alloc ?_ _)); refine blk_far ?_ NB132_133.out _; (with_reducible repeat (first | refine blk_drewN ?_ _ | refine blk_drew ?_ | refine blk_alloc ?_ _)); refine blk_far ?_ NB132_133.out _; (with_reducible repeat (first | refine blk_drewN ?_ _ | refine blk_drew ?_ | refine blk_alloc ?_ _)); exact BK132.out) Try.underlying52 rfl (by kernel_rfl)) rfl ?_
  exact ⟨by first | rfl | (simp [errW_none, errW_some] <;> rfl) | (simp [*, errW_none, errW_some] <;> rfl), by repeat (first | (with_reducible first | exact HB.out | apply below_alloc | apply pw_below_drewN | apply below_drew1 | refine below_set ?_ GE132.out | refine below_set ?_ GE133.out) | exact HB.out)⟩
 ·
  rw [if_neg c3] at H
  have c3b0 : (t134.toList == ([] : List UInt8)) = false := beq_eq_false_iff_ne.mpr c3
  have c3b1 : (t134.toList != ([] : List UInt8)) = true := bne_iff_ne.mpr c3
  by_cases c9 : 2 < (t134.size : Int)
  ·
   rw [if_pos c9] at H
   have c9b0 : decide (2 < (t134.size : Int)) = true := decide_eq_true c9
   have c9b1 : decide (2 < t134.size) = true := decide_eq_true (by omega)
   clear c9
   have HC11 := Aside0.mk H
   clear H
   go_enter Try.func38, Try.ntmps38
   go_upto_if 29 with (first | ((with_reducible refine gate_dst (N := 2) rfl ?_); refine box_event ?hg (N := 2) ?hd (cs := #[.int .i64 0, .int .i64 0, .int .i64 0, .int .i64 0, .int .i64 0]) (t := 52) ?hr ?_; (case hd => rfl); (case hg => rfl); (case hr => first | (go_simp; done) | (go_simp; rfl)); intro gb132 hg w12 hbox hb; have n0_ := Aside0.mk (below_step (by repeat (first | (with_reducible first | exact HB.out | apply below_alloc | apply pw_below_drewN | apply below_drew1) | exact HB.out)) hb); have n1_ := Aside0.mk (hbox); have n2_ := Aside0.mk ((by rw [hg]; exact (below_size (by repeat (first | (with_reducible first | exact HB.out | apply below_alloc | apply pw_below_drewN | apply below_drew1) | exact HB.out))) : w.heap.size ≤ gb132)); have n3_ := Aside0.mk ((by rw [hg]; exact (below_size (by repeat (first | (with_reducible first | exact HB.out | apply below_alloc | apply pw_below_drewN | apply below_drew1) | exact HB.out))) : w.heap.size ≤ gb132)); clear HB; have HB := n0_; have BK132 := n1_; have GW132 := n2_; have GE132 := n3_; clear n0_ n1_ n2_ n3_; clear hb hbox hg) | ((with_reducible refine gate_dst (N := 5) rfl ?_); refine box_event ?hg (N := 5) ?hd (cs := #[.int .i64 0, .int .i64 0, .int .i64 0, .int .i64 0, .int .i64 0]) (t := 52) ?hr ?_; (case hd => rfl); (case hg => rfl); (case hr => first | (go_simp; done) | (go_simp; rfl)); intro gb133 hg w13 hbox hb; have n0_ := Aside0.mk (blk_below (g := gb132) (o := .cells #[.int .i64 0, .int .i64 0, .int .i64 0, .int .i64 0, .int .i64 0] 52 (0, 0)) (by (with_reducible repeat (first | refine blk_drewN ?_ _ | refine blk_drew ?_ | refine blk_alloc ?_ _)); exact BK132.out) hb); have n1_ := Aside0.mk (below_step (by repeat (first | (with_reducible first | exact HB.out | apply below_alloc | apply pw_below_drewN | apply below_drew1 | refine below_set ?_ GE132.out) | exact HB.out)) hb); have n2_ := Aside0.mk (hbox); have n3_ := Aside0.mk ((by rw [hg]; exact (below_size (by repeat (first | (with_reducible first | exact HB.out | apply below_alloc | apply pw_below_drewN | apply below_drew1 | refine below_set ?_ GE132.out) | exact HB.out))) : w.heap.size ≤ gb133)); have n4_ := Aside0.mk ((by rw [hg]; exact (below_size (by repeat (first | (with_reducible first | exact HB.out | apply below_alloc | apply pw_below_drewN | apply below_drew1 | refine below_set ?_ GE132.out) | exact HB.out))) : w.heap.size ≤ gb133)); have n5_ := Aside0.mk ((by rw [hg]; exact Nat.ne_of_lt (blk_lt (g := gb132) (o := .cells #[.int .i64 0, .int .i64 0, .int .i64 0, .int .i64 0, .int .i64 0] 52 (0, 0)) (by (with_reducible repeat (first | refine blk_drewN ?_ _ | refine blk_drew ?_ | refine blk_alloc ?_ _)); exact BK132.out)) : gb132 ≠ gb133)); have n6_ := Aside0.mk ((by rw [hg]; exact Nat.ne_of_gt (blk_lt (g := gb132) (o := .cells #[.int .i64 0, .int .i64 0, .int .i64 0, .int .i64 0, .int .i64 0] 52 (0, 0)) (by (with_reducible repeat (first | refine blk_drewN ?_ _ | refine blk_drew ?_ | refine blk_alloc ?_ _)); exact BK132.out)) : gb133 ≠ gb132)); clear BK132; clear HB; have BK132 := n0_; have HB := n1_; have BK133 := n2_; have GW133 := n3_; have GE133 := n4_; have NB132_133 := n5_; have NB133_132 := n6_; clear n0_ n1_ n2_ n3_ n4_ n5_ n6_; clear hb hbox hg; have hnb14 := NB133_132.out; have hnc14 := NB132_133.out; have hcz15_0 : w13.cell? ⟨gb133, 0, none⟩ = some (.int .i64 0) := (blk_cell BK133.out 0).trans rfl; have hcz15_1 : w13.cell? ⟨gb133, 1, none⟩ = some (.int .i64 0) := (blk_cell BK133.out 1).trans rfl; have hcz15_2 : w13.cell? ⟨gb133, 2, none⟩ = some (.int .i64 0) := (blk_cell BK133.out 2).trans rfl; have hcz15_3 : w13.cell? ⟨gb133, 3, none⟩ = some (.int .i64 0) := (blk_cell BK133.out 3).trans rfl; have hcz15_4 : w13.cell? ⟨gb133, 4, none⟩ = some (.int .i64 0) := (blk_cell BK133.out 4).trans rfl; have hfz15_0 := blk_frozen BK133.out 0; have hfz15_1 := blk_frozen BK133.out 1; have hfz15_2 := blk_frozen BK133.out 2; have hfz15_3 := blk_frozen BK133.out 3; have hfz15_4 := blk_frozen BK133.out 4) | ((with_reducible refine gate_callee (f := 75) rfl ?_); refine goesL_ (some 21) rfl rfl Try.func75 (by kernel_rfl) rfl #[.int .i64 (wrap64 (Int.tdiv (wrap64 (a0)) 67108864))] rfl (by (try simp only [List.map_toArray, List.map_cons, List.map_nil]); first | done | rfl | (simp only [List.length_drop, List.length_take]; rfl)) ?_; (with_reducible refine (astrolaberef06_Shape.calls k (wrap64 (Int.tdiv (wrap64 (a0)) 67108864)) t134 _ A2.out).mono ?_); rintro e w' ⟨rfl, ⟨nd, rfl⟩⟩; refine ⟨_, rfl, ?_⟩; have p10 : 0 ≤ (2 : Int) := (by omega); have q10 : 2 < t134.size := (by have : (2 : Int) < (t134.size : Int) := of_decide_eq_true (by first | (with_reducible assumption) | assumption); omega); have hx10 : ∀ h : 2 < t134.size, ((t134[2]'h).toNat : Int) = bt t134 2 := bt_at t134 2; clear p10; have qi10 : (2 < (t134.size : Int)) = True := eq_true (of_decide_eq_true (by first | (with_reducible assumption) | assumption)); replace q10 := eq_true q10))
   (try simp only [Act.put, List.setIfInBounds_toArray, List.set_cons_zero, List.set_cons_succ])
   go_cut [7] (fun v7 wc => ∃ (kq : Nat) (x7_10 : Int) (x134003_10 : Int), v7 = .int .i64 x7_10 ∧ Aside0 (astrolaberef13_Decode.j0 kq t134 x7_10 (wrap64 (Int.tdiv (wrap64 (a0)) 67108864)) (Int.tmod (wrap64 (Int.tdiv (wrap64 (a0)) 2097152)) 32) (Int.tmod (wrap64 (Int.tdiv (wrap64 (a0)) 65536)) 32) x134003_10 0 = some (r1, r2, r3, r4, r5, r6)) ∧ Aside0 (kq ≤ k) ∧ Aside0 (wc.heap[gb132]? = some (.cells #[.int .i64 0, .int .i64 0, .int .i64 0, .int .i64 0, .int .i64 0] 52 (0, 0))) ∧ Aside0 (wc.heap[gb133]? = some (.cells #[.int .i64 (wrap64 (Int.tdiv (wrap64 (a0)) 67108864)), .int .i64 (Int.tmod (wrap64 (Int.tdiv (wrap64 (a0)) 2097152)) 32), .int .i64 (Int.tmod (wrap64 (Int.tdiv (wrap64 (a0)) 65536)) 32), .int .i64 x134003_10, .int .i64 0] 52 (0, 0))) ∧ Aside0 (Below w.heap.size w wc))
   case first =>
    have H := HC11.out
    clear HC11
    by_cases c16 : (bt t134 2) = 98
    ·
     rw [if_pos c16] at H
     have c16b0 : ((bt t134 2) == 98) = true := beq_iff_eq.mpr c16
     have c16b1 : ((bt t134 2) != 98) = false := bne_eq_false_iff_eq.mpr c16
     clear c16
     (first | rw [c16b0] | (simp only [i64_w, i32_w]; rw [c16b0]) | skip)
     have H' := Aside0.mk H
     clear H
     have hnb17 := NB133_132.out
     have hnc17 := NB132_133.out
     have hcz18_0 : w13.cell? ⟨gb133, 0, none⟩ = some (.int .i64 0) := (blk_cell BK133.out 0).trans rfl
     have hcz18_1 : w13.cell? ⟨gb133, 1, none⟩ = some (.int .i64 0) := (blk_cell BK133.out 1).trans rfl
     have hcz18_2 : w13.cell? ⟨gb133, 2, none⟩ = some (.int .i64 0) := (blk_cell BK133.out 2).trans rfl
     have hcz18_3 : w13.cell? ⟨gb133, 3, none⟩ = some (.int .i64 0) := (blk_cell BK133.out 3).trans rfl
     have hcz18_4 : w13.cell? ⟨gb133, 4, none⟩ = some (.int .i64 0) := (blk_cell BK133.out 4).trans rfl
     have hfz18_0 := blk_frozen BK133.out 0
     have hfz18_1 := blk_frozen BK133.out 1
     have hfz18_2 := blk_frozen BK133.out 2
     have hfz18_3 := blk_frozen BK133.out 3
     have hfz18_4 := blk_frozen BK133.out 4
     go_wp2
     go_meet
     case rel => exact ⟨_, (Int.tmod (Int.tmod (wrap64 (a0)) 65536) 2048), (wrap64 (Int.tdiv (Int.tmod (wrap64 (a0)) 65536) 2048)), (by first | rfl | (simp; done) | (simp [*]; done)), H', ⟨by first | omega | exact Nat.le_refl _⟩, ⟨by (with_reducible repeat (first | refine blk_drewN ?_ _ | refine blk_drew ?_ | refine blk_alloc ?_ _)); refine blk_far ?_ NB132_133.out _; (with_reducible repeat (first | refine blk_drewN ?_ _ | refine blk_drew ?_ | refine blk_alloc ?_ _)); refine blk_far ?_ NB132_133.out _; (with_reducible repeat (first | refine blk_drewN ?_ _ | refine blk_drew ?_ | refine blk_alloc ?_ _)); refine blk_far ?_ NB132_133.out _; (with_reducible repeat (first | refine blk_drewN ?_ _ | refine blk_drew ?_ | refine blk_alloc ?_ _)); refine blk_far ?_ NB132_133.out _; (with_reducible repeat (first | refine blk_drewN ?_ _ | refine blk_drew ?_ | refine blk_alloc ?_ _)); refine blk_far ?_ NB132_133.out _; (with_reducible repeat (first | refine blk_drewN ?_ _ | refine blk_drew ?_ | refine blk_alloc ?_ _)); refine blk_far ?_ NB132_133.out _; (with_reducible repeat (first | refine blk_drewN ?_ _ | refine blk_drew ?_ | refine blk_alloc ?_ _)); exact BK132.out⟩, ⟨by (with_reducible repeat (first | refine blk_drewN ?_ _ | refine blk_drew ?_ | refine blk_alloc ?_ _)); refine blk_put (cs := #[.int .i64 (wrap64 (Int.tdiv (wrap64 (a0)) 67108864)), .int .i64 (Int.tmod (wrap64 (Int.tdiv (wrap64 (a0)) 2097152)) 32), .int .i64 (Int.tmod (wrap64 (Int.tdiv (wrap64 (a0)) 65536)) 32), .int .i64 0, .int .i64 0]) ?_ 3 _ rfl; (with_reducible repeat (first | refine blk_drewN ?_ _ | refine blk_drew ?_ | refine blk_alloc ?_ _)); refine blk_put (cs := #[.int .i64 (wrap64 (Int.tdiv (wrap64 (a0)) 67108864)), .int .i64 (Int.tmod (wrap64 (Int.tdiv (wrap64 (a0)) 2097152)) 32), .int .i64 (Int.tmod (wrap64 (Int.tdiv (wrap64 (a0)) 65536)) 32), .int .i64 0, .int .i64 0]) ?_ 4 _ rfl; (with_reducible repeat (first | refine blk_drewN ?_ _ | refine blk_drew ?_ | refine blk_alloc ?_ _)); refine blk_put (cs := #[.int .i64 (wrap64 (Int.tdiv (wrap64 (a0)) 67108864)), .int .i64 (Int.tmod (wrap64 (Int.tdiv (wrap64 (a0)) 2097152)) 32), .int .i64 (Int.tmod (wrap64 (Int.tdiv (wrap64 (a0)) 65536)) 32), .int .i64 0, .int .i64 0]) ?_ 3 _ rfl; (with_reducible repeat (first | refine blk_drewN ?_ _ | refine blk_drew ?_ | refine blk_alloc ?_ _)); refine blk_put (cs := #[.int .i64 (wrap64 (Int.tdiv (wrap64 (a0)) 67108864)), .int .i64 (Int.tmod (wrap64 (Int.tdiv (wrap64 (a0)) 2097152)) 32), .int .i64 0, .int .i64 0, .int .i64 0]) ?_ 2 _ rfl; (with_reducible repeat (first | refine blk_drewN ?_ _ | refine blk_drew ?_ | refine blk_alloc ?_ _)); refine blk_put (cs := #[.int .i64 (wrap64 (Int.tdiv (wrap64 (a0)) 67108864)), .int .i64 0, .int .i64 0, .int .i64 0, .int .i64 0]) ?_ 1 _ rfl; (with_reducible repeat (first | refine blk_drewN ?_ _ | refine blk_drew ?_ | refine blk_alloc ?_ _)); refine blk_put (cs := #[.int .i64 0, .int .i64 0, .int .i64 0, .int .i64 0, .int .i64 0]) ?_ 0 _ rfl; (with_reducible repeat (first | refine blk_drewN ?_ _ | refine blk_drew ?_ | refine blk_alloc ?_ _)); exact BK133.out⟩, ⟨by repeat (first | (with_reducible first | exact HB.out | apply below_alloc | apply pw_below_drewN | apply below_drew1 | refine below_set ?_ GE132.out | refine below_set ?_ GE133.out) | exact HB.out)⟩⟩
    ·
     rw [if_neg c16] at H
     have c16b0 : ((bt t134 2) == 98) = false := beq_eq_false_iff_ne.mpr c16
     have c16b1 : ((bt t134 2) != 98) = true := bne_iff_ne.mpr c16
     (first | rw [c16b0] | (simp only [i64_w, i32_w]; rw [c16b0]) | skip)
     have H' := Aside0.mk H
     clear H
     go_wp2
     go_meet
     case rel => exact ⟨_, (Int.tmod (wrap64 (a0)) 65536), (0), (by first | rfl | (simp; done) | (simp [*]; done)), H', ⟨by first | omega | exact Nat.le_refl _⟩, ⟨by (with_reducible repeat (first | refine blk_drewN ?_ _ | refine blk_drew ?_ | refine blk_alloc ?_ _)); refine blk_far ?_ NB132_133.out _; (with_reducible repeat (first | refine blk_drewN ?_ _ | refine blk_drew ?_ | refine blk_alloc ?_ _)); refine blk_far ?_ NB132_133.out _; (with_reducible repeat (first | refine blk_drewN ?_ _ | refine blk_drew ?_ | refine blk_alloc ?_ _)); refine blk_far ?_ NB132_133.out _; (with_reducible repeat (first | refine blk_drewN ?_ _ | refine blk_drew ?_ | refine blk_alloc ?_ _)); refine blk_far ?_ NB132_133.out _; (with_reducible repeat (first | refine blk_drewN ?_ _ | refine blk_drew ?_ | refine blk_alloc ?_ _)); refine blk_far ?_ NB132_133.out _; (with_reducible repeat (first | refine blk_drewN ?_ _ | refine blk_drew ?_ | refine blk_alloc ?_ _)); exact BK132.out⟩, ⟨by (with_reducible repeat (first | refine blk_drewN ?_ _ | refine blk_drew ?_ | refine blk_alloc ?_ _)); refine blk_put (cs := #[.int .i64 (wrap64 (Int.tdiv (wrap64 (a0)) 67108864)), .int .i64 (Int.tmod (wrap64 (Int.tdiv (wrap64 (a0)) 2097152)) 32), .int .i64 (Int.tmod (wrap64 (Int.tdiv (wrap64 (a0)) 65536)) 32), .int .i64 0, .int .i64 0]) ?_ 4 _ rfl; (with_reducible repeat (first | refine blk_drewN ?_ _ | refine blk_drew ?_ | refine blk_alloc ?_ _)); refine blk_put (cs := #[.int .i64 (wrap64 (Int.tdiv (wrap64 (a0)) 67108864)), .int .i64 (Int.tmod (wrap64 (Int.tdiv (wrap64 (a0)) 2097152)) 32), .int .i64 (Int.tmod (wrap64 (Int.tdiv (wrap64 (a0)) 65536)) 32), .int .i64 0, .int .i64 0]) ?_ 3 _ rfl; (with_reducible repeat (first | refine blk_drewN ?_ _ | refine blk_drew ?_ | refine blk_alloc ?_ _)); refine blk_put (cs := #[.int .i64 (wrap64 (Int.tdiv (wrap64 (a0)) 67108864)), .int .i64 (Int.tmod (wrap64 (Int.tdiv (wrap64 (a0)) 2097152)) 32), .int .i64 0, .int .i64 0, .int .i64 0]) ?_ 2 _ rfl; (with_reducible repeat (first | refine blk_drewN ?_ _ | refine blk_drew ?_ | refine blk_alloc ?_ _)); refine blk_put (cs := #[.int .i64 (wrap64 (Int.tdiv (wrap64 (a0)) 67108864)), .int .i64 0, .int .i64 0, .int .i64 0, .int .i64 0]) ?_ 1 _ rfl; (with_reducible repeat (first | refine blk_drewN ?_ _ | refine blk_drew ?_ | refine blk_alloc ?_ _)); refine blk_put (cs := #[.int .i64 0, .int .i64 0, .int .i64 0, .int .i64 0, .int .i64 0]) ?_ 0 _ rfl; (with_reducible repeat (first | refine blk_drewN ?_ _ | refine blk_drew ?_ | refine blk_alloc ?_ _)); exact BK133.out⟩, ⟨by repeat (first | (with_reducible first | exact HB.out | apply below_alloc | apply pw_below_drewN | apply below_drew1 | refine below_set ?_ GE132.out | refine below_set ?_ GE133.out) | exact HB.out)⟩⟩
   case rest =>
    clear HC11
    try clear c1
    try clear p1
    try clear q1
    try clear hx1
    try clear qi1
    try clear p2
    try clear c3
    try clear c3b0
    try clear c3b1
    try clear c6
    try clear p6
    try clear c7
    try clear c9
    try clear c9b0
    try clear c9b1
    try clear p10
    try clear q10
    try clear hx10
    try clear qi10
    try clear c14
    try clear c16
    try clear c16b0
    try clear c16b1
    try clear c17
    try clear hcz15_0
    try clear hcz15_1
    try clear hcz15_2
    try clear hcz15_3
    try clear hcz15_4
    try clear hcz18_0
    try clear hcz18_1
    try clear hcz18_2
    try clear hcz18_3
    try clear hcz18_4
    try clear hcz7_0
    try clear hcz7_1
    try clear hcz7_2
    try clear hcz7_3
    try clear hcz7_4
    try clear hcz8_0
    try clear hcz8_1
    try clear hcz8_2
    try clear hcz8_3
    try clear hcz8_4
    try clear hfz15_0
    try clear hfz15_1
    try clear hfz15_2
    try clear hfz15_3
    try clear hfz15_4
    try clear hfz18_0
    try clear hfz18_1
    try clear hfz18_2
    try clear hfz18_3
    try clear hfz18_4
    try clear hfz7_0
    try clear hfz7_1
    try clear hfz7_2
    try clear hfz7_3
    try clear hfz7_4
    try clear hfz8_0
    try clear hfz8_1
    try clear hfz8_2
    try clear hfz8_3
    try clear hfz8_4
    try clear p10
    try clear q10
    obtain ⟨kq, x7_10, x134003_10, rfl, HA, HJ10, BK132, BK133, HB⟩ := hcut
    cases kq with
    | zero => exact absurd HA.out (by simp [astrolaberef13_Decode.j0])
    | succ kj10 =>
     have H := HA.out
     clear HA
     simp only [astrolaberef13_Decode.j0] at H
     by_cases c19 : 3 < (t134.size : Int)
     ·
      rw [if_pos c19] at H
      have c19b0 : decide (3 < (t134.size : Int)) = true := decide_eq_true c19
      have c19b1 : decide (3 < t134.size) = true := decide_eq_true (by omega)
      clear c19
      have HC21 := Aside0.mk H
      clear H
      have p20 : 0 ≤ (3 : Int) := (by omega)
      have q20 : 3 < t134.size := (by have : (3 : Int) < (t134.size : Int) := of_decide_eq_true (by first | (with_reducible assumption) | assumption); omega)
      have hx20 : ∀ h : 3 < t134.size, ((t134[3]'h).toNat : Int) = bt t134 3 := bt_at t134 3
      clear p20
      have qi20 : (3 < (t134.size : Int)) = True := eq_true (of_decide_eq_true (by first | (with_reducible assumption) | assumption))
      replace q20 := eq_true q20
      go_upto_if 37 with (fail)
      go_cut [7] (fun v7 wc => ∃ (kq : Nat) (x7_20 : Int) (x134004_20 : Int), v7 = .int .i64 x7_20 ∧ Aside0 (astrolaberef13_Decode.j1 kq t134 x7_20 (wrap64 (Int.tdiv (wrap64 (a0)) 67108864)) (Int.tmod (wrap64 (Int.tdiv (wrap64 (a0)) 2097152)) 32) (Int.tmod (wrap64 (Int.tdiv (wrap64 (a0)) 65536)) 32) x134003_10 x134004_20 = some (r1, r2, r3, r4, r5, r6)) ∧ Aside0 (kq ≤ kj10) ∧ Aside0 (wc.heap[gb132]? = some (.cells #[.int .i64 0, .int .i64 0, .int .i64 0, .int .i64 0, .int .i64 0] 52 (0, 0))) ∧ Aside0 (wc.heap[gb133]? = some (.cells #[.int .i64 (wrap64 (Int.tdiv (wrap64 (a0)) 67108864)), .int .i64 (Int.tmod (wrap64 (Int.tdiv (wrap64 (a0)) 2097152)) 32), .int .i64 (Int.tmod (wrap64 (Int.tdiv (wrap64 (a0)) 65536)) 32), .int .i64 x134003_10, .int .i64 x134004_20] 52 (0, 0))) ∧ Aside0 (Below w.heap.size w wc))
      case first =>
       have H := HC21.out
       clear HC21
       by_cases c22 : (bt t134 3) = 45
       ·
        rw [if_pos c22] at H
        have c22b0 : ((bt t134 3) == 45) = true := beq_iff_eq.mpr c22
        have c22b1 : ((bt t134 3) != 45) = false := bne_eq_false_iff_eq.mpr c22
        clear c22
        (first | rw [c22b0] | (simp only [i64_w, i32_w]; rw [c22b0]) | skip)
        have H' := Aside0.mk H
        clear H
        go_wp2
        go_meet
        case rel => exact ⟨_, (x7_10), (0), (by first | rfl | (simp; done) | (simp [*]; done)), H', ⟨by have := HJ10.out; first | omega | exact Nat.le_refl _⟩, ⟨by (with_reducible repeat (first | refine blk_drewN ?_ _ | refine blk_drew ?_ | refine blk_alloc ?_ _)); exact BK132.out⟩, ⟨by (with_reducible repeat (first | refine blk_drewN ?_ _ | refine blk_drew ?_ | refine blk_alloc ?_ _)); exact BK133.out⟩, ⟨by repeat (first | (with_reducible first | exact HB.out | apply below_alloc | apply pw_below_drewN | apply below_drew1 | refine below_set ?_ GE132.out | refine below_set ?_ GE133.out) | exact HB.out)⟩⟩
       ·
        rw [if_neg c22] at H
        have c22b0 : ((bt t134 3) == 45) = false := beq_eq_false_iff_ne.mpr c22
        have c22b1 : ((bt t134 3) != 45) = true := bne_iff_ne.mpr c22
        (first | rw [c22b0] | (simp only [i64_w, i32_w]; rw [c22b0]) | skip)
        have H' := Aside0.mk H
        clear H
        have hnb23 := NB133_132.out
        have hnc23 := NB132_133.out
        have hcz24_0 : wc.cell? ⟨gb133, 0, none⟩ = some (.int .i64 (wrap64 (Int.tdiv (wrap64 (a0)) 67108864))) := (blk_cell BK133.out 0).trans rfl
        have hcz24_1 : wc.cell? ⟨gb133, 1, none⟩ = some (.int .i64 (Int.tmod (wrap64 (Int.tdiv (wrap64 (a0)) 2097152)) 32)) := (blk_cell BK133.out 1).trans rfl
        have hcz24_2 : wc.cell? ⟨gb133, 2, none⟩ = some (.int .i64 (Int.tmod (wrap64 (Int.tdiv (wrap64 (a0)) 65536)) 32)) := (blk_cell BK133.out 2).trans rfl
        have hcz24_3 : wc.cell? ⟨gb133, 3, none⟩ = some (.int .i64 x134003_10) := (blk_cell BK133.out 3).trans rfl
        have hcz24_4 : wc.cell? ⟨gb133, 4, none⟩ = some (.int .i64 0) := (blk_cell BK133.out 4).trans rfl
        have hfz24_0 := blk_frozen BK133.out 0
        have hfz24_1 := blk_frozen BK133.out 1
        have hfz24_2 := blk_frozen BK133.out 2
        have hfz24_3 := blk_frozen BK133.out 3
        have hfz24_4 := blk_frozen BK133.out 4
        go_wp2
        go_meet
        case rel => exact ⟨_, (0), (x7_10), (by first | rfl | (simp; done) | (simp [*]; done)), H', ⟨by have := HJ10.out; first | omega | exact Nat.le_refl _⟩, ⟨by (with_reducible repeat (first | refine blk_drewN ?_ _ | refine blk_drew ?_ | refine blk_alloc ?_ _)); refine blk_far ?_ NB132_133.out _; (with_reducible repeat (first | refine blk_drewN ?_ _ | refine blk_drew ?_ | refine blk_alloc ?_ _)); exact BK132.out⟩, ⟨by (with_reducible repeat (first | refine blk_drewN ?_ _ | refine blk_drew ?_ | refine blk_alloc ?_ _)); refine blk_put (cs := #[.int .i64 (wrap64 (Int.tdiv (wrap64 (a0)) 67108864)), .int .i64 (Int.tmod (wrap64 (Int.tdiv (wrap64 (a0)) 2097152)) 32), .int .i64 (Int.tmod (wrap64 (Int.tdiv (wrap64 (a0)) 65536)) 32), .int .i64 x134003_10, .int .i64 0]) ?_ 4 _ rfl; (with_reducible repeat (first | refine blk_drewN ?_ _ | refine blk_drew ?_ | refine blk_alloc ?_ _)); exact BK133.out⟩, ⟨by repeat (first | (with_reducible first | exact HB.out | apply below_alloc | apply pw_below_drewN | apply below_drew1 | refine below_set ?_ GE132.out | refine below_set ?_ GE133.out) | exact HB.out)⟩⟩
      case rest =>
       clear HC21
       try clear c1
       try clear p1
       try clear q1
       try clear hx1
       try clear qi1
       try clear c2
       try clear p2
       try clear q2
       try clear hx2
       try clear qi2
       try clear c3
       try clear c3b0
       try clear c3b1
       try clear c6
       try clear p6
       try clear c7
       try clear c9
       try clear c9b0
       try clear c9b1
       try clear p10
       try clear q10
       try clear hx10
       try clear qi10
       try clear c14
       try clear c16
       try clear c16b0
       try clear c16b1
       try clear c17
       try clear c19
       try clear c19b0
       try clear c19b1
       try clear p20
       try clear q20
       try clear hx20
       try clear qi20
       try clear c22
       try clear c22b0
       try clear c22b1
       try clear c23
       try clear hcz15_0
       try clear hcz15_1
       try clear hcz15_2
       try clear hcz15_3
       try clear hcz15_4
       try clear hcz18_0
       try clear hcz18_1
       try clear hcz18_2
       try clear hcz18_3
       try clear hcz18_4
       try clear hcz24_0
       try clear hcz24_1
       try clear hcz24_2
       try clear hcz24_3
       try clear hcz24_4
       try clear hcz7_0
       try clear hcz7_1
       try clear hcz7_2
       try clear hcz7_3
       try clear hcz7_4
       try clear hcz8_0
       try clear hcz8_1
       try clear hcz8_2
       try clear hcz8_3
       try clear hcz8_4
       try clear hfz15_0
       try clear hfz15_1
       try clear hfz15_2
       try clear hfz15_3
       try clear hfz15_4
       try clear hfz18_0
       try clear hfz18_1
       try clear hfz18_2
       try clear hfz18_3
       try clear hfz18_4
       try clear hfz24_0
       try clear hfz24_1
       try clear hfz24_2
       try clear hfz24_3
       try clear hfz24_4
       try clear hfz7_0
       try clear hfz7_1
       try clear hfz7_2
       try clear hfz7_3
       try clear hfz7_4
       try clear hfz8_0
       try clear hfz8_1
       try clear hfz8_2
       try clear hfz8_3
       try clear hfz8_4
       try clear p1
       try clear p10
       try clear p2
       try clear p20
       try clear p6
       try clear q1
       try clear q10
       try clear q20
       obtain ⟨kq, x7_20, x134004_20, rfl, HA, HJ20, BK132, BK133, HB⟩ := hcut
       cases kq with
       | zero => exact absurd HA.out (by simp [astrolaberef13_Decode.j1])
       | succ kj20 =>
        have H := HA.out
        clear HA
        simp only [astrolaberef13_Decode.j1] at H
        have HC25 := Aside0.mk H
        clear H
        go_upto_region 13 with (fail)
        go_cut [47] (fun v47 wc => ∃ (kq : Nat) (x47_24 : Bool), v47 = .bool x47_24 ∧ Aside0 (astrolaberef13_Decode.j2 kq t134 x7_20 x47_24 (wrap64 (Int.tdiv (wrap64 (a0)) 67108864)) (Int.tmod (wrap64 (Int.tdiv (wrap64 (a0)) 2097152)) 32) (Int.tmod (wrap64 (Int.tdiv (wrap64 (a0)) 65536)) 32) x134003_10 x134004_20 = some (r1, r2, r3, r4, r5, r6)) ∧ Aside0 (kq ≤ kj20) ∧ Aside0 (wc.heap[gb132]? = some (.cells #[.int .i64 0, .int .i64 0, .int .i64 0, .int .i64 0, .int .i64 0] 52 (0, 0))) ∧ Aside0 (wc.heap[gb133]? = some (.cells #[.int .i64 (wrap64 (Int.tdiv (wrap64 (a0)) 67108864)), .int .i64 (Int.tmod (wrap64 (Int.tdiv (wrap64 (a0)) 2097152)) 32), .int .i64 (Int.tmod (wrap64 (Int.tdiv (wrap64 (a0)) 65536)) 32), .int .i64 x134003_10, .int .i64 x134004_20] 52 (0, 0))) ∧ Aside0 (Below w.heap.size w wc))
        case first =>
         have H := HC25.out
         clear HC25
         by_cases c26 : 3 < (t134.size : Int)
         ·
          rw [if_pos c26] at H
          have c26b0 : decide (3 < (t134.size : Int)) = true := decide_eq_true c26
          have c26b1 : decide (3 < t134.size) = true := decide_eq_true (by omega)
          clear c26
          (first | rw [c26b0] | (simp only [i64_w, i32_w]; rw [c26b0]) | skip)
          by_cases c28 : (bt t134 3) = 115
          ·
           rw [if_pos c28] at H
           have c28b0 : ((bt t134 3) == 115) = true := beq_iff_eq.mpr c28
           have c28b1 : ((bt t134 3) != 115) = false := bne_eq_false_iff_eq.mpr c28
           clear c28
           have H' := Aside0.mk H
           clear H
           have p27 : 0 ≤ (3 : Int) := (by omega)
           have q27 : 3 < t134.size := (by have : (3 : Int) < (t134.size : Int) := of_decide_eq_true (by first | (with_reducible assumption) | assumption); omega)
           have hx27 : ∀ h : 3 < t134.size, ((t134[3]'h).toNat : Int) = bt t134 3 := bt_at t134 3
           clear p27
           have qi27 : (3 < (t134.size : Int)) = True := eq_true (of_decide_eq_true (by first | (with_reducible assumption) | assumption))
           replace q27 := eq_true q27
           have hnb29 := NB133_132.out
           have hnc29 := NB132_133.out
           have hcz30_0 : wc.cell? ⟨gb133, 0, none⟩ = some (.int .i64 (wrap64 (Int.tdiv (wrap64 (a0)) 67108864))) := (blk_cell BK133.out 0).trans rfl
           have hcz30_1 : wc.cell? ⟨gb133, 1, none⟩ = some (.int .i64 (Int.tmod (wrap64 (Int.tdiv (wrap64 (a0)) 2097152)) 32)) := (blk_cell BK133.out 1).trans rfl
           have hcz30_2 : wc.cell? ⟨gb133, 2, none⟩ = some (.int .i64 (Int.tmod (wrap64 (Int.tdiv (wrap64 (a0)) 65536)) 32)) := (blk_cell BK133.out 2).trans rfl
           have hcz30_3 : wc.cell? ⟨gb133, 3, none⟩ = some (.int .i64 x134003_10) := (blk_cell BK133.out 3).trans rfl
           have hcz30_4 : wc.cell? ⟨gb133, 4, none⟩ = some (.int .i64 x134004_20) := (blk_cell BK133.out 4).trans rfl
           have hfz30_0 := blk_frozen BK133.out 0
           have hfz30_1 := blk_frozen BK133.out 1
           have hfz30_2 := blk_frozen BK133.out 2
           have hfz30_3 := blk_frozen BK133.out 3
           have hfz30_4 := blk_frozen BK133.out 4
           go_wp2
           go_meet
           case rel => exact ⟨_, (decide (x134004_20 ≥ 32768)), (by first | rfl | (simp; done) | (simp [*]; done)), H', ⟨by have := HJ10.out; have := HJ20.out; first | omega | exact Nat.le_refl _⟩, ⟨by (with_reducible repeat (first | refine blk_drewN ?_ _ | refine blk_drew ?_ | refine blk_alloc ?_ _)); exact BK132.out⟩, ⟨by (with_reducible repeat (first | refine blk_drewN ?_ _ | refine blk_drew ?_ | refine blk_alloc ?_ _)); exact BK133.out⟩, ⟨by repeat (first | (with_reducible first | exact HB.out | apply below_alloc | apply pw_below_drewN | apply below_drew1 | refine below_set ?_ GE132.out | refine below_set ?_ GE133.out) | exact HB.out)⟩⟩
          ·
           rw [if_neg c28] at H
           have c28b0 : ((bt t134 3) == 115) = false := beq_eq_false_iff_ne.mpr c28
           have c28b1 : ((bt t134 3) != 115) = true := bne_iff_ne.mpr c28
           have H' := Aside0.mk H
           clear H
           have p27 : 0 ≤ (3 : Int) := (by omega)
           have q27 : 3 < t134.size := (by have : (3 : Int) < (t134.size : Int) := of_decide_eq_true (by first | (with_reducible assumption) | assumption); omega)
           have hx27 : ∀ h : 3 < t134.size, ((t134[3]'h).toNat : Int) = bt t134 3 := bt_at t134 3
           clear p27
           have qi27 : (3 < (t134.size : Int)) = True := eq_true (of_decide_eq_true (by first | (with_reducible assumption) | assumption))
           replace q27 := eq_true q27
           go_wp2
           go_meet
           case rel => exact ⟨_, (false), (by first | rfl | (simp; done) | (simp [*]; done)), H', ⟨by have := HJ10.out; have := HJ20.out; first | omega | exact Nat.le_refl _⟩, ⟨by (with_reducible repeat (first | refine blk_drewN ?_ _ | refine blk_drew ?_ | refine blk_alloc ?_ _)); exact BK132.out⟩, ⟨by (with_reducible repeat (first | refine blk_drewN ?_ _ | refine blk_drew ?_ | refine blk_alloc ?_ _)); exact BK133.out⟩, ⟨by repeat (first | (with_reducible first | exact HB.out | apply below_alloc | apply pw_below_drewN | apply below_drew1 | refine below_set ?_ GE132.out | refine below_set ?_ GE133.out) | exact HB.out)⟩⟩
         ·
          rw [if_neg c26] at H
          exact absurd H (by simp)
        case rest =>
         clear HC25
         try clear c1
         try clear p1
         try clear q1
         try clear hx1
         try clear qi1
         try clear c2
         try clear p2
         try clear q2
         try clear hx2
         try clear qi2
         try clear c3
         try clear c3b0
         try clear c3b1
         try clear c6
         try clear p6
         try clear c7
         try clear c9
         try clear c9b0
         try clear c9b1
         try clear p10
         try clear q10
         try clear hx10
         try clear qi10
         try clear c14
         try clear c16
         try clear c16b0
         try clear c16b1
         try clear c17
         try clear c19
         try clear c19b0
         try clear c19b1
         try clear p20
         try clear q20
         try clear hx20
         try clear qi20
         try clear c22
         try clear c22b0
         try clear c22b1
         try clear c23
         try clear c26
         try clear c26b0
         try clear c26b1
         try clear p27
         try clear q27
         try clear hx27
         try clear qi27
         try clear c28
         try clear c28b0
         try clear c28b1
         try clear c29
         try clear hcz15_0
         try clear hcz15_1
         try clear hcz15_2
         try clear hcz15_3
         try clear hcz15_4
         try clear hcz18_0
         try clear hcz18_1
         try clear hcz18_2
         try clear hcz18_3
         try clear hcz18_4
         try clear hcz24_0
         try clear hcz24_1
         try clear hcz24_2
         try clear hcz24_3
         try clear hcz24_4
         try clear hcz30_0
         try clear hcz30_1
         try clear hcz30_2
         try clear hcz30_3
         try clear hcz30_4
         try clear hcz7_0
         try clear hcz7_1
         try clear hcz7_2
         try clear hcz7_3
         try clear hcz7_4
         try clear hcz8_0
         try clear hcz8_1
         try clear hcz8_2
         try clear hcz8_3
         try clear hcz8_4
         try clear hfz15_0
         try clear hfz15_1
         try clear hfz15_2
         try clear hfz15_3
         try clear hfz15_4
         try clear hfz18_0
         try clear hfz18_1
         try clear hfz18_2
         try clear hfz18_3
         try clear hfz18_4
         try clear hfz24_0
         try clear hfz24_1
         try clear hfz24_2
         try clear hfz24_3
         try clear hfz24_4
         try clear hfz30_0
         try clear hfz30_1
         try clear hfz30_2
         try clear hfz30_3
         try clear hfz30_4
         try clear hfz7_0
         try clear hfz7_1
         try clear hfz7_2
         try clear hfz7_3
         try clear hfz7_4
         try clear hfz8_0
         try clear hfz8_1
         try clear hfz8_2
         try clear hfz8_3
         try clear hfz8_4
         try clear p1
         try clear p10
         try clear p2
         try clear p20
         try clear p27
         try clear p6
         try clear q1
         try clear q10
         try clear q2
         try clear q20
         try clear q27
         obtain ⟨kq, x47_24, rfl, HA, HJ24, BK132, BK133, HB⟩ := hcut
         cases kq with
         | zero => exact absurd HA.out (by simp [astrolaberef13_Decode.j2])
         | succ kj24 =>
          have H := HA.out
          clear HA
          simp only [astrolaberef13_Decode.j2] at H
          by_cases c31 : x47_24 = true
          ·
           subst c31
           have H1 : (if x7_20 = 0 then (if 0 < (t134.size : Int) then (if (bt t134 0) = 45 then (if (Int.tmod (wrap64 (Int.tdiv (wrap64 (a0)) 2097152)) 32) = 0 then (if 1 < (t134.size : Int) then (if (bt t134 1) = 45 then (if (Int.tmod (wrap64 (Int.tdiv (wrap64 (a0)) 65536)) 32) = 0 then (some ((wrap64 (Int.tdiv (wrap64 (a0)) 67108864)), (Int.tmod (wrap64 (Int.tdiv (wrap64 (a0)) 2097152)) 32), (Int.tmod (wrap64 (Int.tdiv (wrap64 (a0)) 65536)) 32), x134003_10, wrap64 (x134004_20 - 65536), 0)) else (some (0, 0, 0, 0, 0, 3))) else (some ((wrap64 (Int.tdiv (wrap64 (a0)) 67108864)), (Int.tmod (wrap64 (Int.tdiv (wrap64 (a0)) 2097152)) 32), (Int.tmod (wrap64 (Int.tdiv (wrap64 (a0)) 65536)) 32), x134003_10, wrap64 (x134004_20 - 65536), 0))) else (none)) else (some (0, 0, 0, 0, 0, 3))) else (if 1 < (t134.size : Int) then (if (bt t134 1) = 45 then (if (Int.tmod (wrap64 (Int.tdiv (wrap64 (a0)) 65536)) 32) = 0 then (some ((wrap64 (Int.tdiv (wrap64 (a0)) 67108864)), (Int.tmod (wrap64 (Int.tdiv (wrap64 (a0)) 2097152)) 32), (Int.tmod (wrap64 (Int.tdiv (wrap64 (a0)) 65536)) 32), x134003_10, wrap64 (x134004_20 - 65536), 0)) else (some (0, 0, 0, 0, 0, 3))) else (some ((wrap64 (Int.tdiv (wrap64 (a0)) 67108864)), (Int.tmod (wrap64 (Int.tdiv (wrap64 (a0)) 2097152)) 32), (Int.tmod (wrap64 (Int.tdiv (wrap64 (a0)) 65536)) 32), x134003_10, wrap64 (x134004_20 - 65536), 0))) else (none))) else (none)) else (some (0, 0, 0, 0, 0, 3))) = some (r1, r2, r3, r4, r5, r6) := by rw [if_pos rfl] at H; exact H
           clear H
           have H := H1
           clear H1
           by_cases c32 : x7_20 = 0
           ·
            rw [if_pos c32] at H
            have c32b0 : (x7_20 == 0) = true := beq_iff_eq.mpr c32
            have c32b1 : (x7_20 != 0) = false := bne_eq_false_iff_eq.mpr c32
            clear c32
            by_cases c33 : 0 < (t134.size : Int)
            ·
             rw [if_pos c33] at H
             have c33b0 : decide (0 < (t134.size : Int)) = true := decide_eq_true c33
             have c33b1 : decide (0 < t134.size) = true := decide_eq_true (by omega)
             clear c33
             by_cases c35 : (bt t134 0) = 45
             ·
              rw [if_pos c35] at H
              have c35b0 : ((bt t134 0) == 45) = true := beq_iff_eq.mpr c35
              have c35b1 : ((bt t134 0) != 45) = false := bne_eq_false_iff_eq.mpr c35
              clear c35
              by_cases c36 : (Int.tmod (wrap64 (Int.tdiv (wrap64 (a0)) 2097152)) 32) = 0
              ·
               rw [if_pos c36] at H
               have c36b0 : ((Int.tmod (wrap64 (Int.tdiv (wrap64 (a0)) 2097152)) 32) == 0) = true := beq_iff_eq.mpr c36
               have c36b1 : ((Int.tmod (wrap64 (Int.tdiv (wrap64 (a0)) 2097152)) 32) != 0) = false := bne_eq_false_iff_eq.mpr c36
               clear c36
               by_cases c37 : 1 < (t134.size : Int)
               ·
                rw [if_pos c37] at H
                have c37b0 : decide (1 < (t134.size : Int)) = true := decide_eq_true c37
                have c37b1 : decide (1 < t134.size) = true := decide_eq_true (by omega)
                clear c37
                by_cases c39 : (bt t134 1) = 45
                ·
                 rw [if_pos c39] at H
                 have c39b0 : ((bt t134 1) == 45) = true := beq_iff_eq.mpr c39
                 have c39b1 : ((bt t134 1) != 45) = false := bne_eq_false_iff_eq.mpr c39
                 clear c39
                 by_cases c40 : (Int.tmod (wrap64 (Int.tdiv (wrap64 (a0)) 65536)) 32) = 0
                 ·
                  rw [if_pos c40] at H
                  have c40b0 : ((Int.tmod (wrap64 (Int.tdiv (wrap64 (a0)) 65536)) 32) == 0) = true := beq_iff_eq.mpr c40
                  have c40b1 : ((Int.tmod (wrap64 (Int.tdiv (wrap64 (a0)) 65536)) 32) != 0) = false := bne_eq_false_iff_eq.mpr c40
                  clear c40
                  simp only [Option.some.injEq, Prod.mk.injEq] at H
                  obtain ⟨rfl, rfl, rfl, rfl, rfl, rfl⟩ := H
                  have hnb41 := NB133_132.out
                  have hnc41 := NB132_133.out
                  have hcz42_0 : wc.cell? ⟨gb133, 0, none⟩ = some (.int .i64 (wrap64 (Int.tdiv (wrap64 (a0)) 67108864))) := (blk_cell BK133.out 0).trans rfl
                  have hcz42_1 : wc.cell? ⟨gb133, 1, none⟩ = some (.int .i64 (Int.tmod (wrap64 (Int.tdiv (wrap64 (a0)) 2097152)) 32)) := (blk_cell BK133.out 1).trans rfl
                  have hcz42_2 : wc.cell? ⟨gb133, 2, none⟩ = some (.int .i64 (Int.tmod (wrap64 (Int.tdiv (wrap64 (a0)) 65536)) 32)) := (blk_cell BK133.out 2).trans rfl
                  have hcz42_3 : wc.cell? ⟨gb133, 3, none⟩ = some (.int .i64 x134003_10) := (blk_cell BK133.out 3).trans rfl
                  have hcz42_4 : wc.cell? ⟨gb133, 4, none⟩ = some (.int .i64 x134004_20) := (blk_cell BK133.out 4).trans rfl
                  have hfz42_0 := blk_frozen BK133.out 0
                  have hfz42_1 := blk_frozen BK133.out 1
                  have hfz42_2 := blk_frozen BK133.out 2
                  have hfz42_3 := blk_frozen BK133.out 3
                  have hfz42_4 := blk_frozen BK133.out 4
                  have p34 : 0 ≤ (0 : Int) := (by omega)
                  have q34 : 0 < t134.size := (by have : (0 : Int) < (t134.size : Int) := of_decide_eq_true (by first | (with_reducible assumption) | assumption); omega)
                  have hx34 : ∀ h : 0 < t134.size, ((t134[0]'h).toNat : Int) = bt t134 0 := bt_at t134 0
                  clear p34
                  have qi34 : (0 < (t134.size : Int)) = True := eq_true (of_decide_eq_true (by first | (with_reducible assumption) | assumption))
                  replace q34 := eq_true q34
                  have p38 : 0 ≤ (1 : Int) := (by omega)
                  have q38 : 1 < t134.size := (by have : (1 : Int) < (t134.size : Int) := of_decide_eq_true (by first | (with_reducible assumption) | assumption); omega)
                  have hx38 : ∀ h : 1 < t134.size, ((t134[1]'h).toNat : Int) = bt t134 1 := bt_at t134 1
                  clear p38
                  have qi38 : (1 < (t134.size : Int)) = True := eq_true (of_decide_eq_true (by first | (with_reducible assumption) | assumption))
                  replace q38 := eq_true q38
                  have hcz43_0 : wc.cell? ⟨gb132, 0, none⟩ = some (.int .i64 0) := (blk_cell BK132.out 0).trans rfl
                  have hcz43_1 : wc.cell? ⟨gb132, 1, none⟩ = some (.int .i64 0) := (blk_cell BK132.out 1).trans rfl
                  have hcz43_2 : wc.cell? ⟨gb132, 2, none⟩ = some (.int .i64 0) := (blk_cell BK132.out 2).trans rfl
                  have hcz43_3 : wc.cell? ⟨gb132, 3, none⟩ = some (.int .i64 0) := (blk_cell BK132.out 3).trans rfl
                  have hcz43_4 : wc.cell? ⟨gb132, 4, none⟩ = some (.int .i64 0) := (blk_cell BK132.out 4).trans rfl
                  have hfz43_0 := blk_frozen BK132.out 0
                  have hfz43_1 := blk_frozen BK132.out 1
                  have hfz43_2 := blk_frozen BK132.out 2
                  have hfz43_3 := blk_frozen BK132.out 3
                  have hfz43_4 := blk_frozen BK132.out 4
                  go_wp2
                  refine bodyPost_ret (results_ct rfl _ _ gb132 52 #[.int .i64 (wrap64 (Int.tdiv (wrap64 (a0)) 67108864)), .int .i64 (Int.tmod (wrap64 (Int.tdiv (wrap64 (a0)) 2097152)) 32), .int .i64 (Int.tmod (wrap64 (Int.tdiv (wrap64 (a0)) 65536)) 32), .int .i64 x134003_10, .int .i64 (wrap64 (x134004_20 - 65536))] (0, 0) _ rfl (by (with_reducible repeat (first | refine blk_drewN ?_ _ | refine blk_drew ?_ | refine blk_alloc ?_ _)); refine blk_put (cs := #[.int .i64 (wrap64 (Int.tdiv (wrap64 (a0)) 67108864)), .int .i64 (Int.tmod (wrap64 (Int.tdiv (wrap64 (a0)) 2097152)) 32), .int .i64 (Int.tmod (wrap64 (Int.tdiv (wrap64 (a0)) 65536)) 32), .int .i64 x134003_10, .int .i64 0]) ?_ 4 _ rfl; (with_reducible repeat (first | refine blk_drewN ?_ _ | refine blk_drew ?_ | refine blk_alloc ?_ _)); refine blk_put (cs := #[.int .i64 (wrap64 (Int.tdiv (wrap64 (a0)) 67108864)), .int .i64 (Int.tmod (wrap64 (Int.tdiv (wrap64 (a0)) 2097152)) 32), .int .i64 (Int.tmod (wrap64 (Int.tdiv (wrap64 (a0)) 65536)) 32), .int .i64 0, .int .i64 0]) ?_ 3 _ rfl; (with_reducible repeat (first | refine blk_drewN ?_ _ | refine blk_drew ?_ | refine blk_alloc ?_ _)); refine blk_put (cs := #[.int .i64 (wrap64 (Int.tdiv (wrap64 (a0)) 67108864)), .int .i64 (Int.tmod (wrap64 (Int.tdiv (wrap64 (a0)) 2097152)) 32), .int .i64 0, .int .i64 0, .int .i64 0]) ?_ 2 _ rfl; (with_reducible repeat (first | refine blk_drewN ?_ _ | refine blk_drew ?_ | refine blk_alloc ?_ _)); refine blk_put (cs := #[.int .i64 (wrap64 (Int.tdiv (wrap64 (a0)) 67108864)), .int .i64 0, .int .i64 0, .int .i64 0, .int .i64 0]) ?_ 1 _ rfl; (with_reducible repeat (first | refine blk_drewN ?_ _ | refine blk_drew ?_ | refine blk_alloc ?_ _)); refine blk_put (cs := #[.int .i64 0, .int .i64 0, .int .i64 0, .int .i64 0, .int .i64 0]) ?_ 0 _ rfl; (with_reducible repeat (first | refine blk_drewN ?_ _ | refine blk_drew ?_ | refine blk_alloc ?_ _)); refine blk_far ?_ NB132_133.out _; (with_reducible repeat (first | refine blk_drewN ?_ _ | refine blk_drew ?_ | refine blk_alloc ?_ _)); exact BK132.out) Try.underlying52 rfl (by kernel_rfl)) rfl ?_
                  exact ⟨by first | rfl | (simp [errW_none, errW_some] <;> rfl) | (simp [*, errW_none, errW_some] <;> rfl), by repeat (first | (with_reducible first | exact HB.out | apply below_alloc | apply pw_below_drewN | apply below_drew1 | refine below_set ?_ GE132.out | refine below_set ?_ GE133.out) | exact HB.out)⟩
                 ·
                  rw [if_neg c40] at H
                  have c40b0 : ((Int.tmod (wrap64 (Int.tdiv (wrap64 (a0)) 65536)) 32) == 0) = false := beq_eq_false_iff_ne.mpr c40
                  have c40b1 : ((Int.tmod (wrap64 (Int.tdiv (wrap64 (a0)) 65536)) 32) != 0) = true := bne_iff_ne.mpr c40
                  simp only [Option.some.injEq, Prod.mk.injEq] at H
                  obtain ⟨rfl, rfl, rfl, rfl, rfl, rfl⟩ := H
                  have hnb44 := NB133_132.out
                  have hnc44 := NB132_133.out
                  have hcz45_0 : wc.cell? ⟨gb133, 0, none⟩ = some (.int .i64 (wrap64 (Int.tdiv (wrap64 (a0)) 67108864))) := (blk_cell BK133.out 0).trans rfl
                  have hcz45_1 : wc.cell? ⟨gb133, 1, none⟩ = some (.int .i64 (Int.tmod (wrap64 (Int.tdiv (wrap64 (a0)) 2097152)) 32)) := (blk_cell BK133.out 1).trans rfl
                  have hcz45_2 : wc.cell? ⟨gb133, 2, none⟩ = some (.int .i64 (Int.tmod (wrap64 (Int.tdiv (wrap64 (a0)) 65536)) 32)) := (blk_cell BK133.out 2).trans rfl
                  have hcz45_3 : wc.cell? ⟨gb133, 3, none⟩ = some (.int .i64 x134003_10) := (blk_cell BK133.out 3).trans rfl
                  have hcz45_4 : wc.cell? ⟨gb133, 4, none⟩ = some (.int .i64 x134004_20) := (blk_cell BK133.out 4).trans rfl
                  have hfz45_0 := blk_frozen BK133.out 0
                  have hfz45_1 := blk_frozen BK133.out 1
                  have hfz45_2 := blk_frozen BK133.out 2
                  have hfz45_3 := blk_frozen BK133.out 3
                  have hfz45_4 := blk_frozen BK133.out 4
                  have p34 : 0 ≤ (0 : Int) := (by omega)
                  have q34 : 0 < t134.size := (by have : (0 : Int) < (t134.size : Int) := of_decide_eq_true (by first | (with_reducible assumption) | assumption); omega)
                  have hx34 : ∀ h : 0 < t134.size, ((t134[0]'h).toNat : Int) = bt t134 0 := bt_at t134 0
                  clear p34
                  have qi34 : (0 < (t134.size : Int)) = True := eq_true (of_decide_eq_true (by first | (with_reducible assumption) | assumption))
                  replace q34 := eq_true q34
                  have p38 : 0 ≤ (1 : Int) := (by omega)
                  have q38 : 1 < t134.size := (by have : (1 : Int) < (t134.size : Int) := of_decide_eq_true (by first | (with_reducible assumption) | assumption); omega)
                  have hx38 : ∀ h : 1 < t134.size, ((t134[1]'h).toNat : Int) = bt t134 1 := bt_at t134 1
                  clear p38
                  have qi38 : (1 < (t134.size : Int)) = True := eq_true (of_decide_eq_true (by first | (with_reducible assumption) | assumption))
                  replace q38 := eq_true q38
                  have hcz46_0 : wc.cell? ⟨gb132, 0, none⟩ = some (.int .i64 0) := (blk_cell BK132.out 0).trans rfl
                  have hcz46_1 : wc.cell? ⟨gb132, 1, none⟩ = some (.int .i64 0) := (blk_cell BK132.out 1).trans rfl
                  have hcz46_2 : wc.cell? ⟨gb132, 2, none⟩ = some (.int .i64 0) := (blk_cell BK132.out 2).trans rfl
                  have hcz46_3 : wc.cell? ⟨gb132, 3, none⟩ = some (.int .i64 0) := (blk_cell BK132.out 3).trans rfl
                  have hcz46_4 : wc.cell? ⟨gb132, 4, none⟩ = some (.int .i64 0) := (blk_cell BK132.out 4).trans rfl
                  have hfz46_0 := blk_frozen BK132.out 0
                  have hfz46_1 := blk_frozen BK132.out 1
                  have hfz46_2 := blk_frozen BK132.out 2
                  have hfz46_3 := blk_frozen BK132.out 3
                  have hfz46_4 := blk_frozen BK132.out 4
                  go_wp2
                  refine bodyPost_ret (results_ct rfl _ _ gb132 52 #[.int .i64 0, .int .i64 0, .int .i64 0, .int .i64 0, .int .i64 0] (0, 0) _ rfl (by (with_reducible repeat (first | refine blk_drewN ?_ _ | refine blk_drew ?_ | refine blk_alloc ?_ _)); refine blk_put (cs := #[.int .i64 0, .int .i64 0, .int .i64 0, .int .i64 0, .int .i64 0]) ?_ 4 _ rfl; (with_reducible repeat (first | refine blk_drewN ?_ _ | refine blk_drew ?_ | refine blk_alloc ?_ _)); refine blk_put (cs := #[.int .i64 0, .int .i64 0, .int .i64 0, .int .i64 0, .int .i64 0]) ?_ 3 _ rfl; (with_reducible repeat (first | refine blk_drewN ?_ _ | refine blk_drew ?_ | refine blk_alloc ?_ _)); refine blk_put (cs := #[.int .i64 0, .int .i64 0, .int .i64 0, .int .i64 0, .int .i64 0]) ?_ 2 _ rfl; (with_reducible repeat (first | refine blk_drewN ?_ _ | refine blk_drew ?_ | refine blk_alloc ?_ _)); refine blk_put (cs := #[.int .i64 0, .int .i64 0, .int .i64 0, .int .i64 0, .int .i64 0]) ?_ 1 _ rfl; (with_reducible repeat (first | refine blk_drewN ?_ _ | refine blk_drew ?_ | refine blk_alloc ?_ _)); refine blk_put (cs := #[.int .i64 0, .int .i64 0, .int .i64 0, .int .i64 0, .int .i64 0]) ?_ 0 _ rfl; (with_reducible repeat (first | refine blk_drewN ?_ _ | refine blk_drew ?_ | refine blk_alloc ?_ _)); refine blk_far ?_ NB132_133.out _; (with_reducible repeat (first | refine blk_drewN ?_ _ | refine blk_drew ?_ | refine blk_alloc ?_ _)); exact BK132.out) Try.underlying52 rfl (by kernel_rfl)) rfl ?_
                  exact ⟨by first | rfl | (simp [errW_none, errW_some] <;> rfl) | (simp [*, errW_none, errW_some] <;> rfl), by repeat (first | (with_reducible first | exact HB.out | apply below_alloc | apply pw_below_drewN | apply below_drew1 | refine below_set ?_ GE132.out | refine below_set ?_ GE133.out) | exact HB.out)⟩
                ·
                 rw [if_neg c39] at H
                 have c39b0 : ((bt t134 1) == 45) = false := beq_eq_false_iff_ne.mpr c39
                 have c39b1 : ((bt t134 1) != 45) = true := bne_iff_ne.mpr c39
                 simp only [Option.some.injEq, Prod.mk.injEq] at H
                 obtain ⟨rfl, rfl, rfl, rfl, rfl, rfl⟩ := H
                 have hnb47 := NB133_132.out
                 have hnc47 := NB132_133.out
                 have hcz48_0 : wc.cell? ⟨gb133, 0, none⟩ = some (.int .i64 (wrap64 (Int.tdiv (wrap64 (a0)) 67108864))) := (blk_cell BK133.out 0).trans rfl
                 have hcz48_1 : wc.cell? ⟨gb133, 1, none⟩ = some (.int .i64 (Int.tmod (wrap64 (Int.tdiv (wrap64 (a0)) 2097152)) 32)) := (blk_cell BK133.out 1).trans rfl
                 have hcz48_2 : wc.cell? ⟨gb133, 2, none⟩ = some (.int .i64 (Int.tmod (wrap64 (Int.tdiv (wrap64 (a0)) 65536)) 32)) := (blk_cell BK133.out 2).trans rfl
                 have hcz48_3 : wc.cell? ⟨gb133, 3, none⟩ = some (.int .i64 x134003_10) := (blk_cell BK133.out 3).trans rfl
                 have hcz48_4 : wc.cell? ⟨gb133, 4, none⟩ = some (.int .i64 x134004_20) := (blk_cell BK133.out 4).trans rfl
                 have hfz48_0 := blk_frozen BK133.out 0
                 have hfz48_1 := blk_frozen BK133.out 1
                 have hfz48_2 := blk_frozen BK133.out 2
                 have hfz48_3 := blk_frozen BK133.out 3
                 have hfz48_4 := blk_frozen BK133.out 4
                 have p34 : 0 ≤ (0 : Int) := (by omega)
                 have q34 : 0 < t134.size := (by have : (0 : Int) < (t134.size : Int) := of_decide_eq_true (by first | (with_reducible assumption) | assumption); omega)
                 have hx34 : ∀ h : 0 < t134.size, ((t134[0]'h).toNat : Int) = bt t134 0 := bt_at t134 0
                 clear p34
                 have qi34 : (0 < (t134.size : Int)) = True := eq_true (of_decide_eq_true (by first | (with_reducible assumption) | assumption))
                 replace q34 := eq_true q34
                 have p38 : 0 ≤ (1 : Int) := (by omega)
                 have q38 : 1 < t134.size := (by have : (1 : Int) < (t134.size : Int) := of_decide_eq_true (by first | (with_reducible assumption) | assumption); omega)
                 have hx38 : ∀ h : 1 < t134.size, ((t134[1]'h).toNat : Int) = bt t134 1 := bt_at t134 1
                 clear p38
                 have qi38 : (1 < (t134.size : Int)) = True := eq_true (of_decide_eq_true (by first | (with_reducible assumption) | assumption))
                 replace q38 := eq_true q38
                 have hcz49_0 : wc.cell? ⟨gb132, 0, none⟩ = some (.int .i64 0) := (blk_cell BK132.out 0).trans rfl
                 have hcz49_1 : wc.cell? ⟨gb132, 1, none⟩ = some (.int .i64 0) := (blk_cell BK132.out 1).trans rfl
                 have hcz49_2 : wc.cell? ⟨gb132, 2, none⟩ = some (.int .i64 0) := (blk_cell BK132.out 2).trans rfl
                 have hcz49_3 : wc.cell? ⟨gb132, 3, none⟩ = some (.int .i64 0) := (blk_cell BK132.out 3).trans rfl
                 have hcz49_4 : wc.cell? ⟨gb132, 4, none⟩ = some (.int .i64 0) := (blk_cell BK132.out 4).trans rfl
                 have hfz49_0 := blk_frozen BK132.out 0
                 have hfz49_1 := blk_frozen BK132.out 1
                 have hfz49_2 := blk_frozen BK132.out 2
                 have hfz49_3 := blk_frozen BK132.out 3
                 have hfz49_4 := blk_frozen BK132.out 4
                 go_wp2
                 refine bodyPost_ret (results_ct rfl _ _ gb132 52 #[.int .i64 (wrap64 (Int.tdiv (wrap64 (a0)) 67108864)), .int .i64 (Int.tmod (wrap64 (Int.tdiv (wrap64 (a0)) 2097152)) 32), .int .i64 (Int.tmod (wrap64 (Int.tdiv (wrap64 (a0)) 65536)) 32), .int .i64 x134003_10, .int .i64 (wrap64 (x134004_20 - 65536))] (0, 0) _ rfl (by (with_reducible repeat (first | refine blk_drewN ?_ _ | refine blk_drew ?_ | refine blk_alloc ?_ _)); refine blk_put (cs := #[.int .i64 (wrap64 (Int.tdiv (wrap64 (a0)) 67108864)), .int .i64 (Int.tmod (wrap64 (Int.tdiv (wrap64 (a0)) 2097152)) 32), .int .i64 (Int.tmod (wrap64 (Int.tdiv (wrap64 (a0)) 65536)) 32), .int .i64 x134003_10, .int .i64 0]) ?_ 4 _ rfl; (with_reducible repeat (first | refine blk_drewN ?_ _ | refine blk_drew ?_ | refine blk_alloc ?_ _)); refine blk_put (cs := #[.int .i64 (wrap64 (Int.tdiv (wrap64 (a0)) 67108864)), .int .i64 (Int.tmod (wrap64 (Int.tdiv (wrap64 (a0)) 2097152)) 32), .int .i64 (Int.tmod (wrap64 (Int.tdiv (wrap64 (a0)) 65536)) 32), .int .i64 0, .int .i64 0]) ?_ 3 _ rfl; (with_reducible repeat (first | refine blk_drewN ?_ _ | refine blk_drew ?_ | refine blk_alloc ?_ _)); refine blk_put (cs := #[.int .i64 (wrap64 (Int.tdiv (wrap64 (a0)) 67108864)), .int .i64 (Int.tmod (wrap64 (Int.tdiv (wrap64 (a0)) 2097152)) 32), .int .i64 0, .int .i64 0, .int .i64 0]) ?_ 2 _ rfl; (with_reducible repeat (first | refine blk_drewN ?_ _ | refine blk_drew ?_ | refine blk_alloc ?_ _)); refine blk_put (cs := #[.int .i64 (wrap64 (Int.tdiv (wrap64 (a0)) 67108864)), .int .i64 0, .int .i64 0, .int .i64 0, .int .i64 0]) ?_ 1 _ rfl; (with_reducible repeat (first | refine blk_drewN ?_ _ | refine blk_drew ?_ | refine blk_alloc ?_ _)); refine blk_put (cs := #[.int .i64 0, .int .i64 0, .int .i64 0, .int .i64 0, .int .i64 0]) ?_ 0 _ rfl; (with_reducible repeat (first | refine blk_drewN ?_ _ | refine blk_drew ?_ | refine blk_alloc ?_ _)); refine blk_far ?_ NB132_133.out _; (with_reducible repeat (first | refine blk_drewN ?_ _ | refine blk_drew ?_ | refine blk_alloc ?_ _)); exact BK132.out) Try.underlying52 rfl (by kernel_rfl)) rfl ?_
                 exact ⟨by first | rfl | (simp [errW_none, errW_some] <;> rfl) | (simp [*, errW_none, errW_some] <;> rfl), by repeat (first | (with_reducible first | exact HB.out | apply below_alloc | apply pw_below_drewN | apply below_drew1 | refine below_set ?_ GE132.out | refine below_set ?_ GE133.out) | exact HB.out)⟩
               ·
                rw [if_neg c37] at H
                exact absurd H (by simp)
              ·
               rw [if_neg c36] at H
               have c36b0 : ((Int.tmod (wrap64 (Int.tdiv (wrap64 (a0)) 2097152)) 32) == 0) = false := beq_eq_false_iff_ne.mpr c36
               have c36b1 : ((Int.tmod (wrap64 (Int.tdiv (wrap64 (a0)) 2097152)) 32) != 0) = true := bne_iff_ne.mpr c36
               simp only [Option.some.injEq, Prod.mk.injEq] at H
               obtain ⟨rfl, rfl, rfl, rfl, rfl, rfl⟩ := H
               have hnb50 := NB133_132.out
               have hnc50 := NB132_133.out
               have hcz51_0 : wc.cell? ⟨gb133, 0, none⟩ = some (.int .i64 (wrap64 (Int.tdiv (wrap64 (a0)) 67108864))) := (blk_cell BK133.out 0).trans rfl
               have hcz51_1 : wc.cell? ⟨gb133, 1, none⟩ = some (.int .i64 (Int.tmod (wrap64 (Int.tdiv (wrap64 (a0)) 2097152)) 32)) := (blk_cell BK133.out 1).trans rfl
               have hcz51_2 : wc.cell? ⟨gb133, 2, none⟩ = some (.int .i64 (Int.tmod (wrap64 (Int.tdiv (wrap64 (a0)) 65536)) 32)) := (blk_cell BK133.out 2).trans rfl
               have hcz51_3 : wc.cell? ⟨gb133, 3, none⟩ = some (.int .i64 x134003_10) := (blk_cell BK133.out 3).trans rfl
               have hcz51_4 : wc.cell? ⟨gb133, 4, none⟩ = some (.int .i64 x134004_20) := (blk_cell BK133.out 4).trans rfl
               have hfz51_0 := blk_frozen BK133.out 0
               have hfz51_1 := blk_frozen BK133.out 1
               have hfz51_2 := blk_frozen BK133.out 2
               have hfz51_3 := blk_frozen BK133.out 3
               have hfz51_4 := blk_frozen BK133.out 4
               have p34 : 0 ≤ (0 : Int) := (by omega)
               have q34 : 0 < t134.size := (by have : (0 : Int) < (t134.size : Int) := of_decide_eq_true (by first | (with_reducible assumption) | assumption); omega)
               have hx34 : ∀ h : 0 < t134.size, ((t134[0]'h).toNat : Int) = bt t134 0 := bt_at t134 0
               clear p34
               have qi34 : (0 < (t134.size : Int)) = True := eq_true (of_decide_eq_true (by first | (with_reducible assumption) | assumption))
               replace q34 := eq_true q34
               have hcz52_0 : wc.cell? ⟨gb132, 0, none⟩ = some (.int .i64 0) := (blk_cell BK132.out 0).trans rfl
               have hcz52_1 : wc.cell? ⟨gb132, 1, none⟩ = some (.int .i64 0) := (blk_cell BK132.out 1).trans rfl
               have hcz52_2 : wc.cell? ⟨gb132, 2, none⟩ = some (.int .i64 0) := (blk_cell BK132.out 2).trans rfl
               have hcz52_3 : wc.cell? ⟨gb132, 3, none⟩ = some (.int .i64 0) := (blk_cell BK132.out 3).trans rfl
               have hcz52_4 : wc.cell? ⟨gb132, 4, none⟩ = some (.int .i64 0) := (blk_cell BK132.out 4).trans rfl
               have hfz52_0 := blk_frozen BK132.out 0
               have hfz52_1 := blk_frozen BK132.out 1
               have hfz52_2 := blk_frozen BK132.out 2
               have hfz52_3 := blk_frozen BK132.out 3
               have hfz52_4 := blk_frozen BK132.out 4
               go_wp2
               refine bodyPost_ret (results_ct rfl _ _ gb132 52 #[.int .i64 0, .int .i64 0, .int .i64 0, .int .i64 0, .int .i64 0] (0, 0) _ rfl (by (with_reducible repeat (first | refine blk_drewN ?_ _ | refine blk_drew ?_ | refine blk_alloc ?_ _)); refine blk_put (cs := #[.int .i64 0, .int .i64 0, .int .i64 0, .int .i64 0, .int .i64 0]) ?_ 4 _ rfl; (with_reducible repeat (first | refine blk_drewN ?_ _ | refine blk_drew ?_ | refine blk_alloc ?_ _)); refine blk_put (cs := #[.int .i64 0, .int .i64 0, .int .i64 0, .int .i64 0, .int .i64 0]) ?_ 3 _ rfl; (with_reducible repeat (first | refine blk_drewN ?_ _ | refine blk_drew ?_ | refine blk_alloc ?_ _)); refine blk_put (cs := #[.int .i64 0, .int .i64 0, .int .i64 0, .int .i64 0, .int .i64 0]) ?_ 2 _ rfl; (with_reducible repeat (first | refine blk_drewN ?_ _ | refine blk_drew ?_ | refine blk_alloc ?_ _)); refine blk_put (cs := #[.int .i64 0, .int .i64 0, .int .i64 0, .int .i64 0, .int .i64 0]) ?_ 1 _ rfl; (with_reducible repeat (first | refine blk_drewN ?_ _ | refine blk_drew ?_ | refine blk_alloc ?_ _)); refine blk_put (cs := #[.int .i64 0, .int .i64 0, .int .i64 0, .int .i64 0, .int .i64 0]) ?_ 0 _ rfl; (with_reducible repeat (first | refine blk_drewN ?_ _ | refine blk_drew ?_ | refine blk_alloc ?_ _)); refine blk_far ?_ NB132_133.out _; (with_reducible repeat (first | refine blk_drewN ?_ _ | refine blk_drew ?_ | refine blk_alloc ?_ _)); exact BK132.out) Try.underlying52 rfl (by kernel_rfl)) rfl ?_
               exact ⟨by first | rfl | (simp [errW_none, errW_some] <;> rfl) | (simp [*, errW_none, errW_some] <;> rfl), by repeat (first | (with_reducible first | exact HB.out | apply below_alloc | apply pw_below_drewN | apply below_drew1 | refine below_set ?_ GE132.out | refine below_set ?_ GE133.out) | exact HB.out)⟩
             ·
              rw [if_neg c35] at H
              have c35b0 : ((bt t134 0) == 45) = false := beq_eq_false_iff_ne.mpr c35
              have c35b1 : ((bt t134 0) != 45) = true := bne_iff_ne.mpr c35
              by_cases c53 : 1 < (t134.size : Int)
              ·
               rw [if_pos c53] at H
               have c53b0 : decide (1 < (t134.size : Int)) = true := decide_eq_true c53
               have c53b1 : decide (1 < t134.size) = true := decide_eq_true (by omega)
               clear c53
               by_cases c55 : (bt t134 1) = 45
               ·
                rw [if_pos c55] at H
                have c55b0 : ((bt t134 1) == 45) = true := beq_iff_eq.mpr c55
                have c55b1 : ((bt t134 1) != 45) = false := bne_eq_false_iff_eq.mpr c55
                clear c55
                by_cases c56 : (Int.tmod (wrap64 (Int.tdiv (wrap64 (a0)) 65536)) 32) = 0
                ·
                 rw [if_pos c56] at H
                 have c56b0 : ((Int.tmod (wrap64 (Int.tdiv (wrap64 (a0)) 65536)) 32) == 0) = true := beq_iff_eq.mpr c56
                 have c56b1 : ((Int.tmod (wrap64 (Int.tdiv (wrap64 (a0)) 65536)) 32) != 0) = false := bne_eq_false_iff_eq.mpr c56
                 clear c56
                 simp only [Option.some.injEq, Prod.mk.injEq] at H
                 obtain ⟨rfl, rfl, rfl, rfl, rfl, rfl⟩ := H
                 have hnb57 := NB133_132.out
                 have hnc57 := NB132_133.out
                 have hcz58_0 : wc.cell? ⟨gb133, 0, none⟩ = some (.int .i64 (wrap64 (Int.tdiv (wrap64 (a0)) 67108864))) := (blk_cell BK133.out 0).trans rfl
                 have hcz58_1 : wc.cell? ⟨gb133, 1, none⟩ = some (.int .i64 (Int.tmod (wrap64 (Int.tdiv (wrap64 (a0)) 2097152)) 32)) := (blk_cell BK133.out 1).trans rfl
                 have hcz58_2 : wc.cell? ⟨gb133, 2, none⟩ = some (.int .i64 (Int.tmod (wrap64 (Int.tdiv (wrap64 (a0)) 65536)) 32)) := (blk_cell BK133.out 2).trans rfl
                 have hcz58_3 : wc.cell? ⟨gb133, 3, none⟩ = some (.int .i64 x134003_10) := (blk_cell BK133.out 3).trans rfl
                 have hcz58_4 : wc.cell? ⟨gb133, 4, none⟩ = some (.int .i64 x134004_20) := (blk_cell BK133.out 4).trans rfl
                 have hfz58_0 := blk_frozen BK133.out 0
                 have hfz58_1 := blk_frozen BK133.out 1
                 have hfz58_2 := blk_frozen BK133.out 2
                 have hfz58_3 := blk_frozen BK133.out 3
                 have hfz58_4 := blk_frozen BK133.out 4
                 have p34 : 0 ≤ (0 : Int) := (by omega)
                 have q34 : 0 < t134.size := (by have : (0 : Int) < (t134.size : Int) := of_decide_eq_true (by first | (with_reducible assumption) | assumption); omega)
                 have hx34 : ∀ h : 0 < t134.size, ((t134[0]'h).toNat : Int) = bt t134 0 := bt_at t134 0
                 clear p34
                 have qi34 : (0 < (t134.size : Int)) = True := eq_true (of_decide_eq_true (by first | (with_reducible assumption) | assumption))
                 replace q34 := eq_true q34
                 have p54 : 0 ≤ (1 : Int) := (by omega)
                 have q54 : 1 < t134.size := (by have : (1 : Int) < (t134.size : Int) := of_decide_eq_true (by first | (with_reducible assumption) | assumption); omega)
                 have hx54 : ∀ h : 1 < t134.size, ((t134[1]'h).toNat : Int) = bt t134 1 := bt_at t134 1
                 clear p54
                 have qi54 : (1 < (t134.size : Int)) = True := eq_true (of_decide_eq_true (by first | (with_reducible assumption) | assumption))
                 replace q54 := eq_true q54
                 have hcz59_0 : wc.cell? ⟨gb132, 0, none⟩ = some (.int .i64 0) := (blk_cell BK132.out 0).trans rfl
                 have hcz59_1 : wc.cell? ⟨gb132, 1, none⟩ = some (.int .i64 0) := (blk_cell BK132.out 1).trans rfl
                 have hcz59_2 : wc.cell? ⟨gb132, 2, none⟩ = some (.int .i64 0) := (blk_cell BK132.out 2).trans rfl
                 have hcz59_3 : wc.cell? ⟨gb132, 3, none⟩ = some (.int .i64 0) := (blk_cell BK132.out 3).trans rfl
                 have hcz59_4 : wc.cell? ⟨gb132, 4, none⟩ = some (.int .i64 0) := (blk_cell BK132.out 4).trans rfl
                 have hfz59_0 := blk_frozen BK132.out 0
                 have hfz59_1 := blk_frozen BK132.out 1
                 have hfz59_2 := blk_frozen BK132.out 2
                 have hfz59_3 := blk_frozen BK132.out 3
                 have hfz59_4 := blk_frozen BK132.out 4
                 go_wp2
                 refine bodyPost_ret (results_ct rfl _ _ gb132 52 #[.int .i64 (wrap64 (Int.tdiv (wrap64 (a0)) 67108864)), .int .i64 (Int.tmod (wrap64 (Int.tdiv (wrap64 (a0)) 2097152)) 32), .int .i64 (Int.tmod (wrap64 (Int.tdiv (wrap64 (a0)) 65536)) 32), .int .i64 x134003_10, .int .i64 (wrap64 (x134004_20 - 65536))] (0, 0) _ rfl (by (with_reducible repeat (first | refine blk_drewN ?_ _ | refine blk_drew ?_ | refine blk_alloc ?_ _)); refine blk_put (cs := #[.int .i64 (wrap64 (Int.tdiv (wrap64 (a0)) 67108864)), .int .i64 (Int.tmod (wrap64 (Int.tdiv (wrap64 (a0)) 2097152)) 32), .int .i64 (Int.tmod (wrap64 (Int.tdiv (wrap64 (a0)) 65536)) 32), .int .i64 x134003_10, .int .i64 0]) ?_ 4 _ rfl; (with_reducible repeat (first | refine blk_drewN ?_ _ | refine blk_drew ?_ | refine blk_alloc ?_ _)); refine blk_put (cs := #[.int .i64 (wrap64 (Int.tdiv (wrap64 (a0)) 67108864)), .int .i64 (Int.tmod (wrap64 (Int.tdiv (wrap64 (a0)) 2097152)) 32), .int .i64 (Int.tmod (wrap64 (Int.tdiv (wrap64 (a0)) 65536)) 32), .int .i64 0, .int .i64 0]) ?_ 3 _ rfl; (with_reducible repeat (first | refine blk_drewN ?_ _ | refine blk_drew ?_ | refine blk_alloc ?_ _)); refine blk_put (cs := #[.int .i64 (wrap64 (Int.tdiv (wrap64 (a0)) 67108864)), .int .i64 (Int.tmod (wrap64 (Int.tdiv (wrap64 (a0)) 2097152)) 32), .int .i64 0, .int .i64 0, .int .i64 0]) ?_ 2 _ rfl; (with_reducible repeat (first | refine blk_drewN ?_ _ | refine blk_drew ?_ | refine blk_alloc ?_ _)); refine blk_put (cs := #[.int .i64 (wrap64 (Int.tdiv (wrap64 (a0)) 67108864)), .int .i64 0, .int .i64 0, .int .i64 0, .int .i64 0]) ?_ 1 _ rfl; (with_reducible repeat (first | refine blk_drewN ?_ _ | refine blk_drew ?_ | refine blk_alloc ?_ _)); refine blk_put (cs := #[.int .i64 0, .int .i64 0, .int .i64 0, .int .i64 0, .int .i64 0]) ?_ 0 _ rfl; (with_reducible repeat (first | refine blk_drewN ?_ _ | refine blk_drew ?_ | refine blk_alloc ?_ _)); refine blk_far ?_ NB132_133.out _; (with_reducible repeat (first | refine blk_drewN ?_ _ | refine blk_drew ?_ | refine blk_alloc ?_ _)); exact BK132.out) Try.underlying52 rfl (by kernel_rfl)) rfl ?_
                 exact ⟨by first | rfl | (simp [errW_none, errW_some] <;> rfl) | (simp [*, errW_none, errW_some] <;> rfl), by repeat (first | (with_reducible first | exact HB.out | apply below_alloc | apply pw_below_drewN | apply below_drew1 | refine below_set ?_ GE132.out | refine below_set ?_ GE133.out) | exact HB.out)⟩
                ·
                 rw [if_neg c56] at H
                 have c56b0 : ((Int.tmod (wrap64 (Int.tdiv (wrap64 (a0)) 65536)) 32) == 0) = false := beq_eq_false_iff_ne.mpr c56
                 have c56b1 : ((Int.tmod (wrap64 (Int.tdiv (wrap64 (a0)) 65536)) 32) != 0) = true := bne_iff_ne.mpr c56
                 simp only [Option.some.injEq, Prod.mk.injEq] at H
                 obtain ⟨rfl, rfl, rfl, rfl, rfl, rfl⟩ := H
                 have hnb60 := NB133_132.out
                 have hnc60 := NB132_133.out
                 have hcz61_0 : wc.cell? ⟨gb133, 0, none⟩ = some (.int .i64 (wrap64 (Int.tdiv (wrap64 (a0)) 67108864))) := (blk_cell BK133.out 0).trans rfl
                 have hcz61_1 : wc.cell? ⟨gb133, 1, none⟩ = some (.int .i64 (Int.tmod (wrap64 (Int.tdiv (wrap64 (a0)) 2097152)) 32)) := (blk_cell BK133.out 1).trans rfl
                 have hcz61_2 : wc.cell? ⟨gb133, 2, none⟩ = some (.int .i64 (Int.tmod (wrap64 (Int.tdiv (wrap64 (a0)) 65536)) 32)) := (blk_cell BK133.out 2).trans rfl
                 have hcz61_3 : wc.cell? ⟨gb133, 3, none⟩ = some (.int .i64 x134003_10) := (blk_cell BK133.out 3).trans rfl
                 have hcz61_4 : wc.cell? ⟨gb133, 4, none⟩ = some (.int .i64 x134004_20) := (blk_cell BK133.out 4).trans rfl
                 have hfz61_0 := blk_frozen BK133.out 0
                 have hfz61_1 := blk_frozen BK133.out 1
                 have hfz61_2 := blk_frozen BK133.out 2
                 have hfz61_3 := blk_frozen BK133.out 3
                 have hfz61_4 := blk_frozen BK133.out 4
                 have p34 : 0 ≤ (0 : Int) := (by omega)
                 have q34 : 0 < t134.size := (by have : (0 : Int) < (t134.size : Int) := of_decide_eq_true (by first | (with_reducible assumption) | assumption); omega)
                 have hx34 : ∀ h : 0 < t134.size, ((t134[0]'h).toNat : Int) = bt t134 0 := bt_at t134 0
                 clear p34
                 have qi34 : (0 < (t134.size : Int)) = True := eq_true (of_decide_eq_true (by first | (with_reducible assumption) | assumption))
                 replace q34 := eq_true q34
                 have p54 : 0 ≤ (1 : Int) := (by omega)
                 have q54 : 1 < t134.size := (by have : (1 : Int) < (t134.size : Int) := of_decide_eq_true (by first | (with_reducible assumption) | assumption); omega)
                 have hx54 : ∀ h : 1 < t134.size, ((t134[1]'h).toNat : Int) = bt t134 1 := bt_at t134 1
                 clear p54
                 have qi54 : (1 < (t134.size : Int)) = True := eq_true (of_decide_eq_true (by first | (with_reducible assumption) | assumption))
                 replace q54 := eq_true q54
                 have hcz62_0 : wc.cell? ⟨gb132, 0, none⟩ = some (.int .i64 0) := (blk_cell BK132.out 0).trans rfl
                 have hcz62_1 : wc.cell? ⟨gb132, 1, none⟩ = some (.int .i64 0) := (blk_cell BK132.out 1).trans rfl
                 have hcz62_2 : wc.cell? ⟨gb132, 2, none⟩ = some (.int .i64 0) := (blk_cell BK132.out 2).trans rfl
                 have hcz62_3 : wc.cell? ⟨gb132, 3, none⟩ = some (.int .i64 0) := (blk_cell BK132.out 3).trans rfl
                 have hcz62_4 : wc.cell? ⟨gb132, 4, none⟩ = some (.int .i64 0) := (blk_cell BK132.out 4).trans rfl
                 have hfz62_0 := blk_frozen BK132.out 0
                 have hfz62_1 := blk_frozen BK132.out 1
                 have hfz62_2 := blk_frozen BK132.out 2
                 have hfz62_3 := blk_frozen BK132.out 3
                 have hfz62_4 := blk_frozen BK132.out 4
                 go_wp2
                 refine bodyPost_ret (results_ct rfl _ _ gb132 52 #[.int .i64 0, .int .i64 0, .int .i64 0, .int .i64 0, .int .i64 0] (0, 0) _ rfl (by (with_reducible repeat (first | refine blk_drewN ?_ _ | refine blk_drew ?_ | refine blk_alloc ?_ _)); refine blk_put (cs := #[.int .i64 0, .int .i64 0, .int .i64 0, .int .i64 0, .int .i64 0]) ?_ 4 _ rfl; (with_reducible repeat (first | refine blk_drewN ?_ _ | refine blk_drew ?_ | refine blk_alloc ?_ _)); refine blk_put (cs := #[.int .i64 0, .int .i64 0, .int .i64 0, .int .i64 0, .int .i64 0]) ?_ 3 _ rfl; (with_reducible repeat (first | refine blk_drewN ?_ _ | refine blk_drew ?_ | refine blk_alloc ?_ _)); refine blk_put (cs := #[.int .i64 0, .int .i64 0, .int .i64 0, .int .i64 0, .int .i64 0]) ?_ 2 _ rfl; (with_reducible repeat (first | refine blk_drewN ?_ _ | refine blk_drew ?_ | refine blk_alloc ?_ _)); refine blk_put (cs := #[.int .i64 0, .int .i64 0, .int .i64 0, .int .i64 0, .int .i64 0]) ?_ 1 _ rfl; (with_reducible repeat (first | refine blk_drewN ?_ _ | refine blk_drew ?_ | refine blk_alloc ?_ _)); refine blk_put (cs := #[.int .i64 0, .int .i64 0, .int .i64 0, .int .i64 0, .int .i64 0]) ?_ 0 _ rfl; (with_reducible repeat (first | refine blk_drewN ?_ _ | refine blk_drew ?_ | refine blk_alloc ?_ _)); refine blk_far ?_ NB132_133.out _; (with_reducible repeat (first | refine blk_drewN ?_ _ | refine blk_drew ?_ | refine blk_alloc ?_ _)); exact BK132.out) Try.underlying52 rfl (by kernel_rfl)) rfl ?_
                 exact ⟨by first | rfl | (simp [errW_none, errW_some] <;> rfl) | (simp [*, errW_none, errW_some] <;> rfl), by repeat (first | (with_reducible first | exact HB.out | apply below_alloc | apply pw_below_drewN | apply below_drew1 | refine below_set ?_ GE132.out | refine below_set ?_ GE133.out) | exact HB.out)⟩
               ·
                rw [if_neg c55] at H
                have c55b0 : ((bt t134 1) == 45) = false := beq_eq_false_iff_ne.mpr c55
                have c55b1 : ((bt t134 1) != 45) = true := bne_iff_ne.mpr c55
                simp only [Option.some.injEq, Prod.mk.injEq] at H
                obtain ⟨rfl, rfl, rfl, rfl, rfl, rfl⟩ := H
                have hnb63 := NB133_132.out
                have hnc63 := NB132_133.out
                have hcz64_0 : wc.cell? ⟨gb133, 0, none⟩ = some (.int .i64 (wrap64 (Int.tdiv (wrap64 (a0)) 67108864))) := (blk_cell BK133.out 0).trans rfl
                have hcz64_1 : wc.cell? ⟨gb133, 1, none⟩ = some (.int .i64 (Int.tmod (wrap64 (Int.tdiv (wrap64 (a0)) 2097152)) 32)) := (blk_cell BK133.out 1).trans rfl
                have hcz64_2 : wc.cell? ⟨gb133, 2, none⟩ = some (.int .i64 (Int.tmod (wrap64 (Int.tdiv (wrap64 (a0)) 65536)) 32)) := (blk_cell BK133.out 2).trans rfl
                have hcz64_3 : wc.cell? ⟨gb133, 3, none⟩ = some (.int .i64 x134003_10) := (blk_cell BK133.out 3).trans rfl
                have hcz64_4 : wc.cell? ⟨gb133, 4, none⟩ = some (.int .i64 x134004_20) := (blk_cell BK133.out 4).trans rfl
                have hfz64_0 := blk_frozen BK133.out 0
                have hfz64_1 := blk_frozen BK133.out 1
                have hfz64_2 := blk_frozen BK133.out 2
                have hfz64_3 := blk_frozen BK133.out 3
                have hfz64_4 := blk_frozen BK133.out 4
                have p34 : 0 ≤ (0 : Int) := (by omega)
                have q34 : 0 < t134.size := (by have : (0 : Int) < (t134.size : Int) := of_decide_eq_true (by first | (with_reducible assumption) | assumption); omega)
                have hx34 : ∀ h : 0 < t134.size, ((t134[0]'h).toNat : Int) = bt t134 0 := bt_at t134 0
                clear p34
                have qi34 : (0 < (t134.size : Int)) = True := eq_true (of_decide_eq_true (by first | (with_reducible assumption) | assumption))
                replace q34 := eq_true q34
                have p54 : 0 ≤ (1 : Int) := (by omega)
                have q54 : 1 < t134.size := (by have : (1 : Int) < (t134.size : Int) := of_decide_eq_true (by first | (with_reducible assumption) | assumption); omega)
                have hx54 : ∀ h : 1 < t134.size, ((t134[1]'h).toNat : Int) = bt t134 1 := bt_at t134 1
                clear p54
                have qi54 : (1 < (t134.size : Int)) = True := eq_true (of_decide_eq_true (by first | (with_reducible assumption) | assumption))
                replace q54 := eq_true q54
                have hcz65_0 : wc.cell? ⟨gb132, 0, none⟩ = some (.int .i64 0) := (blk_cell BK132.out 0).trans rfl
                have hcz65_1 : wc.cell? ⟨gb132, 1, none⟩ = some (.int .i64 0) := (blk_cell BK132.out 1).trans rfl
                have hcz65_2 : wc.cell? ⟨gb132, 2, none⟩ = some (.int .i64 0) := (blk_cell BK132.out 2).trans rfl
                have hcz65_3 : wc.cell? ⟨gb132, 3, none⟩ = some (.int .i64 0) := (blk_cell BK132.out 3).trans rfl
                have hcz65_4 : wc.cell? ⟨gb132, 4, none⟩ = some (.int .i64 0) := (blk_cell BK132.out 4).trans rfl
                have hfz65_0 := blk_frozen BK132.out 0
                have hfz65_1 := blk_frozen BK132.out 1
                have hfz65_2 := blk_frozen BK132.out 2
                have hfz65_3 := blk_frozen BK132.out 3
                have hfz65_4 := blk_frozen BK132.out 4
                go_wp2
                refine bodyPost_ret (results_ct rfl _ _ gb132 52 #[.int .i64 (wrap64 (Int.tdiv (wrap64 (a0)) 67108864)), .int .i64 (Int.tmod (wrap64 (Int.tdiv (wrap64 (a0)) 2097152)) 32), .int .i64 (Int.tmod (wrap64 (Int.tdiv (wrap64 (a0)) 65536)) 32), .int .i64 x134003_10, .int .i64 (wrap64 (x134004_20 - 65536))] (0, 0) _ rfl (by (with_reducible repeat (first | refine blk_drewN ?_ _ | refine blk_drew ?_ | refine blk_alloc ?_ _)); refine blk_put (cs := #[.int .i64 (wrap64 (Int.tdiv (wrap64 (a0)) 67108864)), .int .i64 (Int.tmod (wrap64 (Int.tdiv (wrap64 (a0)) 2097152)) 32), .int .i64 (Int.tmod (wrap64 (Int.tdiv (wrap64 (a0)) 65536)) 32), .int .i64 x134003_10, .int .i64 0]) ?_ 4 _ rfl; (with_reducible repeat (first | refine blk_drewN ?_ _ | refine blk_drew ?_ | refine blk_alloc ?_ _)); refine blk_put (cs := #[.int .i64 (wrap64 (Int.tdiv (wrap64 (a0)) 67108864)), .int .i64 (Int.tmod (wrap64 (Int.tdiv (wrap64 (a0)) 2097152)) 32), .int .i64 (Int.tmod (wrap64 (Int.tdiv (wrap64 (a0)) 65536)) 32), .int .i64 0, .int .i64 0]) ?_ 3 _ rfl; (with_reducible repeat (first | refine blk_drewN ?_ _ | refine blk_drew ?_ | refine blk_alloc ?_ _)); refine blk_put (cs := #[.int .i64 (wrap64 (Int.tdiv (wrap64 (a0)) 67108864)), .int .i64 (Int.tmod (wrap64 (Int.tdiv (wrap64 (a0)) 2097152)) 32), .int .i64 0, .int .i64 0, .int .i64 0]) ?_ 2 _ rfl; (with_reducible repeat (first | refine blk_drewN ?_ _ | refine blk_drew ?_ | refine blk_alloc ?_ _)); refine blk_put (cs := #[.int .i64 (wrap64 (Int.tdiv (wrap64 (a0)) 67108864)), .int .i64 0, .int .i64 0, .int .i64 0, .int .i64 0]) ?_ 1 _ rfl; (with_reducible repeat (first | refine blk_drewN ?_ _ | refine blk_drew ?_ | refine blk_alloc ?_ _)); refine blk_put (cs := #[.int .i64 0, .int .i64 0, .int .i64 0, .int .i64 0, .int .i64 0]) ?_ 0 _ rfl; (with_reducible repeat (first | refine blk_drewN ?_ _ | refine blk_drew ?_ | refine blk_alloc ?_ _)); refine blk_far ?_ NB132_133.out _; (with_reducible repeat (first | refine blk_drewN ?_ _ | refine blk_drew ?_ | refine blk_alloc ?_ _)); exact BK132.out) Try.underlying52 rfl (by kernel_rfl)) rfl ?_
                exact ⟨by first | rfl | (simp [errW_none, errW_some] <;> rfl) | (simp [*, errW_none, errW_some] <;> rfl), by repeat (first | (with_reducible first | exact HB.out | apply below_alloc | apply pw_below_drewN | apply below_drew1 | refine below_set ?_ GE132.out | refine below_set ?_ GE133.out) | exact HB.out)⟩
              ·
               rw [if_neg c53] at H
               exact absurd H (by simp)
            ·
             rw [if_neg c33] at H
             exact absurd H (by simp)
           ·
            rw [if_neg c32] at H
            have c32b0 : (x7_20 == 0) = false := beq_eq_false_iff_ne.mpr c32
            have c32b1 : (x7_20 != 0) = true := bne_iff_ne.mpr c32
            simp only [Option.some.injEq, Prod.mk.injEq] at H
            obtain ⟨rfl, rfl, rfl, rfl, rfl, rfl⟩ := H
            have hnb66 := NB133_132.out
            have hnc66 := NB132_133.out
            have hcz67_0 : wc.cell? ⟨gb133, 0, none⟩ = some (.int .i64 (wrap64 (Int.tdiv (wrap64 (a0)) 67108864))) := (blk_cell BK133.out 0).trans rfl
            have hcz67_1 : wc.cell? ⟨gb133, 1, none⟩ = some (.int .i64 (Int.tmod (wrap64 (Int.tdiv (wrap64 (a0)) 2097152)) 32)) := (blk_cell BK133.out 1).trans rfl
            have hcz67_2 : wc.cell? ⟨gb133, 2, none⟩ = some (.int .i64 (Int.tmod (wrap64 (Int.tdiv (wrap64 (a0)) 65536)) 32)) := (blk_cell BK133.out 2).trans rfl
            have hcz67_3 : wc.cell? ⟨gb133, 3, none⟩ = some (.int .i64 x134003_10) := (blk_cell BK133.out 3).trans rfl
            have hcz67_4 : wc.cell? ⟨gb133, 4, none⟩ = some (.int .i64 x134004_20) := (blk_cell BK133.out 4).trans rfl
            have hfz67_0 := blk_frozen BK133.out 0
            have hfz67_1 := blk_frozen BK133.out 1
            have hfz67_2 := blk_frozen BK133.out 2
            have hfz67_3 := blk_frozen BK133.out 3
            have hfz67_4 := blk_frozen BK133.out 4
            have hcz68_0 : wc.cell? ⟨gb132, 0, none⟩ = some (.int .i64 0) := (blk_cell BK132.out 0).trans rfl
            have hcz68_1 : wc.cell? ⟨gb132, 1, none⟩ = some (.int .i64 0) := (blk_cell BK132.out 1).trans rfl
            have hcz68_2 : wc.cell? ⟨gb132, 2, none⟩ = some (.int .i64 0) := (blk_cell BK132.out 2).trans rfl
            have hcz68_3 : wc.cell? ⟨gb132, 3, none⟩ = some (.int .i64 0) := (blk_cell BK132.out 3).trans rfl
            have hcz68_4 : wc.cell? ⟨gb132, 4, none⟩ = some (.int .i64 0) := (blk_cell BK132.out 4).trans rfl
            have hfz68_0 := blk_frozen BK132.out 0
            have hfz68_1 := blk_frozen BK132.out 1
            have hfz68_2 := blk_frozen BK132.out 2
            have hfz68_3 := blk_frozen BK132.out 3
            have hfz68_4 := blk_frozen BK132.out 4
            go_wp2
            refine bodyPost_ret (results_ct rfl _ _ gb132 52 #[.int .i64 0, .int .i64 0, .int .i64 0, .int .i64 0, .int .i64 0] (0, 0) _ rfl (by (with_reducible repeat (first | refine blk_drewN ?_ _ | refine blk_drew ?_ | refine blk_alloc ?_ _)); refine blk_put (cs := #[.int .i64 0, .int .i64 0, .int .i64 0, .int .i64 0, .int .i64 0]) ?_ 4 _ rfl; (with_reducible repeat (first | refine blk_drewN ?_ _ | refine blk_drew ?_ | refine blk_alloc ?_ _)); refine blk_put (cs := #[.int .i64 0, .int .i64 0, .int .i64 0, .int .i64 0, .int .i64 0]) ?_ 3 _ rfl; (with_reducible repeat (first | refine blk_drewN ?_ _ | refine blk_drew ?_ | refine blk_alloc ?_ _)); refine blk_put (cs := #[.int .i64 0, .int .i64 0, .int .i64 0, .int .i64 0, .int .i64 0]) ?_ 2 _ rfl; (with_reducible repeat (first | refine blk_drewN ?_ _ | refine blk_drew ?_ | refine blk_alloc ?_ _)); refine blk_put (cs := #[.int .i64 0, .int .i64 0, .int .i64 0, .int .i64 0, .int .i64 0]) ?_ 1 _ rfl; (with_reducible repeat (first | refine blk_drewN ?_ _ | refine blk_drew ?_ | refine blk_alloc ?_ _)); refine blk_put (cs := #[.int .i64 0, .int .i64 0, .int .i64 0, .int .i64 0, .int .i64 0]) ?_ 0 _ rfl; (with_reducible repeat (first | refine blk_drewN ?_ _ | refine blk_drew ?_ | refine blk_alloc ?_ _)); refine blk_far ?_ NB132_133.out _; (with_reducible repeat (first | refine blk_drewN ?_ _ | refine blk_drew ?_ | refine blk_alloc ?_ _)); exact BK132.out) Try.underlying52 rfl (by kernel_rfl)) rfl ?_
            exact ⟨by first | rfl | (simp [errW_none, errW_some] <;> rfl) | (simp [*, errW_none, errW_some] <;> rfl), by repeat (first | (with_reducible first | exact HB.out | apply below_alloc | apply pw_below_drewN | apply below_drew1 | refine below_set ?_ GE132.out | refine below_set ?_ GE133.out) | exact HB.out)⟩
          ·
           replace c31 := Bool.eq_false_iff.mpr c31
           subst c31
           have H1 : (if x7_20 = 0 then (if 0 < (t134.size : Int) then (if (bt t134 0) = 45 then (if (Int.tmod (wrap64 (Int.tdiv (wrap64 (a0)) 2097152)) 32) = 0 then (if 1 < (t134.size : Int) then (if (bt t134 1) = 45 then (if (Int.tmod (wrap64 (Int.tdiv (wrap64 (a0)) 65536)) 32) = 0 then (some ((wrap64 (Int.tdiv (wrap64 (a0)) 67108864)), (Int.tmod (wrap64 (Int.tdiv (wrap64 (a0)) 2097152)) 32), (Int.tmod (wrap64 (Int.tdiv (wrap64 (a0)) 65536)) 32), x134003_10, x134004_20, 0)) else (some (0, 0, 0, 0, 0, 3))) else (some ((wrap64 (Int.tdiv (wrap64 (a0)) 67108864)), (Int.tmod (wrap64 (Int.tdiv (wrap64 (a0)) 2097152)) 32), (Int.tmod (wrap64 (Int.tdiv (wrap64 (a0)) 65536)) 32), x134003_10, x134004_20, 0))) else (none)) else (some (0, 0, 0, 0, 0, 3))) else (if 1 < (t134.size : Int) then (if (bt t134 1) = 45 then (if (Int.tmod (wrap64 (Int.tdiv (wrap64 (a0)) 65536)) 32) = 0 then (some ((wrap64 (Int.tdiv (wrap64 (a0)) 67108864)), (Int.tmod (wrap64 (Int.tdiv (wrap64 (a0)) 2097152)) 32), (Int.tmod (wrap64 (Int.tdiv (wrap64 (a0)) 65536)) 32), x134003_10, x134004_20, 0)) else (some (0, 0, 0, 0, 0, 3))) else (some ((wrap64 (Int.tdiv (wrap64 (a0)) 67108864)), (Int.tmod (wrap64 (Int.tdiv (wrap64 (a0)) 2097152)) 32), (Int.tmod (wrap64 (Int.tdiv (wrap64 (a0)) 65536)) 32), x134003_10, x134004_20, 0))) else (none))) else (none)) else (some (0, 0, 0, 0, 0, 3))) = some (r1, r2, r3, r4, r5, r6) := by rw [if_neg (show ¬ (false = true) by decide)] at H; exact H
           clear H
           have H := H1
           clear H1
           by_cases c69 : x7_20 = 0
           ·
            rw [if_pos c69] at H
            have c69b0 : (x7_20 == 0) = true := beq_iff_eq.mpr c69
            have c69b1 : (x7_20 != 0) = false := bne_eq_false_iff_eq.mpr c69
            clear c69
            by_cases c70 : 0 < (t134.size : Int)
            ·
             rw [if_pos c70] at H
             have c70b0 : decide (0 < (t134.size : Int)) = true := decide_eq_true c70
             have c70b1 : decide (0 < t134.size) = true := decide_eq_true (by omega)
             clear c70
             by_cases c72 : (bt t134 0) = 45
             ·
              rw [if_pos c72] at H
              have c72b0 : ((bt t134 0) == 45) = true := beq_iff_eq.mpr c72
              have c72b1 : ((bt t134 0) != 45) = false := bne_eq_false_iff_eq.mpr c72
              clear c72
              by_cases c73 : (Int.tmod (wrap64 (Int.tdiv (wrap64 (a0)) 2097152)) 32) = 0
              ·
               rw [if_pos c73] at H
               have c73b0 : ((Int.tmod (wrap64 (Int.tdiv (wrap64 (a0)) 2097152)) 32) == 0) = true := beq_iff_eq.mpr c73
               have c73b1 : ((Int.tmod (wrap64 (Int.tdiv (wrap64 (a0)) 2097152)) 32) != 0) = false := bne_eq_false_iff_eq.mpr c73
               clear c73
               by_cases c74 : 1 < (t134.size : Int)
               ·
                rw [if_pos c74] at H
                have c74b0 : decide (1 < (t134.size : Int)) = true := decide_eq_true c74
                have c74b1 : decide (1 < t134.size) = true := decide_eq_true (by omega)
                clear c74
                by_cases c76 : (bt t134 1) = 45
                ·
                 rw [if_pos c76] at H
                 have c76b0 : ((bt t134 1) == 45) = true := beq_iff_eq.mpr c76
                 have c76b1 : ((bt t134 1) != 45) = false := bne_eq_false_iff_eq.mpr c76
                 clear c76
                 by_cases c77 : (Int.tmod (wrap64 (Int.tdiv (wrap64 (a0)) 65536)) 32) = 0
                 ·
                  rw [if_pos c77] at H
                  have c77b0 : ((Int.tmod (wrap64 (Int.tdiv (wrap64 (a0)) 65536)) 32) == 0) = true := beq_iff_eq.mpr c77
                  have c77b1 : ((Int.tmod (wrap64 (Int.tdiv (wrap64 (a0)) 65536)) 32) != 0) = false := bne_eq_false_iff_eq.mpr c77
                  clear c77
                  simp only [Option.some.injEq, Prod.mk.injEq] at H
                  obtain ⟨rfl, rfl, rfl, rfl, rfl, rfl⟩ := H
                  have p71 : 0 ≤ (0 : Int) := (by omega)
                  have q71 : 0 < t134.size := (by have : (0 : Int) < (t134.size : Int) := of_decide_eq_true (by first | (with_reducible assumption) | assumption); omega)
                  have hx71 : ∀ h : 0 < t134.size, ((t134[0]'h).toNat : Int) = bt t134 0 := bt_at t134 0
                  clear p71
                  have qi71 : (0 < (t134.size : Int)) = True := eq_true (of_decide_eq_true (by first | (with_reducible assumption) | assumption))
                  replace q71 := eq_true q71
                  have hnb78 := NB133_132.out
                  have hnc78 := NB132_133.out
                  have hcz79_0 : wc.cell? ⟨gb133, 0, none⟩ = some (.int .i64 (wrap64 (Int.tdiv (wrap64 (a0)) 67108864))) := (blk_cell BK133.out 0).trans rfl
                  have hcz79_1 : wc.cell? ⟨gb133, 1, none⟩ = some (.int .i64 (Int.tmod (wrap64 (Int.tdiv (wrap64 (a0)) 2097152)) 32)) := (blk_cell BK133.out 1).trans rfl
                  have hcz79_2 : wc.cell? ⟨gb133, 2, none⟩ = some (.int .i64 (Int.tmod (wrap64 (Int.tdiv (wrap64 (a0)) 65536)) 32)) := (blk_cell BK133.out 2).trans rfl
                  have hcz79_3 : wc.cell? ⟨gb133, 3, none⟩ = some (.int .i64 x134003_10) := (blk_cell BK133.out 3).trans rfl
                  have hcz79_4 : wc.cell? ⟨gb133, 4, none⟩ = some (.int .i64 x134004_20) := (blk_cell BK133.out 4).trans rfl
                  have hfz79_0 := blk_frozen BK133.out 0
                  have hfz79_1 := blk_frozen BK133.out 1
                  have hfz79_2 := blk_frozen BK133.out 2
                  have hfz79_3 := blk_frozen BK133.out 3
                  have hfz79_4 := blk_frozen BK133.out 4
                  have p75 : 0 ≤ (1 : Int) := (by omega)
                  have q75 : 1 < t134.size := (by have : (1 : Int) < (t134.size : Int) := of_decide_eq_true (by first | (with_reducible assumption) | assumption); omega)
                  have hx75 : ∀ h : 1 < t134.size, ((t134[1]'h).toNat : Int) = bt t134 1 := bt_at t134 1
                  clear p75
                  have qi75 : (1 < (t134.size : Int)) = True := eq_true (of_decide_eq_true (by first | (with_reducible assumption) | assumption))
                  replace q75 := eq_true q75
                  have hcz80_0 : wc.cell? ⟨gb132, 0, none⟩ = some (.int .i64 0) := (blk_cell BK132.out 0).trans rfl
                  have hcz80_1 : wc.cell? ⟨gb132, 1, none⟩ = some (.int .i64 0) := (blk_cell BK132.out 1).trans rfl
                  have hcz80_2 : wc.cell? ⟨gb132, 2, none⟩ = some (.int .i64 0) := (blk_cell BK132.out 2).trans rfl
                  have hcz80_3 : wc.cell? ⟨gb132, 3, none⟩ = some (.int .i64 0) := (blk_cell BK132.out 3).trans rfl
                  have hcz80_4 : wc.cell? ⟨gb132, 4, none⟩ = some (.int .i64 0) := (blk_cell BK132.out 4).trans rfl
                  have hfz80_0 := blk_frozen BK132.out 0
                  have hfz80_1 := blk_frozen BK132.out 1
                  have hfz80_2 := blk_frozen BK132.out 2
                  have hfz80_3 := blk_frozen BK132.out 3
                  have hfz80_4 := blk_frozen BK132.out 4
                  go_wp2
                  refine bodyPost_ret (results_ct rfl _ _ gb132 52 #[.int .i64 (wrap64 (Int.tdiv (wrap64 (a0)) 67108864)), .int .i64 (Int.tmod (wrap64 (Int.tdiv (wrap64 (a0)) 2097152)) 32), .int .i64 (Int.tmod (wrap64 (Int.tdiv (wrap64 (a0)) 65536)) 32), .int .i64 x134003_10, .int .i64 x134004_20] (0, 0) _ rfl (by (with_reducible repeat (first | refine blk_drewN ?_ _ | refine blk_drew ?_ | refine blk_alloc ?_ _)); refine blk_put (cs := #[.int .i64 (wrap64 (Int.tdiv (wrap64 (a0)) 67108864)), .int .i64 (Int.tmod (wrap64 (Int.tdiv (wrap64 (a0)) 2097152)) 32), .int .i64 (Int.tmod (wrap64 (Int.tdiv (wrap64 (a0)) 65536)) 32), .int .i64 x134003_10, .int .i64 0]) ?_ 4 _ rfl; (with_reducible repeat (first | refine blk_drewN ?_ _ | refine blk_drew ?_ | refine blk_alloc ?_ _)); refine blk_put (cs := #[.int .i64 (wrap64 (Int.tdiv (wrap64 (a0)) 67108864)), .int .i64 (Int.tmod (wrap64 (Int.tdiv (wrap64 (a0)) 2097152)) 32), .int .i64 (Int.tmod (wrap64 (Int.tdiv (wrap64 (a0)) 65536)) 32), .int .i64 0, .int .i64 0]) ?_ 3 _ rfl; (with_reducible repeat (first | refine blk_drewN ?_ _ | refine blk_drew ?_ | refine blk_alloc ?_ _)); refine blk_put (cs := #[.int .i64 (wrap64 (Int.tdiv (wrap64 (a0)) 67108864)), .int .i64 (Int.tmod (wrap64 (Int.tdiv (wrap64 (a0)) 2097152)) 32), .int .i64 0, .int .i64 0, .int .i64 0]) ?_ 2 _ rfl; (with_reducible repeat (first | refine blk_drewN ?_ _ | refine blk_drew ?_ | refine blk_alloc ?_ _)); refine blk_put (cs := #[.int .i64 (wrap64 (Int.tdiv (wrap64 (a0)) 67108864)), .int .i64 0, .int .i64 0, .int .i64 0, .int .i64 0]) ?_ 1 _ rfl; (with_reducible repeat (first | refine blk_drewN ?_ _ | refine blk_drew ?_ | refine blk_alloc ?_ _)); refine blk_put (cs := #[.int .i64 0, .int .i64 0, .int .i64 0, .int .i64 0, .int .i64 0]) ?_ 0 _ rfl; (with_reducible repeat (first | refine blk_drewN ?_ _ | refine blk_drew ?_ | refine blk_alloc ?_ _)); exact BK132.out) Try.underlying52 rfl (by kernel_rfl)) rfl ?_
                  exact ⟨by first | rfl | (simp [errW_none, errW_some] <;> rfl) | (simp [*, errW_none, errW_some] <;> rfl), by repeat (first | (with_reducible first | exact HB.out | apply below_alloc | apply pw_below_drewN | apply below_drew1 | refine below_set ?_ GE132.out | refine below_set ?_ GE133.out) | exact HB.out)⟩
                 ·
                  rw [if_neg c77] at H
                  have c77b0 : ((Int.tmod (wrap64 (Int.tdiv (wrap64 (a0)) 65536)) 32) == 0) = false := beq_eq_false_iff_ne.mpr c77
                  have c77b1 : ((Int.tmod (wrap64 (Int.tdiv (wrap64 (a0)) 65536)) 32) != 0) = true := bne_iff_ne.mpr c77
                  simp only [Option.some.injEq, Prod.mk.injEq] at H
                  obtain ⟨rfl, rfl, rfl, rfl, rfl, rfl⟩ := H
                  have p71 : 0 ≤ (0 : Int) := (by omega)
                  have q71 : 0 < t134.size := (by have : (0 : Int) < (t134.size : Int) := of_decide_eq_true (by first | (with_reducible assumption) | assumption); omega)
                  have hx71 : ∀ h : 0 < t134.size, ((t134[0]'h).toNat : Int) = bt t134 0 := bt_at t134 0
                  clear p71
                  have qi71 : (0 < (t134.size : Int)) = True := eq_true (of_decide_eq_true (by first | (with_reducible assumption) | assumption))
                  replace q71 := eq_true q71
                  have hnb81 := NB133_132.out
                  have hnc81 := NB132_133.out
                  have hcz82_0 : wc.cell? ⟨gb133, 0, none⟩ = some (.int .i64 (wrap64 (Int.tdiv (wrap64 (a0)) 67108864))) := (blk_cell BK133.out 0).trans rfl
                  have hcz82_1 : wc.cell? ⟨gb133, 1, none⟩ = some (.int .i64 (Int.tmod (wrap64 (Int.tdiv (wrap64 (a0)) 2097152)) 32)) := (blk_cell BK133.out 1).trans rfl
                  have hcz82_2 : wc.cell? ⟨gb133, 2, none⟩ = some (.int .i64 (Int.tmod (wrap64 (Int.tdiv (wrap64 (a0)) 65536)) 32)) := (blk_cell BK133.out 2).trans rfl
                  have hcz82_3 : wc.cell? ⟨gb133, 3, none⟩ = some (.int .i64 x134003_10) := (blk_cell BK133.out 3).trans rfl
                  have hcz82_4 : wc.cell? ⟨gb133, 4, none⟩ = some (.int .i64 x134004_20) := (blk_cell BK133.out 4).trans rfl
                  have hfz82_0 := blk_frozen BK133.out 0
                  have hfz82_1 := blk_frozen BK133.out 1
                  have hfz82_2 := blk_frozen BK133.out 2
                  have hfz82_3 := blk_frozen BK133.out 3
                  have hfz82_4 := blk_frozen BK133.out 4
                  have p75 : 0 ≤ (1 : Int) := (by omega)
                  have q75 : 1 < t134.size := (by have : (1 : Int) < (t134.size : Int) := of_decide_eq_true (by first | (with_reducible assumption) | assumption); omega)
                  have hx75 : ∀ h : 1 < t134.size, ((t134[1]'h).toNat : Int) = bt t134 1 := bt_at t134 1
                  clear p75
                  have qi75 : (1 < (t134.size : Int)) = True := eq_true (of_decide_eq_true (by first | (with_reducible assumption) | assumption))
                  replace q75 := eq_true q75
                  have hcz83_0 : wc.cell? ⟨gb132, 0, none⟩ = some (.int .i64 0) := (blk_cell BK132.out 0).trans rfl
                  have hcz83_1 : wc.cell? ⟨gb132, 1, none⟩ = some (.int .i64 0) := (blk_cell BK132.out 1).trans rfl
                  have hcz83_2 : wc.cell? ⟨gb132, 2, none⟩ = some (.int .i64 0) := (blk_cell BK132.out 2).trans rfl
                  have hcz83_3 : wc.cell? ⟨gb132, 3, none⟩ = some (.int .i64 0) := (blk_cell BK132.out 3).trans rfl
                  have hcz83_4 : wc.cell? ⟨gb132, 4, none⟩ = some (.int .i64 0) := (blk_cell BK132.out 4).trans rfl
                  have hfz83_0 := blk_frozen BK132.out 0
                  have hfz83_1 := blk_frozen BK132.out 1
                  have hfz83_2 := blk_frozen BK132.out 2
                  have hfz83_3 := blk_frozen BK132.out 3
                  have hfz83_4 := blk_frozen BK132.out 4
                  go_wp2
                  refine bodyPost_ret (results_ct rfl _ _ gb132 52 #[.int .i64 0, .int .i64 0, .int .i64 0, .int .i64 0, .int .i64 0] (0, 0) _ rfl (by (with_reducible repeat (first | refine blk_drewN ?_ _ | refine blk_drew ?_ | refine blk_alloc ?_ _)); refine blk_put (cs := #[.int .i64 0, .int .i64 0, .int .i64 0, .int .i64 0, .int .i64 0]) ?_ 4 _ rfl; (with_reducible repeat (first | refine blk_drewN ?_ _ | refine blk_drew ?_ | refine blk_alloc ?_ _)); refine blk_put (cs := #[.int .i64 0, .int .i64 0, .int .i64 0, .int .i64 0, .int .i64 0]) ?_ 3 _ rfl; (with_reducible repeat (first | refine blk_drewN ?_ _ | refine blk_drew ?_ | refine blk_alloc ?_ _)); refine blk_put (cs := #[.int .i64 0, .int .i64 0, .int .i64 0, .int .i64 0, .int .i64 0]) ?_ 2 _ rfl; (with_reducible repeat (first | refine blk_drewN ?_ _ | refine blk_drew ?_ | refine blk_alloc ?_ _)); refine blk_put (cs := #[.int .i64 0, .int .i64 0, .int .i64 0, .int .i64 0, .int .i64 0]) ?_ 1 _ rfl; (with_reducible repeat (first | refine blk_drewN ?_ _ | refine blk_drew ?_ | refine blk_alloc ?_ _)); refine blk_put (cs := #[.int .i64 0, .int .i64 0, .int .i64 0, .int .i64 0, .int .i64 0]) ?_ 0 _ rfl; (with_reducible repeat (first | refine blk_drewN ?_ _ | refine blk_drew ?_ | refine blk_alloc ?_ _)); exact BK132.out) Try.underlying52 rfl (by kernel_rfl)) rfl ?_
                  exact ⟨by first | rfl | (simp [errW_none, errW_some] <;> rfl) | (simp [*, errW_none, errW_some] <;> rfl), by repeat (first | (with_reducible first | exact HB.out | apply below_alloc | apply pw_below_drewN | apply below_drew1 | refine below_set ?_ GE132.out | refine below_set ?_ GE133.out) | exact HB.out)⟩
                ·
                 rw [if_neg c76] at H
                 have c76b0 : ((bt t134 1) == 45) = false := beq_eq_false_iff_ne.mpr c76
                 have c76b1 : ((bt t134 1) != 45) = true := bne_iff_ne.mpr c76
                 simp only [Option.some.injEq, Prod.mk.injEq] at H
                 obtain ⟨rfl, rfl, rfl, rfl, rfl, rfl⟩ := H
                 have p71 : 0 ≤ (0 : Int) := (by omega)
                 have q71 : 0 < t134.size := (by have : (0 : Int) < (t134.size : Int) := of_decide_eq_true (by first | (with_reducible assumption) | assumption); omega)
                 have hx71 : ∀ h : 0 < t134.size, ((t134[0]'h).toNat : Int) = bt t134 0 := bt_at t134 0
                 clear p71
                 have qi71 : (0 < (t134.size : Int)) = True := eq_true (of_decide_eq_true (by first | (with_reducible assumption) | assumption))
                 replace q71 := eq_true q71
                 have hnb84 := NB133_132.out
                 have hnc84 := NB132_133.out
                 have hcz85_0 : wc.cell? ⟨gb133, 0, none⟩ = some (.int .i64 (wrap64 (Int.tdiv (wrap64 (a0)) 67108864))) := (blk_cell BK133.out 0).trans rfl
                 have hcz85_1 : wc.cell? ⟨gb133, 1, none⟩ = some (.int .i64 (Int.tmod (wrap64 (Int.tdiv (wrap64 (a0)) 2097152)) 32)) := (blk_cell BK133.out 1).trans rfl
                 have hcz85_2 : wc.cell? ⟨gb133, 2, none⟩ = some (.int .i64 (Int.tmod (wrap64 (Int.tdiv (wrap64 (a0)) 65536)) 32)) := (blk_cell BK133.out 2).trans rfl
                 have hcz85_3 : wc.cell? ⟨gb133, 3, none⟩ = some (.int .i64 x134003_10) := (blk_cell BK133.out 3).trans rfl
                 have hcz85_4 : wc.cell? ⟨gb133, 4, none⟩ = some (.int .i64 x134004_20) := (blk_cell BK133.out 4).trans rfl
                 have hfz85_0 := blk_frozen BK133.out 0
                 have hfz85_1 := blk_frozen BK133.out 1
                 have hfz85_2 := blk_frozen BK133.out 2
                 have hfz85_3 := blk_frozen BK133.out 3
                 have hfz85_4 := blk_frozen BK133.out 4
                 have p75 : 0 ≤ (1 : Int) := (by omega)
                 have q75 : 1 < t134.size := (by have : (1 : Int) < (t134.size : Int) := of_decide_eq_true (by first | (with_reducible assumption) | assumption); omega)
                 have hx75 : ∀ h : 1 < t134.size, ((t134[1]'h).toNat : Int) = bt t134 1 := bt_at t134 1
                 clear p75
                 have qi75 : (1 < (t134.size : Int)) = True := eq_true (of_decide_eq_true (by first | (with_reducible assumption) | assumption))
                 replace q75 := eq_true q75
                 have hcz86_0 : wc.cell? ⟨gb132, 0, none⟩ = some (.int .i64 0) := (blk_cell BK132.out 0).trans rfl
                 have hcz86_1 : wc.cell? ⟨gb132, 1, none⟩ = some (.int .i64 0) := (blk_cell BK132.out 1).trans rfl
                 have hcz86_2 : wc.cell? ⟨gb132, 2, none⟩ = some (.int .i64 0) := (blk_cell BK132.out 2).trans rfl
                 have hcz86_3 : wc.cell? ⟨gb132, 3, none⟩ = some (.int .i64 0) := (blk_cell BK132.out 3).trans rfl
                 have hcz86_4 : wc.cell? ⟨gb132, 4, none⟩ = some (.int .i64 0) := (blk_cell BK132.out 4).trans rfl
                 have hfz86_0 := blk_frozen BK132.out 0
                 have hfz86_1 := blk_frozen BK132.out 1
                 have hfz86_2 := blk_frozen BK132.out 2
                 have hfz86_3 := blk_frozen BK132.out 3
                 have hfz86_4 := blk_frozen BK132.out 4
                 go_wp2
                 refine bodyPost_ret (results_ct rfl _ _ gb132 52 #[.int .i64 (wrap64 (Int.tdiv (wrap64 (a0)) 67108864)), .int .i64 (Int.tmod (wrap64 (Int.tdiv (wrap64 (a0)) 2097152)) 32), .int .i64 (Int.tmod (wrap64 (Int.tdiv (wrap64 (a0)) 65536)) 32), .int .i64 x134003_10, .int .i64 x134004_20] (0, 0) _ rfl (by (with_reducible repeat (first | refine blk_drewN ?_ _ | refine blk_drew ?_ | refine blk_alloc ?_ _)); refine blk_put (cs := #[.int .i64 (wrap64 (Int.tdiv (wrap64 (a0)) 67108864)), .int .i64 (Int.tmod (wrap64 (Int.tdiv (wrap64 (a0)) 2097152)) 32), .int .i64 (Int.tmod (wrap64 (Int.tdiv (wrap64 (a0)) 65536)) 32), .int .i64 x134003_10, .int .i64 0]) ?_ 4 _ rfl; (with_reducible repeat (first | refine blk_drewN ?_ _ | refine blk_drew ?_ | refine blk_alloc ?_ _)); refine blk_put (cs := #[.int .i64 (wrap64 (Int.tdiv (wrap64 (a0)) 67108864)), .int .i64 (Int.tmod (wrap64 (Int.tdiv (wrap64 (a0)) 2097152)) 32), .int .i64 (Int.tmod (wrap64 (Int.tdiv (wrap64 (a0)) 65536)) 32), .int .i64 0, .int .i64 0]) ?_ 3 _ rfl; (with_reducible repeat (first | refine blk_drewN ?_ _ | refine blk_drew ?_ | refine blk_alloc ?_ _)); refine blk_put (cs := #[.int .i64 (wrap64 (Int.tdiv (wrap64 (a0)) 67108864)), .int .i64 (Int.tmod (wrap64 (Int.tdiv (wrap64 (a0)) 2097152)) 32), .int .i64 0, .int .i64 0, .int .i64 0]) ?_ 2 _ rfl; (with_reducible repeat (first | refine blk_drewN ?_ _ | refine blk_drew ?_ | refine blk_alloc ?_ _)); refine blk_put (cs := #[.int .i64 (wrap64 (Int.tdiv (wrap64 (a0)) 67108864)), .int .i64 0, .int .i64 0, .int .i64 0, .int .i64 0]) ?_ 1 _ rfl; (with_reducible repeat (first | refine blk_drewN ?_ _ | refine blk_drew ?_ | refine blk_alloc ?_ _)); refine blk_put (cs := #[.int .i64 0, .int .i64 0, .int .i64 0, .int .i64 0, .int .i64 0]) ?_ 0 _ rfl; (with_reducible repeat (first | refine blk_drewN ?_ _ | refine blk_drew ?_ | refine blk_alloc ?_ _)); exact BK132.out) Try.underlying52 rfl (by kernel_rfl)) rfl ?_
                 exact ⟨by first | rfl | (simp [errW_none, errW_some] <;> rfl) | (simp [*, errW_none, errW_some] <;> rfl), by repeat (first | (with_reducible first | exact HB.out | apply below_alloc | apply pw_below_drewN | apply below_drew1 | refine below_set ?_ GE132.out | refine below_set ?_ GE133.out) | exact HB.out)⟩
               ·
                rw [if_neg c74] at H
                exact absurd H (by simp)
              ·
               rw [if_neg c73] at H
               have c73b0 : ((Int.tmod (wrap64 (Int.tdiv (wrap64 (a0)) 2097152)) 32) == 0) = false := beq_eq_false_iff_ne.mpr c73
               have c73b1 : ((Int.tmod (wrap64 (Int.tdiv (wrap64 (a0)) 2097152)) 32) != 0) = true := bne_iff_ne.mpr c73
               simp only [Option.some.injEq, Prod.mk.injEq] at H
               obtain ⟨rfl, rfl, rfl, rfl, rfl, rfl⟩ := H
               have p71 : 0 ≤ (0 : Int) := (by omega)
               have q71 : 0 < t134.size := (by have : (0 : Int) < (t134.size : Int) := of_decide_eq_true (by first | (with_reducible assumption) | assumption); omega)
               have hx71 : ∀ h : 0 < t134.size, ((t134[0]'h).toNat : Int) = bt t134 0 := bt_at t134 0
               clear p71
               have qi71 : (0 < (t134.size : Int)) = True := eq_true (of_decide_eq_true (by first | (with_reducible assumption) | assumption))
               replace q71 := eq_true q71
               have hnb87 := NB133_132.out
               have hnc87 := NB132_133.out
               have hcz88_0 : wc.cell? ⟨gb133, 0, none⟩ = some (.int .i64 (wrap64 (Int.tdiv (wrap64 (a0)) 67108864))) := (blk_cell BK133.out 0).trans rfl
               have hcz88_1 : wc.cell? ⟨gb133, 1, none⟩ = some (.int .i64 (Int.tmod (wrap64 (Int.tdiv (wrap64 (a0)) 2097152)) 32)) := (blk_cell BK133.out 1).trans rfl
               have hcz88_2 : wc.cell? ⟨gb133, 2, none⟩ = some (.int .i64 (Int.tmod (wrap64 (Int.tdiv (wrap64 (a0)) 65536)) 32)) := (blk_cell BK133.out 2).trans rfl
               have hcz88_3 : wc.cell? ⟨gb133, 3, none⟩ = some (.int .i64 x134003_10) := (blk_cell BK133.out 3).trans rfl
               have hcz88_4 : wc.cell? ⟨gb133, 4, none⟩ = some (.int .i64 x134004_20) := (blk_cell BK133.out 4).trans rfl
               have hfz88_0 := blk_frozen BK133.out 0
               have hfz88_1 := blk_frozen BK133.out 1
               have hfz88_2 := blk_frozen BK133.out 2
               have hfz88_3 := blk_frozen BK133.out 3
               have hfz88_4 := blk_frozen BK133.out 4
               have hcz89_0 : wc.cell? ⟨gb132, 0, none⟩ = some (.int .i64 0) := (blk_cell BK132.out 0).trans rfl
               have hcz89_1 : wc.cell? ⟨gb132, 1, none⟩ = some (.int .i64 0) := (blk_cell BK132.out 1).trans rfl
               have hcz89_2 : wc.cell? ⟨gb132, 2, none⟩ = some (.int .i64 0) := (blk_cell BK132.out 2).trans rfl
               have hcz89_3 : wc.cell? ⟨gb132, 3, none⟩ = some (.int .i64 0) := (blk_cell BK132.out 3).trans rfl
               have hcz89_4 : wc.cell? ⟨gb132, 4, none⟩ = some (.int .i64 0) := (blk_cell BK132.out 4).trans rfl
               have hfz89_0 := blk_frozen BK132.out 0
               have hfz89_1 := blk_frozen BK132.out 1
               have hfz89_2 := blk_frozen BK132.out 2
               have hfz89_3 := blk_frozen BK132.out 3
               have hfz89_4 := blk_frozen BK132.out 4
               go_wp2
               refine bodyPost_ret (results_ct rfl _ _ gb132 52 #[.int .i64 0, .int .i64 0, .int .i64 0, .int .i64 0, .int .i64 0] (0, 0) _ rfl (by (with_reducible repeat (first | refine blk_drewN ?_ _ | refine blk_drew ?_ | refine blk_alloc ?_ _)); refine blk_put (cs := #[.int .i64 0, .int .i64 0, .int .i64 0, .int .i64 0, .int .i64 0]) ?_ 4 _ rfl; (with_reducible repeat (first | refine blk_drewN ?_ _ | refine blk_drew ?_ | refine blk_alloc ?_ _)); refine blk_put (cs := #[.int .i64 0, .int .i64 0, .int .i64 0, .int .i64 0, .int .i64 0]) ?_ 3 _ rfl; (with_reducible repeat (first | refine blk_drewN ?_ _ | refine blk_drew ?_ | refine blk_alloc ?_ _)); refine blk_put (cs := #[.int .i64 0, .int .i64 0, .int .i64 0, .int .i64 0, .int .i64 0]) ?_ 2 _ rfl; (with_reducible repeat (first | refine blk_drewN ?_ _ | refine blk_drew ?_ | refine blk_alloc ?_ _)); refine blk_put (cs := #[.int .i64 0, .int .i64 0, .int .i64 0, .int .i64 0, .int .i64 0]) ?_ 1 _ rfl; (with_reducible repeat (first | refine blk_drewN ?_ _ | refine blk_drew ?_ | refine blk_alloc ?_ _)); refine blk_put (cs := #[.int .i64 0, .int .i64 0, .int .i64 0, .int .i64 0, .int .i64 0]) ?_ 0 _ rfl; (with_reducible repeat (first | refine blk_drewN ?_ _ | refine blk_drew ?_ | refine blk_alloc ?_ _)); exact BK132.out) Try.underlying52 rfl (by kernel_rfl)) rfl ?_
               exact ⟨by first | rfl | (simp [errW_none, errW_some] <;> rfl) | (simp [*, errW_none, errW_some] <;> rfl), by repeat (first | (with_reducible first | exact HB.out | apply below_alloc | apply pw_below_drewN | apply below_drew1 | refine below_set ?_ GE132.out | refine below_set ?_ GE133.out) | exact HB.out)⟩
             ·
              rw [if_neg c72] at H
              have c72b0 : ((bt t134 0) == 45) = false := beq_eq_false_iff_ne.mpr c72
              have c72b1 : ((bt t134 0) != 45) = true := bne_iff_ne.mpr c72
              by_cases c90 : 1 < (t134.size : Int)
              ·
               rw [if_pos c90] at H
               have c90b0 : decide (1 < (t134.size : Int)) = true := decide_eq_true c90
               have c90b1 : decide (1 < t134.size) = true := decide_eq_true (by omega)
               clear c90
               by_cases c92 : (bt t134 1) = 45
               ·
                rw [if_pos c92] at H
                have c92b0 : ((bt t134 1) == 45) = true := beq_iff_eq.mpr c92
                have c92b1 : ((bt t134 1) != 45) = false := bne_eq_false_iff_eq.mpr c92
                clear c92
                by_cases c93 : (Int.tmod (wrap64 (Int.tdiv (wrap64 (a0)) 65536)) 32) = 0
                ·
                 rw [if_pos c93] at H
                 have c93b0 : ((Int.tmod (wrap64 (Int.tdiv (wrap64 (a0)) 65536)) 32) == 0) = true := beq_iff_eq.mpr c93
                 have c93b1 : ((Int.tmod (wrap64 (Int.tdiv (wrap64 (a0)) 65536)) 32) != 0) = false := bne_eq_false_iff_eq.mpr c93
                 clear c93
                 simp only [Option.some.injEq, Prod.mk.injEq] at H
                 obtain ⟨rfl, rfl, rfl, rfl, rfl, rfl⟩ := H
                 have p71 : 0 ≤ (0 : Int) := (by omega)
                 have q71 : 0 < t134.size := (by have : (0 : Int) < (t134.size : Int) := of_decide_eq_true (by first | (with_reducible assumption) | assumption); omega)
                 have hx71 : ∀ h : 0 < t134.size, ((t134[0]'h).toNat : Int) = bt t134 0 := bt_at t134 0
                 clear p71
                 have qi71 : (0 < (t134.size : Int)) = True := eq_true (of_decide_eq_true (by first | (with_reducible assumption) | assumption))
                 replace q71 := eq_true q71
                 have p91 : 0 ≤ (1 : Int) := (by omega)
                 have q91 : 1 < t134.size := (by have : (1 : Int) < (t134.size : Int) := of_decide_eq_true (by first | (with_reducible assumption) | assumption); omega)
                 have hx91 : ∀ h : 1 < t134.size, ((t134[1]'h).toNat : Int) = bt t134 1 := bt_at t134 1
                 clear p91
                 have qi91 : (1 < (t134.size : Int)) = True := eq_true (of_decide_eq_true (by first | (with_reducible assumption) | assumption))
                 replace q91 := eq_true q91
                 have hnb94 := NB133_132.out
                 have hnc94 := NB132_133.out
                 have hcz95_0 : wc.cell? ⟨gb133, 0, none⟩ = some (.int .i64 (wrap64 (Int.tdiv (wrap64 (a0)) 67108864))) := (blk_cell BK133.out 0).trans rfl
                 have hcz95_1 : wc.cell? ⟨gb133, 1, none⟩ = some (.int .i64 (Int.tmod (wrap64 (Int.tdiv (wrap64 (a0)) 2097152)) 32)) := (blk_cell BK133.out 1).trans rfl
                 have hcz95_2 : wc.cell? ⟨gb133, 2, none⟩ = some (.int .i64 (Int.tmod (wrap64 (Int.tdiv (wrap64 (a0)) 65536)) 32)) := (blk_cell BK133.out 2).trans rfl
                 have hcz95_3 : wc.cell? ⟨gb133, 3, none⟩ = some (.int .i64 x134003_10) := (blk_cell BK133.out 3).trans rfl
                 have hcz95_4 : wc.cell? ⟨gb133, 4, none⟩ = some (.int .i64 x134004_20) := (blk_cell BK133.out 4).trans rfl
                 have hfz95_0 := blk_frozen BK133.out 0
                 have hfz95_1 := blk_frozen BK133.out 1
                 have hfz95_2 := blk_frozen BK133.out 2
                 have hfz95_3 := blk_frozen BK133.out 3
                 have hfz95_4 := blk_frozen BK133.out 4
                 have hcz96_0 : wc.cell? ⟨gb132, 0, none⟩ = some (.int .i64 0) := (blk_cell BK132.out 0).trans rfl
                 have hcz96_1 : wc.cell? ⟨gb132, 1, none⟩ = some (.int .i64 0) := (blk_cell BK132.out 1).trans rfl
                 have hcz96_2 : wc.cell? ⟨gb132, 2, none⟩ = some (.int .i64 0) := (blk_cell BK132.out 2).trans rfl
                 have hcz96_3 : wc.cell? ⟨gb132, 3, none⟩ = some (.int .i64 0) := (blk_cell BK132.out 3).trans rfl
                 have hcz96_4 : wc.cell? ⟨gb132, 4, none⟩ = some (.int .i64 0) := (blk_cell BK132.out 4).trans rfl
                 have hfz96_0 := blk_frozen BK132.out 0
                 have hfz96_1 := blk_frozen BK132.out 1
                 have hfz96_2 := blk_frozen BK132.out 2
                 have hfz96_3 := blk_frozen BK132.out 3
                 have hfz96_4 := blk_frozen BK132.out 4
                 go_wp2
                 refine bodyPost_ret (results_ct rfl _ _ gb132 52 #[.int .i64 (wrap64 (Int.tdiv (wrap64 (a0)) 67108864)), .int .i64 (Int.tmod (wrap64 (Int.tdiv (wrap64 (a0)) 2097152)) 32), .int .i64 (Int.tmod (wrap64 (Int.tdiv (wrap64 (a0)) 65536)) 32), .int .i64 x134003_10, .int .i64 x134004_20] (0, 0) _ rfl (by (with_reducible repeat (first | refine blk_drewN ?_ _ | refine blk_drew ?_ | refine blk_alloc ?_ _)); refine blk_put (cs := #[.int .i64 (wrap64 (Int.tdiv (wrap64 (a0)) 67108864)), .int .i64 (Int.tmod (wrap64 (Int.tdiv (wrap64 (a0)) 2097152)) 32), .int .i64 (Int.tmod (wrap64 (Int.tdiv (wrap64 (a0)) 65536)) 32), .int .i64 x134003_10, .int .i64 0]) ?_ 4 _ rfl; (with_reducible repeat (first | refine blk_drewN ?_ _ | refine blk_drew ?_ | refine blk_alloc ?_ _)); refine blk_put (cs := #[.int .i64 (wrap64 (Int.tdiv (wrap64 (a0)) 67108864)), .int .i64 (Int.tmod (wrap64 (Int.tdiv (wrap64 (a0)) 2097152)) 32), .int .i64 (Int.tmod (wrap64 (Int.tdiv (wrap64 (a0)) 65536)) 32), .int .i64 0, .int .i64 0]) ?_ 3 _ rfl; (with_reducible repeat (first | refine blk_drewN ?_ _ | refine blk_drew ?_ | refine blk_alloc ?_ _)); refine blk_put (cs := #[.int .i64 (wrap64 (Int.tdiv (wrap64 (a0)) 67108864)), .int .i64 (Int.tmod (wrap64 (Int.tdiv (wrap64 (a0)) 2097152)) 32), .int .i64 0, .int .i64 0, .int .i64 0]) ?_ 2 _ rfl; (with_reducible repeat (first | refine blk_drewN ?_ _ | refine blk_drew ?_ | refine blk_alloc ?_ _)); refine blk_put (cs := #[.int .i64 (wrap64 (Int.tdiv (wrap64 (a0)) 67108864)), .int .i64 0, .int .i64 0, .int .i64 0, .int .i64 0]) ?_ 1 _ rfl; (with_reducible repeat (first | refine blk_drewN ?_ _ | refine blk_drew ?_ | refine blk_alloc ?_ _)); refine blk_put (cs := #[.int .i64 0, .int .i64 0, .int .i64 0, .int .i64 0, .int .i64 0]) ?_ 0 _ rfl; (with_reducible repeat (first | refine blk_drewN ?_ _ | refine blk_drew ?_ | refine blk_alloc ?_ _)); exact BK132.out) Try.underlying52 rfl (by kernel_rfl)) rfl ?_
                 exact ⟨by first | rfl | (simp [errW_none, errW_some] <;> rfl) | (simp [*, errW_none, errW_some] <;> rfl), by repeat (first | (with_reducible first | exact HB.out | apply below_alloc | apply pw_below_drewN | apply below_drew1 | refine below_set ?_ GE132.out | refine below_set ?_ GE133.out) | exact HB.out)⟩
                ·
                 rw [if_neg c93] at H
                 have c93b0 : ((Int.tmod (wrap64 (Int.tdiv (wrap64 (a0)) 65536)) 32) == 0) = false := beq_eq_false_iff_ne.mpr c93
                 have c93b1 : ((Int.tmod (wrap64 (Int.tdiv (wrap64 (a0)) 65536)) 32) != 0) = true := bne_iff_ne.mpr c93
                 simp only [Option.some.injEq, Prod.mk.injEq] at H
                 obtain ⟨rfl, rfl, rfl, rfl, rfl, rfl⟩ := H
                 have p71 : 0 ≤ (0 : Int) := (by omega)
                 have q71 : 0 < t134.size := (by have : (0 : Int) < (t134.size : Int) := of_decide_eq_true (by first | (with_reducible assumption) | assumption); omega)
                 have hx71 : ∀ h : 0 < t134.size, ((t134[0]'h).toNat : Int) = bt t134 0 := bt_at t134 0
                 clear p71
                 have qi71 : (0 < (t134.size : Int)) = True := eq_true (of_decide_eq_true (by first | (with_reducible assumption) | assumption))
                 replace q71 := eq_true q71
                 have p91 : 0 ≤ (1 : Int) := (by omega)
                 have q91 : 1 < t134.size := (by have : (1 : Int) < (t134.size : Int) := of_decide_eq_true (by first | (with_reducible assumption) | assumption); omega)
                 have hx91 : ∀ h : 1 < t134.size, ((t134[1]'h).toNat : Int) = bt t134 1 := bt_at t134 1
                 clear p91
                 have qi91 : (1 < (t134.size : Int)) = True := eq_true (of_decide_eq_true (by first | (with_reducible assumption) | assumption))
                 replace q91 := eq_true q91
                 have hnb97 := NB133_132.out
                 have hnc97 := NB132_133.out
                 have hcz98_0 : wc.cell? ⟨gb133, 0, none⟩ = some (.int .i64 (wrap64 (Int.tdiv (wrap64 (a0)) 67108864))) := (blk_cell BK133.out 0).trans rfl
                 have hcz98_1 : wc.cell? ⟨gb133, 1, none⟩ = some (.int .i64 (Int.tmod (wrap64 (Int.tdiv (wrap64 (a0)) 2097152)) 32)) := (blk_cell BK133.out 1).trans rfl
                 have hcz98_2 : wc.cell? ⟨gb133, 2, none⟩ = some (.int .i64 (Int.tmod (wrap64 (Int.tdiv (wrap64 (a0)) 65536)) 32)) := (blk_cell BK133.out 2).trans rfl
                 have hcz98_3 : wc.cell? ⟨gb133, 3, none⟩ = some (.int .i64 x134003_10) := (blk_cell BK133.out 3).trans rfl
                 have hcz98_4 : wc.cell? ⟨gb133, 4, none⟩ = some (.int .i64 x134004_20) := (blk_cell BK133.out 4).trans rfl
                 have hfz98_0 := blk_frozen BK133.out 0
                 have hfz98_1 := blk_frozen BK133.out 1
                 have hfz98_2 := blk_frozen BK133.out 2
                 have hfz98_3 := blk_frozen BK133.out 3
                 have hfz98_4 := blk_frozen BK133.out 4
                 have hcz99_0 : wc.cell? ⟨gb132, 0, none⟩ = some (.int .i64 0) := (blk_cell BK132.out 0).trans rfl
                 have hcz99_1 : wc.cell? ⟨gb132, 1, none⟩ = some (.int .i64 0) := (blk_cell BK132.out 1).trans rfl
                 have hcz99_2 : wc.cell? ⟨gb132, 2, none⟩ = some (.int .i64 0) := (blk_cell BK132.out 2).trans rfl
                 have hcz99_3 : wc.cell? ⟨gb132, 3, none⟩ = some (.int .i64 0) := (blk_cell BK132.out 3).trans rfl
                 have hcz99_4 : wc.cell? ⟨gb132, 4, none⟩ = some (.int .i64 0) := (blk_cell BK132.out 4).trans rfl
                 have hfz99_0 := blk_frozen BK132.out 0
                 have hfz99_1 := blk_frozen BK132.out 1
                 have hfz99_2 := blk_frozen BK132.out 2
                 have hfz99_3 := blk_frozen BK132.out 3
                 have hfz99_4 := blk_frozen BK132.out 4
                 go_wp2
                 refine bodyPost_ret (results_ct rfl _ _ gb132 52 #[.int .i64 0, .int .i64 0, .int .i64 0, .int .i64 0, .int .i64 0] (0, 0) _ rfl (by (with_reducible repeat (first | refine blk_drewN ?_ _ | refine blk_drew ?_ | refine blk_alloc ?_ _)); refine blk_put (cs := #[.int .i64 0, .int .i64 0, .int .i64 0, .int .i64 0, .int .i64 0]) ?_ 4 _ rfl; (with_reducible repeat (first | refine blk_drewN ?_ _ | refine blk_drew ?_ | refine blk_alloc ?_ _)); refine blk_put (cs := #[.int .i64 0, .int .i64 0, .int .i64 0, .int .i64 0, .int .i64 0]) ?_ 3 _ rfl; (with_reducible repeat (first | refine blk_drewN ?_ _ | refine blk_drew ?_ | refine blk_alloc ?_ _)); refine blk_put (cs := #[.int .i64 0, .int .i64 0, .int .i64 0, .int .i64 0, .int .i64 0]) ?_ 2 _ rfl; (with_reducible repeat (first | refine blk_drewN ?_ _ | refine blk_drew ?_ | refine blk_alloc ?_ _)); refine blk_put (cs := #[.int .i64 0, .int .i64 0, .int .i64 0, .int .i64 0, .int .i64 0]) ?_ 1 _ rfl; (with_reducible repeat (first | refine blk_drewN ?_ _ | refine blk_drew ?_ | refine blk_alloc ?_ _)); refine blk_put (cs := #[.int .i64 0, .int .i64 0, .int .i64 0, .int .i64 0, .int .i64 0]) ?_ 0 _ rfl; (with_reducible repeat (first | refine blk_drewN ?_ _ | refine blk_drew ?_ | refine blk_alloc ?_ _)); exact BK132.out) Try.underlying52 rfl (by kernel_rfl)) rfl ?_
                 exact ⟨by first | rfl | (simp [errW_none, errW_some] <;> rfl) | (simp [*, errW_none, errW_some] <;> rfl), by repeat (first | (with_reducible first | exact HB.out | apply below_alloc | apply pw_below_drewN | apply below_drew1 | refine below_set ?_ GE132.out | refine below_set ?_ GE133.out) | exact HB.out)⟩
               ·
                rw [if_neg c92] at H
                have c92b0 : ((bt t134 1) == 45) = false := beq_eq_false_iff_ne.mpr c92
                have c92b1 : ((bt t134 1) != 45) = true := bne_iff_ne.mpr c92
                simp only [Option.some.injEq, Prod.mk.injEq] at H
                obtain ⟨rfl, rfl, rfl, rfl, rfl, rfl⟩ := H
                have p71 : 0 ≤ (0 : Int) := (by omega)
                have q71 : 0 < t134.size := (by have : (0 : Int) < (t134.size : Int) := of_decide_eq_true (by first | (with_reducible assumption) | assumption); omega)
                have hx71 : ∀ h : 0 < t134.size, ((t134[0]'h).toNat : Int) = bt t134 0 := bt_at t134 0
                clear p71
                have qi71 : (0 < (t134.size : Int)) = True := eq_true (of_decide_eq_true (by first | (with_reducible assumption) | assumption))
                replace q71 := eq_true q71
                have p91 : 0 ≤ (1 : Int) := (by omega)
                have q91 : 1 < t134.size := (by have : (1 : Int) < (t134.size : Int) := of_decide_eq_true (by first | (with_reducible assumption) | assumption); omega)
                have hx91 : ∀ h : 1 < t134.size, ((t134[1]'h).toNat : Int) = bt t134 1 := bt_at t134 1
                clear p91
                have qi91 : (1 < (t134.size : Int)) = True := eq_true (of_decide_eq_true (by first | (with_reducible assumption) | assumption))
                replace q91 := eq_true q91
                have hnb100 := NB133_132.out
                have hnc100 := NB132_133.out
                have hcz101_0 : wc.cell? ⟨gb133, 0, none⟩ = some (.int .i64 (wrap64 (Int.tdiv (wrap64 (a0)) 67108864))) := (blk_cell BK133.out 0).trans rfl
                have hcz101_1 : wc.cell? ⟨gb133, 1, none⟩ = some (.int .i64 (Int.tmod (wrap64 (Int.tdiv (wrap64 (a0)) 2097152)) 32)) := (blk_cell BK133.out 1).trans rfl
                have hcz101_2 : wc.cell? ⟨gb133, 2, none⟩ = some (.int .i64 (Int.tmod (wrap64 (Int.tdiv (wrap64 (a0)) 65536)) 32)) := (blk_cell BK133.out 2).trans rfl
                have hcz101_3 : wc.cell? ⟨gb133, 3, none⟩ = some (.int .i64 x134003_10) := (blk_cell BK133.out 3).trans rfl
                have hcz101_4 : wc.cell? ⟨gb133, 4, none⟩ = some (.int .i64 x134004_20) := (blk_cell BK133.out 4).trans rfl
                have hfz101_0 := blk_frozen BK133.out 0
                have hfz101_1 := blk_frozen BK133.out 1
                have hfz101_2 := blk_frozen BK133.out 2
                have hfz101_3 := blk_frozen BK133.out 3
                have hfz101_4 := blk_frozen BK133.out 4
                have hcz102_0 : wc.cell? ⟨gb132, 0, none⟩ = some (.int .i64 0) := (blk_cell BK132.out 0).trans rfl
                have hcz102_1 : wc.cell? ⟨gb132, 1, none⟩ = some (.int .i64 0) := (blk_cell BK132.out 1).trans rfl
                have hcz102_2 : wc.cell? ⟨gb132, 2, none⟩ = some (.int .i64 0) := (blk_cell BK132.out 2).trans rfl
                have hcz102_3 : wc.cell? ⟨gb132, 3, none⟩ = some (.int .i64 0) := (blk_cell BK132.out 3).trans rfl
                have hcz102_4 : wc.cell? ⟨gb132, 4, none⟩ = some (.int .i64 0) := (blk_cell BK132.out 4).trans rfl
                have hfz102_0 := blk_frozen BK132.out 0
                have hfz102_1 := blk_frozen BK132.out 1
                have hfz102_2 := blk_frozen BK132.out 2
                have hfz102_3 := blk_frozen BK132.out 3
                have hfz102_4 := blk_frozen BK132.out 4
                go_wp2
                refine bodyPost_ret (results_ct rfl _ _ gb132 52 #[.int .i64 (wrap64 (Int.tdiv (wrap64 (a0)) 67108864)), .int .i64 (Int.tmod (wrap64 (Int.tdiv (wrap64 (a0)) 2097152)) 32), .int .i64 (Int.tmod (wrap64 (Int.tdiv (wrap64 (a0)) 65536)) 32), .int .i64 x134003_10, .int .i64 x134004_20] (0, 0) _ rfl (by (with_reducible repeat (first | refine blk_drewN ?_ _ | refine blk_drew ?_ | refine blk_alloc ?_ _)); refine blk_put (cs := #[.int .i64 (wrap64 (Int.tdiv (wrap64 (a0)) 67108864)), .int .i64 (Int.tmod (wrap64 (Int.tdiv (wrap64 (a0)) 2097152)) 32), .int .i64 (Int.tmod (wrap64 (Int.tdiv (wrap64 (a0)) 65536)) 32), .int .i64 x134003_10, .int .i64 0]) ?_ 4 _ rfl; (with_reducible repeat (first | refine blk_drewN ?_ _ | refine blk_drew ?_ | refine blk_alloc ?_ _)); refine blk_put (cs := #[.int .i64 (wrap64 (Int.tdiv (wrap64 (a0)) 67108864)), .int .i64 (Int.tmod (wrap64 (Int.tdiv (wrap64 (a0)) 2097152)) 32), .int .i64 (Int.tmod (wrap64 (Int.tdiv (wrap64 (a0)) 65536)) 32), .int .i64 0, .int .i64 0]) ?_ 3 _ rfl; (with_reducible repeat (first | refine blk_drewN ?_ _ | refine blk_drew ?_ | refine blk_alloc ?_ _)); refine blk_put (cs := #[.int .i64 (wrap64 (Int.tdiv (wrap64 (a0)) 67108864)), .int .i64 (Int.tmod (wrap64 (Int.tdiv (wrap64 (a0)) 2097152)) 32), .int .i64 0, .int .i64 0, .int .i64 0]) ?_ 2 _ rfl; (with_reducible repeat (first | refine blk_drewN ?_ _ | refine blk_drew ?_ | refine blk_alloc ?_ _)); refine blk_put (cs := #[.int .i64 (wrap64 (Int.tdiv (wrap64 (a0)) 67108864)), .int .i64 0, .int .i64 0, .int .i64 0, .int .i64 0]) ?_ 1 _ rfl; (with_reducible repeat (first | refine blk_drewN ?_ _ | refine blk_drew ?_ | refine blk_alloc ?_ _)); refine blk_put (cs := #[.int .i64 0, .int .i64 0, .int .i64 0, .int .i64 0, .int .i64 0]) ?_ 0 _ rfl; (with_reducible repeat (first | refine blk_drewN ?_ _ | refine blk_drew ?_ | refine blk_alloc ?_ _)); exact BK132.out) Try.underlying52 rfl (by kernel_rfl)) rfl ?_
                exact ⟨by first | rfl | (simp [errW_none, errW_some] <;> rfl) | (simp [*, errW_none, errW_some] <;> rfl), by repeat (first | (with_reducible first | exact HB.out | apply below_alloc | apply pw_below_drewN | apply below_drew1 | refine below_set ?_ GE132.out | refine below_set ?_ GE133.out) | exact HB.out)⟩
              ·
               rw [if_neg c90] at H
               exact absurd H (by simp)
            ·
             rw [if_neg c70] at H
             exact absurd H (by simp)
           ·
            rw [if_neg c69] at H
            have c69b0 : (x7_20 == 0) = false := beq_eq_false_iff_ne.mpr c69
            have c69b1 : (x7_20 != 0) = true := bne_iff_ne.mpr c69
            simp only [Option.some.injEq, Prod.mk.injEq] at H
            obtain ⟨rfl, rfl, rfl, rfl, rfl, rfl⟩ := H
            have hnb103 := NB132_133.out
            have hnc103 := NB133_132.out
            have hcz104_0 : wc.cell? ⟨gb132, 0, none⟩ = some (.int .i64 0) := (blk_cell BK132.out 0).trans rfl
            have hcz104_1 : wc.cell? ⟨gb132, 1, none⟩ = some (.int .i64 0) := (blk_cell BK132.out 1).trans rfl
            have hcz104_2 : wc.cell? ⟨gb132, 2, none⟩ = some (.int .i64 0) := (blk_cell BK132.out 2).trans rfl
            have hcz104_3 : wc.cell? ⟨gb132, 3, none⟩ = some (.int .i64 0) := (blk_cell BK132.out 3).trans rfl
            have hcz104_4 : wc.cell? ⟨gb132, 4, none⟩ = some (.int .i64 0) := (blk_cell BK132.out 4).trans rfl
            have hfz104_0 := blk_frozen BK132.out 0
            have hfz104_1 := blk_frozen BK132.out 1
            have hfz104_2 := blk_frozen BK132.out 2
            have hfz104_3 := blk_frozen BK132.out 3
            have hfz104_4 := blk_frozen BK132.out 4
            go_wp2
            refine bodyPost_ret (results_ct rfl _ _ gb132 52 #[.int .i64 0, .int .i64 0, .int .i64 0, .int .i64 0, .int .i64 0] (0, 0) _ rfl (by (with_reducible repeat (first | refine blk_drewN ?_ _ | refine blk_drew ?_ | refine blk_alloc ?_ _)); refine blk_put (cs := #[.int .i64 0, .int .i64 0, .int .i64 0, .int .i64 0, .int .i64 0]) ?_ 4 _ rfl; (with_reducible repeat (first | refine blk_drewN ?_ _ | refine blk_drew ?_ | refine blk_alloc ?_ _)); refine blk_put (cs := #[.int .i64 0, .int .i64 0, .int .i64 0, .int .i64 0, .int .i64 0]) ?_ 3 _ rfl; (with_reducible repeat (first | refine blk_drewN ?_ _ | refine blk_drew ?_ | refine blk_alloc ?_ _)); refine blk_put (cs := #[.int .i64 0, .int .i64 0, .int .i64 0, .int .i64 0, .int .i64 0]) ?_ 2 _ rfl; (with_reducible repeat (first | refine blk_drewN ?_ _ | refine blk_drew ?_ | refine blk_alloc ?_ _)); refine blk_put (cs := #[.int .i64 0, .int .i64 0, .int .i64 0, .int .i64 0, .int .i64 0]) ?_ 1 _ rfl; (with_reducible repeat (first | refine blk_drewN ?_ _ | refine blk_drew ?_ | refine blk_alloc ?_ _)); refine blk_put (cs := #[.int .i64 0, .int .i64 0, .int .i64 0, .int .i64 0, .int .i64 0]) ?_ 0 _ rfl; (with_reducible repeat (first | refine blk_drewN ?_ _ | refine blk_drew ?_ | refine blk_alloc ?_ _)); exact BK132.out) Try.underlying52 rfl (by kernel_rfl)) rfl ?_
            exact ⟨by first | rfl | (simp [errW_none, errW_some] <;> rfl) | (simp [*, errW_none, errW_some] <;> rfl), by repeat (first | (with_reducible first | exact HB.out | apply below_alloc | apply pw_below_drewN | apply below_drew1 | refine below_set ?_ GE132.out | refine below_set ?_ GE133.out) | exact HB.out)⟩
     ·
      rw [if_neg c19] at H
      exact absurd H (by simp)
  ·
   rw [if_neg c9] at H
   exact absurd H (by simp)

end Go.Proofs.Ytbcmckfceeakhaa.GL
