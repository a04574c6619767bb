-- Written by a program of this session (wip/tools/drive.py) over the kit's print.py.
import Derived.Test.YtcgckodhehnpnaaDoorF0
import Derived.Test.YtcgckodhehnpnaaDoorF15
namespace Go.Proofs.YtcgckodhehnpnaaDoor.F
open Go.RowKit Go.Proofs.YtcgckodhehnpnaaDoorW.PrintWords Go.Proofs.YtcgckodhehnpnaaDoorW.PrintLast Go.Proofs.YtcgckodhehnpnaaDoorW.PrintMore
attribute [local go_sem] max2_int min2_int max_two min_two max_three min_three max_four min_four   -- for this text's walks alone
set_option linter.unusedVariables false
set_option linter.unusedSimpArgs false

/-! ### netlabref02_two: function 39 -/
mutual
def netlabref02_two.l0 : Nat → Int → Int → Int → Int → Int → Int → Int → Option (Int × Int)
 | 0, _, _, _, _, _, _, _ => none
 | k + 1, x6, x352000, x352001, x353000, x353001, x355000, x355001 => if x6 ≤ x352001 then (netlabref02_two.l1 k x6 x353000 x352000 x352001 x353000 x353001 x355000 x355001) else (some (x355000, x355001))
def netlabref02_two.l1 : Nat → Int → Int → Int → Int → Int → Int → Int → Int → Option (Int × Int)
 | 0, _, _, _, _, _, _, _, _ => none
 | k + 1, x6, x7, x352000, x352001, x353000, x353001, x355000, x355001 => if x7 ≤ x353001 then ((netlabref02_Levels.f k x6 x7).bind fun t355 => (netlabref02_two.l2 k x6 x7 t355 0 x352000 x352001 x353000 x353001 x355000 x355001)) else (netlabref02_two.l0 k (IntKind.i8.wrap (x6 + 1)) x352000 x352001 x353000 x353001 x355000 x355001)
def netlabref02_two.l2 : Nat → Int → Int → List Int → Int → Int → Int → Int → Int → Int → Int → Option (Int × Int)
 | 0, _, _, _, _, _, _, _, _, _, _ => none
 | k + 1, x6, x7, x8, x9, x352000, x352001, x353000, x353001, x355000, x355001 => if x9 < (x8.length : Int) then (if 0 ≤ x9 then (netlabref02_two.l2 k x6 x7 x8 (wrap64 (x9 + 1)) x352000 x352001 x353000 x353001 (mn x355000 (rd x8 x9)) (mx x355001 (rd x8 x9))) else (none)) else (netlabref02_two.l1 k x6 (IntKind.i8.wrap (x7 + 1)) x352000 x352001 x353000 x353001 x355000 x355001)
end
def netlabref02_two.f (k : Nat) (a0_0 : Int) (a0_1 : Int) (a1_0 : Int) (a1_1 : Int) : Option (Int × Int) := netlabref02_two.l0 k a0_0 a0_0 a0_1 a1_0 a1_1 7 (-7)
theorem netlabref02_two.mono_l : ∀ k, (∀ y0 y1 y2 y3 y4 y5 y6, LeO (netlabref02_two.l0 k y0 y1 y2 y3 y4 y5 y6) (netlabref02_two.l0 (k + 1) y0 y1 y2 y3 y4 y5 y6)) ∧ (∀ y0 y1 y2 y3 y4 y5 y6 y7, LeO (netlabref02_two.l1 k y0 y1 y2 y3 y4 y5 y6 y7) (netlabref02_two.l1 (k + 1) y0 y1 y2 y3 y4 y5 y6 y7)) ∧ (∀ y0 y1 y2 y3 y4 y5 y6 y7 y8 y9, LeO (netlabref02_two.l2 k y0 y1 y2 y3 y4 y5 y6 y7 y8 y9) (netlabref02_two.l2 (k + 1) y0 y1 y2 y3 y4 y5 y6 y7 y8 y9))
 | 0 => ⟨fun _ _ _ _ _ _ _ r h => by simp [netlabref02_two.l0] at h, fun _ _ _ _ _ _ _ _ r h => by simp [netlabref02_two.l1] at h, fun _ _ _ _ _ _ _ _ _ _ r h => by simp [netlabref02_two.l2] at h⟩
 | k + 1 => by
  obtain ⟨ih0, ih1, ih2⟩ := netlabref02_two.mono_l k
  refine ⟨?_, ?_, ?_⟩
  ·intro y0 y1 y2 y3 y4 y5 y6
   unfold netlabref02_two.l0
   repeat' first
   | (with_reducible exact ih0 _ _ _ _ _ _ _)
   | (with_reducible exact ih1 _ _ _ _ _ _ _ _)
   | (with_reducible exact ih2 _ _ _ _ _ _ _ _ _ _)
   | (with_reducible exact netlabref02_Levels.mono _ _ _)
   | (with_reducible exact LeO.refl _)
   | (with_reducible exact LeO.none _)
   | (with_reducible refine LeO.ite ?_ ?_)
   | (with_reducible refine LeO.bind ?_ (fun _ => ?_))
   | exact ih0 _ _ _ _ _ _ _
   | exact ih1 _ _ _ _ _ _ _ _
   | exact ih2 _ _ _ _ _ _ _ _ _ _
   | exact netlabref02_Levels.mono _ _ _
   | exact LeO.none _
   | refine LeO.ite ?_ ?_
   | refine LeO.bind ?_ (fun _ => ?_)
  ·intro y0 y1 y2 y3 y4 y5 y6 y7
   unfold netlabref02_two.l1
   repeat' first
   | (with_reducible exact ih0 _ _ _ _ _ _ _)
   | (with_reducible exact ih1 _ _ _ _ _ _ _ _)
   | (with_reducible exact ih2 _ _ _ _ _ _ _ _ _ _)
   | (with_reducible exact netlabref02_Levels.mono _ _ _)
   | (with_reducible exact LeO.refl _)
   | (with_reducible exact LeO.none _)
   | (with_reducible refine LeO.ite ?_ ?_)
   | (with_reducible refine LeO.bind ?_ (fun _ => ?_))
   | exact ih0 _ _ _ _ _ _ _
   | exact ih1 _ _ _ _ _ _ _ _
   | exact ih2 _ _ _ _ _ _ _ _ _ _
   | exact netlabref02_Levels.mono _ _ _
   | exact LeO.none _
   | refine LeO.ite ?_ ?_
   | refine LeO.bind ?_ (fun _ => ?_)
  ·intro y0 y1 y2 y3 y4 y5 y6 y7 y8 y9
   unfold netlabref02_two.l2
   repeat' first
   | (with_reducible exact ih0 _ _ _ _ _ _ _)
   | (with_reducible exact ih1 _ _ _ _ _ _ _ _)
   | (with_reducible exact ih2 _ _ _ _ _ _ _ _ _ _)
   | (with_reducible exact netlabref02_Levels.mono _ _ _)
   | (with_reducible exact LeO.refl _)
   | (with_reducible exact LeO.none _)
   | (with_reducible refine LeO.ite ?_ ?_)
   | (with_reducible refine LeO.bind ?_ (fun _ => ?_))
   | exact ih0 _ _ _ _ _ _ _
   | exact ih1 _ _ _ _ _ _ _ _
   | exact ih2 _ _ _ _ _ _ _ _ _ _
   | exact netlabref02_Levels.mono _ _ _
   | exact LeO.none _
   | refine LeO.ite ?_ ?_
   | refine LeO.bind ?_ (fun _ => ?_)
theorem netlabref02_two.mono : ∀ a0 a1 a2 a3 k, LeO (netlabref02_two.f k a0 a1 a2 a3) (netlabref02_two.f (k + 1) a0 a1 a2 a3) := by
 intro a0 a1 a2 a3 k
 obtain ⟨ih0, ih1, ih2⟩ := netlabref02_two.mono_l k
 unfold netlabref02_two.f
 repeat' first
   | (with_reducible exact ih0 _ _ _ _ _ _ _)
   | (with_reducible exact ih1 _ _ _ _ _ _ _ _)
   | (with_reducible exact ih2 _ _ _ _ _ _ _ _ _ _)
   | (with_reducible exact netlabref02_Levels.mono _ _ _)
   | (with_reducible exact LeO.refl _)
   | (with_reducible exact LeO.none _)
   | (with_reducible refine LeO.ite ?_ ?_)
   | (with_reducible refine LeO.bind ?_ (fun _ => ?_))
   | exact ih0 _ _ _ _ _ _ _
   | exact ih1 _ _ _ _ _ _ _ _
   | exact ih2 _ _ _ _ _ _ _ _ _ _
   | exact netlabref02_Levels.mono _ _ _
   | exact LeO.none _
   | refine LeO.ite ?_ ?_
   | refine LeO.bind ?_ (fun _ => ?_)
def netlabref02_two.T12 : Bool × List (List Nat × List Nat) := (true, [([], []), ([0], [0]), ([], []), ([], []), ([2, 3], [2, 3]), ([4], [4]), ([1, 5], [1, 5]), ([], []), ([7], [7]), ([], []), ([], []), ([9, 10], [9, 10]), ([11], [11]), ([8, 12], [8, 12]), ([6, 13], [6, 13]), ([14, 0, 1, 2, 3, 4, 5, 6, 7, 8, 9, 10, 11, 12, 13, 14], [14])])
def netlabref02_two.B12 : List Nat := [0, 1, 0, 0, 12, 28, 63, 0, 128, 0, 0, 1536, 3584, 8064, 16383, 32767]
theorem netlabref02_two.tab12 : rtab .any (opsOf Tryd.f39 12) = netlabref02_two.T12 := by kernel_rfl
theorem netlabref02_two.bits12 : waitsOk netlabref02_two.T12.2 netlabref02_two.B12 = true := by kernel_rfl
set_option maxHeartbeats 8000000 in
set_option maxRecDepth 100000 in
theorem netlabref02_two.calls (k : Nat) (a0_0 : Int) (a0_1 : Int) (a1_0 : Int) (a1_1 : Int) (r1 : Int) (r2 : Int) (w : World) (h : netlabref02_two.f k a0_0 a0_1 a1_0 a1_1 = some (r1, r2)) :
  Calls Tryd.prog 39 #[.agg #[.int .i8 a0_0, .int .i8 a0_1], .agg #[.int .i8 a1_0, .int .i8 a1_1]] w fun e w' => e = .returned (.agg #[.int .i8 r1, .int .i8 r2]) ∧ Below w.heap.size w w' := by
 have hu25 := Tryd.underlying25
 have HB := Aside0.mk (Below.refl w.heap.size w)
 have H : (netlabref02_two.l0 k a0_0 a0_0 a0_1 a1_0 a1_1 7 (-7)) = some (r1, r2) := h
 clear h
 have H' := Aside0.mk H
 clear H
 go_enter Tryd.func39, Tryd.ntmps39
 go_wp2_with (first | ((with_reducible refine gate_dst (N := 2) rfl ?_); refine box_event ?hg (N := 2) ?hd (cs := #[.int .i8 a0_0, .int .i8 a0_1]) (t := 25) ?hr ?_; (case hd => rfl); (case hg => rfl); (case hr => first | (go_simp; done) | (go_simp; rfl)); intro gb351 hg w3 hbox hb; have n0_ := Aside0.mk (below_step (by repeat (first | (with_reducible first | exact HB.out | apply below_alloc | apply pw_below_drewN | apply below_drew1) | exact HB.out)) hb); have n1_ := Aside0.mk (hbox); have n2_ := Aside0.mk ((by rw [hg]; exact (below_size (by repeat (first | (with_reducible first | exact HB.out | apply below_alloc | apply pw_below_drewN | apply below_drew1) | exact HB.out))) : w.heap.size ≤ gb351)); have n3_ := Aside0.mk ((by rw [hg]; exact (below_size (by repeat (first | (with_reducible first | exact HB.out | apply below_alloc | apply pw_below_drewN | apply below_drew1) | exact HB.out))) : w.heap.size ≤ gb351)); clear HB; have HB := n0_; have BK351 := n1_; have GW351 := n2_; have GE351 := n3_; clear n0_ n1_ n2_ n3_; clear hb hbox hg) | ((with_reducible refine gate_dst (N := 3) rfl ?_); refine box_event ?hg (N := 3) ?hd (cs := #[.int .i8 a1_0, .int .i8 a1_1]) (t := 25) ?hr ?_; (case hd => rfl); (case hg => rfl); (case hr => first | (go_simp; done) | (go_simp; rfl)); intro gb352 hg w4 hbox hb; have n0_ := Aside0.mk (blk_below (g := gb351) (o := .cells #[.int .i8 a0_0, .int .i8 a0_1] 25 (0, 0)) (by (with_reducible repeat first | apply bN | apply bD | apply bA); exact BK351.out) hb); have n1_ := Aside0.mk (below_step (by repeat (first | (with_reducible first | exact HB.out | apply below_alloc | apply pw_below_drewN | apply below_drew1 | refine below_set ?_ GE351.out) | exact HB.out)) hb); have n2_ := Aside0.mk (hbox); have n3_ := Aside0.mk ((by rw [hg]; exact (below_size (by repeat (first | (with_reducible first | exact HB.out | apply below_alloc | apply pw_below_drewN | apply below_drew1 | refine below_set ?_ GE351.out) | exact HB.out))) : w.heap.size ≤ gb352)); have n4_ := Aside0.mk ((by rw [hg]; exact (below_size (by repeat (first | (with_reducible first | exact HB.out | apply below_alloc | apply pw_below_drewN | apply below_drew1 | refine below_set ?_ GE351.out) | exact HB.out))) : w.heap.size ≤ gb352)); have n5_ := Aside0.mk ((by rw [hg]; exact Nat.ne_of_lt (blk_lt (g := gb351) (o := .cells #[.int .i8 a0_0, .int .i8 a0_1] 25 (0, 0)) (by (with_reducible repeat first | apply bN | apply bD | apply bA); exact BK351.out)) : gb351 ≠ gb352)); have n6_ := Aside0.mk ((by rw [hg]; exact Nat.ne_of_gt (blk_lt (g := gb351) (o := .cells #[.int .i8 a0_0, .int .i8 a0_1] 25 (0, 0)) (by (with_reducible repeat first | apply bN | apply bD | apply bA); exact BK351.out)) : gb352 ≠ gb351)); clear BK351; clear HB; have BK351 := n0_; have HB := n1_; have BK352 := n2_; have GW352 := n3_; have GE352 := n4_; have NB351_352 := n5_; have NB352_351 := n6_; clear n0_ n1_ n2_ n3_ n4_ n5_ n6_; clear hb hbox hg) | ((with_reducible refine gate_dst (N := 4) rfl ?_); refine box_event ?hg (N := 4) ?hd (cs := #[.int .i8 0, .int .i8 0]) (t := 25) ?hr ?_; (case hd => rfl); (case hg => rfl); (case hr => first | (go_simp; done) | (go_simp; rfl)); intro gb353 hg w5 hbox hb; have n0_ := Aside0.mk (blk_below (g := gb351) (o := .cells #[.int .i8 a0_0, .int .i8 a0_1] 25 (0, 0)) (by (with_reducible repeat first | apply bN | apply bD | apply bA); exact BK351.out) hb); have n1_ := Aside0.mk (blk_below (g := gb352) (o := .cells #[.int .i8 a1_0, .int .i8 a1_1] 25 (0, 0)) (by (with_reducible repeat first | apply bN | apply bD | apply bA); exact BK352.out) hb); have n2_ := Aside0.mk (below_step (by repeat (first | (with_reducible first | exact HB.out | apply below_alloc | apply pw_below_drewN | apply below_drew1 | refine below_set ?_ GE351.out | refine below_set ?_ GE352.out) | exact HB.out)) hb); have n3_ := Aside0.mk (hbox); have n4_ := Aside0.mk ((by rw [hg]; exact (below_size (by repeat (first | (with_reducible first | exact HB.out | apply below_alloc | apply pw_below_drewN | apply below_drew1 | refine below_set ?_ GE351.out | refine below_set ?_ GE352.out) | exact HB.out))) : w.heap.size ≤ gb353)); have n5_ := Aside0.mk ((by rw [hg]; exact (below_size (by repeat (first | (with_reducible first | exact HB.out | apply below_alloc | apply pw_below_drewN | apply below_drew1 | refine below_set ?_ GE351.out | refine below_set ?_ GE352.out) | exact HB.out))) : w.heap.size ≤ gb353)); have n6_ := Aside0.mk ((by rw [hg]; exact Nat.ne_of_lt (blk_lt (g := gb351) (o := .cells #[.int .i8 a0_0, .int .i8 a0_1] 25 (0, 0)) (by (with_reducible repeat first | apply bN | apply bD | apply bA); exact BK351.out)) : gb351 ≠ gb353)); have n7_ := Aside0.mk ((by rw [hg]; exact Nat.ne_of_gt (blk_lt (g := gb351) (o := .cells #[.int .i8 a0_0, .int .i8 a0_1] 25 (0, 0)) (by (with_reducible repeat first | apply bN | apply bD | apply bA); exact BK351.out)) : gb353 ≠ gb351)); have n8_ := Aside0.mk ((by rw [hg]; exact Nat.ne_of_lt (blk_lt (g := gb352) (o := .cells #[.int .i8 a1_0, .int .i8 a1_1] 25 (0, 0)) (by (with_reducible repeat first | apply bN | apply bD | apply bA); exact BK352.out)) : gb352 ≠ gb353)); have n9_ := Aside0.mk ((by rw [hg]; exact Nat.ne_of_gt (blk_lt (g := gb352) (o := .cells #[.int .i8 a1_0, .int .i8 a1_1] 25 (0, 0)) (by (with_reducible repeat first | apply bN | apply bD | apply bA); exact BK352.out)) : gb353 ≠ gb352)); clear BK351; clear BK352; clear HB; have BK351 := n0_; have BK352 := n1_; have HB := n2_; have BK353 := n3_; have GW353 := n4_; have GE353 := n5_; have NB351_353 := n6_; have NB353_351 := n7_; have NB352_353 := n8_; have NB353_352 := n9_; clear n0_ n1_ n2_ n3_ n4_ n5_ n6_ n7_ n8_ n9_; clear hb hbox hg) | ((with_reducible refine gate_dst (N := 5) rfl ?_); refine box_event ?hg (N := 5) ?hd (cs := #[.int .i8 0, .int .i8 0]) (t := 25) ?hr ?_; (case hd => rfl); (case hg => rfl); (case hr => first | (go_simp; done) | (go_simp; rfl)); intro gb354 hg w6 hbox hb; have n0_ := Aside0.mk (blk_below (g := gb351) (o := .cells #[.int .i8 a0_0, .int .i8 a0_1] 25 (0, 0)) (by (with_reducible repeat first | apply bN | apply bD | apply bA); exact BK351.out) hb); have n1_ := Aside0.mk (blk_below (g := gb352) (o := .cells #[.int .i8 a1_0, .int .i8 a1_1] 25 (0, 0)) (by (with_reducible repeat first | apply bN | apply bD | apply bA); exact BK352.out) hb); have n2_ := Aside0.mk (blk_below (g := gb353) (o := .cells #[.int .i8 0, .int .i8 0] 25 (0, 0)) (by (with_reducible repeat first | apply bN | apply bD | apply bA); exact BK353.out) hb); have n3_ := Aside0.mk (below_step (by repeat (first | (with_reducible first | exact HB.out | apply below_alloc | apply pw_below_drewN | apply below_drew1 | refine below_set ?_ GE351.out | refine below_set ?_ GE352.out | refine below_set ?_ GE353.out) | exact HB.out)) hb); have n4_ := Aside0.mk (hbox); have n5_ := Aside0.mk ((by rw [hg]; exact (below_size (by repeat (first | (with_reducible first | exact HB.out | apply below_alloc | apply pw_below_drewN | apply below_drew1 | refine below_set ?_ GE351.out | refine below_set ?_ GE352.out | refine below_set ?_ GE353.out) | exact HB.out))) : w.heap.size ≤ gb354)); have n6_ := Aside0.mk ((by rw [hg]; exact (below_size (by repeat (first | (with_reducible first | exact HB.out | apply below_alloc | apply pw_below_drewN | apply below_drew1 | refine below_set ?_ GE351.out | refine below_set ?_ GE352.out | refine below_set ?_ GE353.out) | exact HB.out))) : w.heap.size ≤ gb354)); have n7_ := Aside0.mk ((by rw [hg]; exact Nat.ne_of_lt (blk_lt (g := gb351) (o := .cells #[.int .i8 a0_0, .int .i8 a0_1] 25 (0, 0)) (by (with_reducible repeat first | apply bN | apply bD | apply bA); exact BK351.out)) : gb351 ≠ gb354)); have n8_ := Aside0.mk ((by rw [hg]; exact Nat.ne_of_gt (blk_lt (g := gb351) (o := .cells #[.int .i8 a0_0, .int .i8 a0_1] 25 (0, 0)) (by (with_reducible repeat first | apply bN | apply bD | apply bA); exact BK351.out)) : gb354 ≠ gb351)); have n9_ := Aside0.mk ((by rw [hg]; exact Nat.ne_of_lt (blk_lt (g := gb352) (o := .cells #[.int .i8 a1_0, .int .i8 a1_1] 25 (0, 0)) (by (with_reducible repeat first | apply bN | apply bD | apply bA); exact BK352.out)) : gb352 ≠ gb354)); have n10_ := Aside0.mk ((by rw [hg]; exact Nat.ne_of_gt (blk_lt (g := gb352) (o := .cells #[.int .i8 a1_0, .int .i8 a1_1] 25 (0, 0)) (by (with_reducible repeat first | apply bN | apply bD | apply bA); exact BK352.out)) : gb354 ≠ gb352)); have n11_ := Aside0.mk ((by rw [hg]; exact Nat.ne_of_lt (blk_lt (g := gb353) (o := .cells #[.int .i8 0, .int .i8 0] 25 (0, 0)) (by (with_reducible repeat first | apply bN | apply bD | apply bA); exact BK353.out)) : gb353 ≠ gb354)); have n12_ := Aside0.mk ((by rw [hg]; exact Nat.ne_of_gt (blk_lt (g := gb353) (o := .cells #[.int .i8 0, .int .i8 0] 25 (0, 0)) (by (with_reducible repeat first | apply bN | apply bD | apply bA); exact BK353.out)) : gb354 ≠ gb353)); clear BK351; clear BK352; clear BK353; clear HB; have BK351 := n0_; have BK352 := n1_; have BK353 := n2_; have HB := n3_; have BK354 := n4_; have GW354 := n5_; have GE354 := n6_; have NB351_354 := n7_; have NB354_351 := n8_; have NB352_354 := n9_; have NB354_352 := n10_; have NB353_354 := n11_; have NB354_353 := n12_; clear n0_ n1_ n2_ n3_ n4_ n5_ n6_ n7_ n8_ n9_ n10_ n11_ n12_; clear hb hbox hg; have hnb7 := NB354_351.out; have hnc7 := NB351_354.out; have hnb8 := NB354_352.out; have hnc8 := NB352_354.out; have hnb9 := NB354_353.out; have hnc9 := NB353_354.out; have hcz10_0 : w6.cell? ⟨gb354, 0, none⟩ = some (.int .i8 0) := (blk_cell BK354.out 0).trans rfl; have hcz10_1 : w6.cell? ⟨gb354, 1, none⟩ = some (.int .i8 0) := (blk_cell BK354.out 1).trans rfl; have hfz10_0 := blk_frozen BK354.out 0; have hfz10_1 := blk_frozen BK354.out 1; have hnb11 := NB351_352.out; have hnc11 := NB352_351.out; have hnb12 := NB351_353.out; have hnc12 := NB353_351.out; have hcz13_0 : w6.cell? ⟨gb351, 0, none⟩ = some (.int .i8 a0_0) := (blk_cell BK351.out 0).trans rfl; have hcz13_1 : w6.cell? ⟨gb351, 1, none⟩ = some (.int .i8 a0_1) := (blk_cell BK351.out 1).trans rfl; have hfz13_0 := blk_frozen BK351.out 0; have hfz13_1 := blk_frozen BK351.out 1))
 go_loopg [6] k (fun kq v6 w' => ∃ (x6_1 : Int) (x355000_1 : Int) (x355001_1 : Int), v6 = .int .i8 x6_1 ∧ Aside0 (netlabref02_two.l0 kq x6_1 a0_0 a0_1 a1_0 a1_1 x355000_1 x355001_1 = some (r1, r2)) ∧ Aside0 (kq ≤ k) ∧ Aside0 (w'.heap[gb351]? = some (.cells #[.int .i8 a0_0, .int .i8 a0_1] 25 (0, 0))) ∧ Aside0 (w'.heap[gb352]? = some (.cells #[.int .i8 a1_0, .int .i8 a1_1] 25 (0, 0))) ∧ Aside0 (w'.heap[gb353]? = some (.cells #[.int .i8 0, .int .i8 0] 25 (0, 0))) ∧ Aside0 (w'.heap[gb354]? = some (.cells #[.int .i8 x355000_1, .int .i8 x355001_1] 25 (0, 0))) ∧ Aside0 (Below w.heap.size w w'))
 case atStart => exact ⟨(a0_0), (7), ((-7)), (by first | rfl | (simp; done) | (simp [*]; done)), H', ⟨Nat.le_refl _⟩, ⟨by (with_reducible repeat first | apply bN | apply bD | apply bA); refine blk_far ?_ NB351_354.out _; (with_reducible repeat first | apply bN | apply bD | apply bA); refine blk_far ?_ NB351_354.out _; (with_reducible repeat first | apply bN | apply bD | apply bA); exact BK351.out⟩, ⟨by (with_reducible repeat first | apply bN | apply bD | apply bA); refine blk_far ?_ NB352_354.out _; (with_reducible repeat first | apply bN | apply bD | apply bA); refine blk_far ?_ NB352_354.out _; (with_reducible repeat first | apply bN | apply bD | apply bA); exact BK352.out⟩, ⟨by (with_reducible repeat first | apply bN | apply bD | apply bA); refine blk_far ?_ NB353_354.out _; (with_reducible repeat first | apply bN | apply bD | apply bA); refine blk_far ?_ NB353_354.out _; (with_reducible repeat first | apply bN | apply bD | apply bA); exact BK353.out⟩, ⟨by (with_reducible repeat first | apply bN | apply bD | apply bA); refine blk_put (cs := #[.int .i8 7, .int .i8 0]) ?_ 1 _ rfl; (with_reducible repeat first | apply bN | apply bD | apply bA); refine blk_put (cs := #[.int .i8 0, .int .i8 0]) ?_ 0 _ rfl; (with_reducible repeat first | apply bN | apply bD | apply bA); exact BK354.out⟩, ⟨by repeat (first | (with_reducible first | exact HB.out | apply below_alloc | apply pw_below_drewN | apply below_drew1 | refine below_set ?_ GE351.out | refine below_set ?_ GE352.out | refine below_set ?_ GE353.out | refine below_set ?_ GE354.out) | exact HB.out)⟩⟩
 case round =>
  clear H'
  try clear c1
  try clear p2
  try clear c3
  try clear c7
  try clear c8
  try clear c9
  try clear c11
  try clear c12
  try clear hcz10_0
  try clear hcz10_1
  try clear hcz13_0
  try clear hcz13_1
  try clear hfz10_0
  try clear hfz10_1
  try clear hfz13_0
  try clear hfz13_1
  obtain ⟨x6_1, x355000_1, x355001_1, rfl, HA, HK1, BK351, BK352, BK353, BK354, HB⟩ := hrel
  cases gk with
  | zero => exact absurd HA.out (by simp [netlabref02_two.l0])
  | succ k1 =>
   have H := HA.out
   clear HA
   simp only [netlabref02_two.l0] at H
   by_cases c14 : x6_1 ≤ a0_1
   ·rw [if_pos c14] at H
    have c14b0 : decide (x6_1 ≤ a0_1) = true := decide_eq_true c14
    clear c14
    have H' := Aside0.mk H
    clear H
    have hnb15 := NB351_352.out
    have hnc15 := NB352_351.out
    have hnb16 := NB351_353.out
    have hnc16 := NB353_351.out
    have hnb17 := NB351_354.out
    have hnc17 := NB354_351.out
    have hcz18_0 : wr.cell? ⟨gb351, 0, none⟩ = some (.int .i8 a0_0) := (blk_cell BK351.out 0).trans rfl
    have hcz18_1 : wr.cell? ⟨gb351, 1, none⟩ = some (.int .i8 a0_1) := (blk_cell BK351.out 1).trans rfl
    have hfz18_0 := blk_frozen BK351.out 0
    have hfz18_1 := blk_frozen BK351.out 1
    have hnb19 := NB352_353.out
    have hnc19 := NB353_352.out
    have hnb20 := NB352_354.out
    have hnc20 := NB354_352.out
    have hcz21_0 : wr.cell? ⟨gb352, 0, none⟩ = some (.int .i8 a1_0) := (blk_cell BK352.out 0).trans rfl
    have hcz21_1 : wr.cell? ⟨gb352, 1, none⟩ = some (.int .i8 a1_1) := (blk_cell BK352.out 1).trans rfl
    have hfz21_0 := blk_frozen BK352.out 0
    have hfz21_1 := blk_frozen BK352.out 1
    go_wp2
    go_loopg [7] k1 (fun kq v7 w' => ∃ (x7_2 : Int) (x355000_2 : Int) (x355001_2 : Int), v7 = .int .i8 x7_2 ∧ Aside0 (netlabref02_two.l1 kq x6_1 x7_2 a0_0 a0_1 a1_0 a1_1 x355000_2 x355001_2 = some (r1, r2)) ∧ Aside0 (kq ≤ k1) ∧ Aside0 (w'.heap[gb351]? = some (.cells #[.int .i8 a0_0, .int .i8 a0_1] 25 (0, 0))) ∧ Aside0 (w'.heap[gb352]? = some (.cells #[.int .i8 a1_0, .int .i8 a1_1] 25 (0, 0))) ∧ Aside0 (w'.heap[gb353]? = some (.cells #[.int .i8 0, .int .i8 0] 25 (0, 0))) ∧ Aside0 (w'.heap[gb354]? = some (.cells #[.int .i8 x355000_2, .int .i8 x355001_2] 25 (0, 0))) ∧ Aside0 (Below w.heap.size w w'))
    case atStart => exact ⟨(a1_0), (x355000_1), (x355001_1), (by first | rfl | (simp; done) | (simp [*]; done)), H', ⟨Nat.le_refl _⟩, ⟨by (with_reducible repeat first | apply bN | apply bD | apply bA); exact BK351.out⟩, ⟨by (with_reducible repeat first | apply bN | apply bD | apply bA); exact BK352.out⟩, ⟨by (with_reducible repeat first | apply bN | apply bD | apply bA); exact BK353.out⟩, ⟨by (with_reducible repeat first | apply bN | apply bD | apply bA); exact BK354.out⟩, ⟨by repeat (first | (with_reducible first | exact HB.out | apply below_alloc | apply pw_below_drewN | apply below_drew1 | refine below_set ?_ GE351.out | refine below_set ?_ GE352.out | refine below_set ?_ GE353.out | refine below_set ?_ GE354.out) | exact HB.out)⟩⟩
    case round =>
     clear H'
     try clear c1
     try clear c2
     try clear p2
     try clear c3
     try clear c7
     try clear c8
     try clear c9
     try clear c11
     try clear c12
     try clear c14
     try clear c14b0
     try clear c15
     try clear c16
     try clear c17
     try clear c19
     try clear c20
     try clear hcz10_0
     try clear hcz10_1
     try clear hcz13_0
     try clear hcz13_1
     try clear hcz18_0
     try clear hcz18_1
     try clear hcz21_0
     try clear hcz21_1
     try clear hfz10_0
     try clear hfz10_1
     try clear hfz13_0
     try clear hfz13_1
     try clear hfz18_0
     try clear hfz18_1
     try clear hfz21_0
     try clear hfz21_1
     try clear p2
     obtain ⟨x7_2, x355000_2, x355001_2, rfl, HA, HK2, BK351, BK352, BK353, BK354, HB⟩ := hrel
     cases gk with
     | zero => exact absurd HA.out (by simp [netlabref02_two.l1])
     | succ k2 =>
      have H := HA.out
      clear HA
      simp only [netlabref02_two.l1] at H
      by_cases c22 : x7_2 ≤ a1_1
      ·rw [if_pos c22] at H
       have c22b0 : decide (x7_2 ≤ a1_1) = true := decide_eq_true c22
       clear c22
       replace H := Option.bind_eq_some_iff.mp H
       obtain ⟨t355, A230, H⟩ := H
       replace H : (netlabref02_two.l2 k2 x6_1 x7_2 t355 0 a0_0 a0_1 a1_0 a1_1 x355000_2 x355001_2) = some (r1, r2) := H
       have A23 := Aside0.mk A230
       clear A230
       have H' := Aside0.mk H
       clear H
       have hnb24 := NB352_351.out
       have hnc24 := NB351_352.out
       have hnb25 := NB352_353.out
       have hnc25 := NB353_352.out
       have hnb26 := NB352_354.out
       have hnc26 := NB354_352.out
       have hcz27_0 : wr.cell? ⟨gb352, 0, none⟩ = some (.int .i8 a1_0) := (blk_cell BK352.out 0).trans rfl
       have hcz27_1 : wr.cell? ⟨gb352, 1, none⟩ = some (.int .i8 a1_1) := (blk_cell BK352.out 1).trans rfl
       have hfz27_0 := blk_frozen BK352.out 0
       have hfz27_1 := blk_frozen BK352.out 1
       go_wp2_with (first | ((with_reducible refine gate_callee (f := 32) rfl ?_); refine goesL_ (some 29) rfl rfl Tryd.func32 (by kernel_rfl) rfl #[.int .i8 x6_1, .int .i8 x7_2] rfl (by (try simp only [List.map_toArray, List.map_cons, List.map_nil]); first | done | rfl | (simp only [List.length_drop, List.length_take]; rfl)) ?_; (with_reducible refine (netlabref02_Levels.calls k2 x6_1 x7_2 t355 _ A23.out).mono ?_); rintro e w28 ⟨v356, rfl, ho0, hb⟩; refine ⟨_, rfl, ?_⟩; have n0_ := Aside0.mk (Kd.R_lower ho0 (below_size (by repeat (first | (with_reducible first | exact HB.out | apply below_alloc | apply pw_below_drewN | apply below_drew1 | refine below_set ?_ GE351.out | refine below_set ?_ GE352.out | refine below_set ?_ GE353.out | refine below_set ?_ GE354.out) | exact HB.out)))); have n1_ := Aside0.mk (blk_below (g := gb351) (o := .cells #[.int .i8 a0_0, .int .i8 a0_1] 25 (0, 0)) (by (with_reducible repeat first | apply bN | apply bD | apply bA); exact BK351.out) hb); have n2_ := Aside0.mk (blk_below (g := gb352) (o := .cells #[.int .i8 a1_0, .int .i8 a1_1] 25 (0, 0)) (by (with_reducible repeat first | apply bN | apply bD | apply bA); exact BK352.out) hb); have n3_ := Aside0.mk (blk_below (g := gb353) (o := .cells #[.int .i8 0, .int .i8 0] 25 (0, 0)) (by (with_reducible repeat first | apply bN | apply bD | apply bA); exact BK353.out) hb); have n4_ := Aside0.mk (blk_below (g := gb354) (o := .cells #[.int .i8 x355000_2, .int .i8 x355001_2] 25 (0, 0)) (by (with_reducible repeat first | apply bN | apply bD | apply bA); exact BK354.out) hb); have n5_ := Aside0.mk (below_step (by repeat (first | (with_reducible first | exact HB.out | apply below_alloc | apply pw_below_drewN | apply below_drew1 | refine below_set ?_ GE351.out | refine below_set ?_ GE352.out | refine below_set ?_ GE353.out | refine below_set ?_ GE354.out) | exact HB.out)) hb); clear BK351; clear BK352; clear BK353; clear BK354; clear HB; have HO357 := n0_; have BK351 := n1_; have BK352 := n2_; have BK353 := n3_; have BK354 := n4_; have HB := n5_; clear n0_ n1_ n2_ n3_ n4_ n5_; (try clear hb); (try clear hb2); (try clear hk); (try clear hi); (try clear ho0)))
       go_loopg [9] k2 (fun kq v9 w' => ∃ (x9_3 : Int) (x355000_3 : Int) (x355001_3 : Int), v9 = .int .i64 x9_3 ∧ Aside0 (netlabref02_two.l2 kq x6_1 x7_2 t355 x9_3 a0_0 a0_1 a1_0 a1_1 x355000_3 x355001_3 = some (r1, r2)) ∧ Aside0 (kq ≤ k2) ∧ Aside0 (Kd.R (Kd.int .i8) 23 w' w.heap.size (fun _ => True) v356 t355) ∧ Aside0 (w'.heap[gb351]? = some (.cells #[.int .i8 a0_0, .int .i8 a0_1] 25 (0, 0))) ∧ Aside0 (w'.heap[gb352]? = some (.cells #[.int .i8 a1_0, .int .i8 a1_1] 25 (0, 0))) ∧ Aside0 (w'.heap[gb353]? = some (.cells #[.int .i8 0, .int .i8 0] 25 (0, 0))) ∧ Aside0 (w'.heap[gb354]? = some (.cells #[.int .i8 x355000_3, .int .i8 x355001_3] 25 (0, 0))) ∧ Aside0 (Below w.heap.size w w'))
       case atStart => exact ⟨(0), (x355000_2), (x355001_2), (by first | rfl | (simp; done) | (simp [*]; done)), H', ⟨Nat.le_refl _⟩, ⟨by (with_reducible repeat (first | apply Kd.R_alloc | apply Kd.R_drewN | apply Kd.R_drew)); exact HO357.out⟩, ⟨by (with_reducible repeat first | apply bN | apply bD | apply bA); exact BK351.out⟩, ⟨by (with_reducible repeat first | apply bN | apply bD | apply bA); exact BK352.out⟩, ⟨by (with_reducible repeat first | apply bN | apply bD | apply bA); exact BK353.out⟩, ⟨by (with_reducible repeat first | apply bN | apply bD | apply bA); exact BK354.out⟩, ⟨by repeat (first | (with_reducible first | exact HB.out | apply below_alloc | apply pw_below_drewN | apply below_drew1 | refine below_set ?_ GE351.out | refine below_set ?_ GE352.out | refine below_set ?_ GE353.out | refine below_set ?_ GE354.out) | exact HB.out)⟩⟩
       case round =>
        clear H'
        try clear c1
        try clear c2
        try clear p2
        try clear c3
        try clear c7
        try clear c8
        try clear c9
        try clear c11
        try clear c12
        try clear c14
        try clear c14b0
        try clear c15
        try clear c16
        try clear c17
        try clear c19
        try clear c20
        try clear c22
        try clear c22b0
        try clear c24
        try clear c25
        try clear c26
        try clear hcz10_0
        try clear hcz10_1
        try clear hcz13_0
        try clear hcz13_1
        try clear hcz18_0
        try clear hcz18_1
        try clear hcz21_0
        try clear hcz21_1
        try clear hcz27_0
        try clear hcz27_1
        try clear hfz10_0
        try clear hfz10_1
        try clear hfz13_0
        try clear hfz13_1
        try clear hfz18_0
        try clear hfz18_1
        try clear hfz21_0
        try clear hfz21_1
        try clear hfz27_0
        try clear hfz27_1
        try clear p2
        obtain ⟨x9_3, x355000_3, x355001_3, rfl, HA, HK3, HO_8, BK351, BK352, BK353, BK354, HB⟩ := hrel
        cases gk with
        | zero => exact absurd HA.out (by simp [netlabref02_two.l2])
        | succ k3 =>
         have H := HA.out
         clear HA
         simp only [netlabref02_two.l2] at H
         by_cases c29 : x9_3 < (t355.length : Int)
         ·rw [if_pos c29] at H
          have c29b0 : decide (x9_3 < (t355.length : Int)) = true := decide_eq_true c29
          clear c29
          by_cases c30 : 0 ≤ x9_3
          ·rw [if_pos c30] at H
           have c30b0 : decide (0 ≤ x9_3) = true := decide_eq_true c30
           clear c30
           obtain ⟨ji31, hji31⟩ : ∃ j_ : Int, (mn x355000_3 (rd t355 x9_3)) = j_ := ⟨_, rfl⟩
           replace H : (netlabref02_two.l2 k3 x6_1 x7_2 t355 (wrap64 (x9_3 + 1)) a0_0 a0_1 a1_0 a1_1 ji31 (mx x355001_3 (rd t355 x9_3))) = some (r1, r2) := by first | (rw [hji31] at H; exact H) | (simp only [hji31] at H ⊢; exact H)
           have hji31_ : (if (rd t355 x9_3) < x355000_3 then (rd t355 x9_3) else x355000_3) = ji31 := hji31
           obtain ⟨ji32, hji32⟩ : ∃ j_ : Int, (mx x355001_3 (rd t355 x9_3)) = j_ := ⟨_, rfl⟩
           replace H : (netlabref02_two.l2 k3 x6_1 x7_2 t355 (wrap64 (x9_3 + 1)) a0_0 a0_1 a1_0 a1_1 ji31 ji32) = some (r1, r2) := by first | (rw [hji32] at H; exact H) | (simp only [hji32] at H ⊢; exact H)
           have hji32_ : (if x355001_3 < (rd t355 x9_3) then (rd t355 x9_3) else x355001_3) = ji32 := hji32
           have H' := Aside0.mk H
           clear H
           obtain ⟨Ao33, co33, eo33⟩ := Kd.R_slice HO_8.out
           subst eo33
           try go_wp2
           have n0_ := Aside0.mk (Kd.R_drew HO_8.out)
           have n1_ := Aside0.mk (blk_drew BK351.out)
           have n2_ := Aside0.mk (blk_drew BK352.out)
           have n3_ := Aside0.mk (blk_drew BK353.out)
           have n4_ := Aside0.mk (blk_drew BK354.out)
           have n5_ := Aside0.mk (below_drew1 HB.out)
           clear HO_8
           clear BK351
           clear BK352
           clear BK353
           clear BK354
           clear HB
           have HO_8 := n0_
           have BK351 := n1_
           have BK352 := n2_
           have BK353 := n3_
           have BK354 := n4_
           have HB := n5_
           clear n0_ n1_ n2_ n3_ n4_ n5_
           have p358 : 0 ≤ (x9_3 : Int) := of_decide_eq_true (by first | (with_reducible assumption) | assumption)
           have q358 : x9_3 < (t355.length : Int) := of_decide_eq_true (by first | (with_reducible assumption) | assumption)
           obtain ⟨ad358, e358, hx358_0⟩ := Kd.at_int (Kd.R_reads' HO_8.out).2.2 x9_3 p358 q358
           cases e358
           replace p358 := eq_true p358
           replace q358 := eq_true q358
           have p359 : 0 ≤ (x9_3 : Int) := of_decide_eq_true (by first | (with_reducible assumption) | assumption)
           have q359 : x9_3 < (t355.length : Int) := of_decide_eq_true (by first | (with_reducible assumption) | assumption)
           obtain ⟨ad359, e359, hx359_0⟩ := Kd.at_int (Kd.R_reads' HO_8.out).2.2 x9_3 p359 q359
           obtain rfl : ad358 = ad359 := (by injection e359)
           replace p359 := eq_true p359
           replace q359 := eq_true q359
           refine start_ (n := 16) (S := fun w' => w'.cell? ⟨gb354, 0, none⟩ = some (.int .i8 x355000_3) ∧ w'.cell? ⟨gb354, 1, none⟩ = some (.int .i8 x355001_3) ∧ w'.cell? (ad358.add (x9_3).toNat) = some (.int .i8 (rd t355 x9_3)) ∧ w'.cell? (ad358.add (x9_3).toNat) = some (.int .i8 (rd t355 x9_3))) (ds := [15]) #[false, false, false, false, false, false, false, false, false, false, false, false, false, false, false, false] (by kernel_rfl) rfl rfl ⟨(blk_cell BK354.out 0).trans rfl, (blk_cell BK354.out 1).trans rfl, hx358_0, hx359_0⟩ (fun hHeld => ?_); refine with_tabW netlabref02_two.tab12 netlabref02_two.bits12 (fun HT_ HW_ => ?_)
           generalize wr.drew = w34 at HO_8 BK351 BK352 BK353 BK354 HB hx358_0 hx359_0 hHeld ⊢
           refine pure_ (i := 0) (N := some 36) (v := ?_) (a' := ?_) #[true, false, false, false, false, false, false, false, false, false, false, false, false, false, false, false] rfl rfl (any_of HT_.out (by kernel_rfl)) (fun _ _ _ h => h) (Or.inl ⟨by rfl, ?_⟩) ?_ ?_
           rotate_left
           ·intro w'
            go_simp
            with_reducible rfl
           rotate_left
           ·simp only [Act.put, List.setIfInBounds_toArray, List.set_cons_zero, List.set_cons_succ, i64_w, i32_w]
            rfl
           refine pure_ (i := 2) (N := some 38) (v := ?_) (a' := ?_) #[true, false, true, false, false, false, false, false, false, false, false, false, false, false, false, false] rfl rfl (any_of HT_.out (by kernel_rfl)) (fun _ _ _ h => h) (Or.inl ⟨by rfl, ?_⟩) ?_ ?_
           rotate_left
           ·intro w'
            go_simp
            with_reducible rfl
           rotate_left
           ·simp only [Act.put, List.setIfInBounds_toArray, List.set_cons_zero, List.set_cons_succ, i64_w, i32_w]
            rfl
           refine pure_ (i := 3) (N := some 39) (v := ?_) (a' := ?_) #[true, false, true, true, false, false, false, false, false, false, false, false, false, false, false, false] rfl rfl (any_of HT_.out (by kernel_rfl)) (fun _ _ _ h => h) (Or.inl ⟨by rfl, ?_⟩) ?_ ?_
           rotate_left
           ·intro w'
            go_simp
            with_reducible rfl
           rotate_left
           ·simp only [Act.put, List.setIfInBounds_toArray, List.set_cons_zero, List.set_cons_succ, i64_w, i32_w]
            rfl
           refine pure_ (i := 4) (N := some 40) (v := ?_) (a' := ?_) #[true, false, true, true, true, false, false, false, false, false, false, false, false, false, false, false] rfl rfl (any_of HT_.out (by kernel_rfl)) (fun _ _ _ h => h) (Or.inl ⟨by rfl, ?_⟩) ?_ ?_
           rotate_left
           ·intro w'
            go_simp
            with_reducible rfl
           rotate_left
           ·simp only [Act.put, List.setIfInBounds_toArray, List.set_cons_zero, List.set_cons_succ, i64_w, i32_w]
            rfl
           refine pure_ (i := 7) (N := some 43) (v := ?_) (a' := ?_) #[true, false, true, true, true, false, false, true, false, false, false, false, false, false, false, false] rfl rfl (any_of HT_.out (by kernel_rfl)) (fun _ _ _ h => h) (Or.inl ⟨by rfl, ?_⟩) ?_ ?_
           rotate_left
           ·intro w'
            go_simp
            with_reducible rfl
           rotate_left
           ·simp only [Act.put, List.setIfInBounds_toArray, List.set_cons_zero, List.set_cons_succ, i64_w, i32_w]
            rfl
           refine pure_ (i := 9) (N := some 45) (v := ?_) (a' := ?_) #[true, false, true, true, true, false, false, true, false, true, false, false, false, false, false, false] rfl rfl (any_of HT_.out (by kernel_rfl)) (fun _ _ _ h => h) (Or.inl ⟨by rfl, ?_⟩) ?_ ?_
           rotate_left
           ·intro w'
            go_simp
            with_reducible rfl
           rotate_left
           ·simp only [Act.put, List.setIfInBounds_toArray, List.set_cons_zero, List.set_cons_succ, i64_w, i32_w]
            rfl
           refine pure_ (i := 10) (N := some 46) (v := ?_) (a' := ?_) #[true, false, true, true, true, false, false, true, false, true, true, false, false, false, false, false] rfl rfl (any_of HT_.out (by kernel_rfl)) (fun _ _ _ h => h) (Or.inl ⟨by rfl, ?_⟩) ?_ ?_
           rotate_left
           ·intro w'
            go_simp
            with_reducible rfl
           rotate_left
           ·simp only [Act.put, List.setIfInBounds_toArray, List.set_cons_zero, List.set_cons_succ, i64_w, i32_w]
            rfl
           refine pure_ (i := 11) (N := some 47) (v := ?_) (a' := ?_) #[true, false, true, true, true, false, false, true, false, true, true, true, false, false, false, false] rfl rfl (any_of HT_.out (by kernel_rfl)) (fun _ _ _ h => h) (Or.inl ⟨by rfl, ?_⟩) ?_ ?_
           rotate_left
           ·intro w'
            go_simp
            with_reducible rfl
           rotate_left
           ·simp only [Act.put, List.setIfInBounds_toArray, List.set_cons_zero, List.set_cons_succ, i64_w, i32_w]
            rfl
           refine take_ (i := 1) (N := some 37) (v := ?_) (a' := ?_) #[true, true, true, true, true, false, false, true, false, true, true, true, false, false, false, false] rfl rfl (take_ofW HT_.out HW_.out (by kernel_rfl)) (fun _ _ _ h => h) (Or.inl ⟨by rfl, ?_⟩) hHeld ?_ ?_
           rotate_left
           ·rintro w' ⟨s0, s1, s2, s3⟩
            go_simp
            with_reducible rfl
           rotate_left
           ·simp only [Act.put, List.setIfInBounds_toArray, List.set_cons_zero, List.set_cons_succ, i64_w, i32_w]
            rfl
           refine take_ (i := 5) (N := some 41) (v := ?_) (a' := ?_) #[true, true, true, true, true, true, false, true, false, true, true, true, false, false, false, false] rfl rfl (take_ofW HT_.out HW_.out (by kernel_rfl)) (fun _ _ _ h => h) (Or.inl ⟨by rfl, ?_⟩) hHeld ?_ ?_
           rotate_left
           ·rintro w' ⟨s0, s1, s2, s3⟩
            go_simp
            with_reducible rfl
           rotate_left
           ·simp only [Act.put, List.setIfInBounds_toArray, List.set_cons_zero, List.set_cons_succ, i64_w, i32_w]
            rfl
           refine pure_ (i := 6) (N := some 42) (v := ?_) (a' := ?_) #[true, true, true, true, true, true, true, true, false, true, true, true, false, false, false, false] rfl rfl (any_of HT_.out (by kernel_rfl)) (fun _ _ _ h => h) (Or.inl ⟨by rfl, ?_⟩) ?_ ?_
           rotate_left
           ·intro w'
            go_simp
            with_reducible rfl
           rotate_left
           ·simp only [Act.put, List.setIfInBounds_toArray, List.set_cons_zero, List.set_cons_succ, i64_w, i32_w]
            rfl
           refine take_ (i := 8) (N := some 44) (v := ?_) (a' := ?_) #[true, true, true, true, true, true, true, true, true, true, true, true, false, false, false, false] rfl rfl (take_ofW HT_.out HW_.out (by kernel_rfl)) (fun _ _ _ h => h) (Or.inl ⟨by rfl, ?_⟩) hHeld ?_ ?_
           rotate_left
           ·rintro w' ⟨s0, s1, s2, s3⟩
            go_simp
            with_reducible rfl
           rotate_left
           ·simp only [Act.put, List.setIfInBounds_toArray, List.set_cons_zero, List.set_cons_succ, i64_w, i32_w]
            rfl
           refine take_ (i := 12) (N := some 48) (v := ?_) (a' := ?_) #[true, true, true, true, true, true, true, true, true, true, true, true, true, false, false, false] rfl rfl (take_ofW HT_.out HW_.out (by kernel_rfl)) (fun _ _ _ h => h) (Or.inl ⟨by rfl, ?_⟩) hHeld ?_ ?_
           rotate_left
           ·rintro w' ⟨s0, s1, s2, s3⟩
            go_simp
            with_reducible rfl
           rotate_left
           ·simp only [Act.put, List.setIfInBounds_toArray, List.set_cons_zero, List.set_cons_succ, i64_w, i32_w]
            rfl
           refine pure_ (i := 13) (N := some 49) (v := ?_) (a' := ?_) #[true, true, true, true, true, true, true, true, true, true, true, true, true, true, false, false] rfl rfl (any_of HT_.out (by kernel_rfl)) (fun _ _ _ h => h) (Or.inl ⟨by rfl, ?_⟩) ?_ ?_
           rotate_left
           ·intro w'
            go_simp
            with_reducible rfl
           rotate_left
           ·simp only [Act.put, List.setIfInBounds_toArray, List.set_cons_zero, List.set_cons_succ, i64_w, i32_w]
            rfl
           refine pure_ (i := 14) (N := some 50) (v := ?_) (a' := ?_) #[true, true, true, true, true, true, true, true, true, true, true, true, true, true, true, false] rfl rfl (any_of HT_.out (by kernel_rfl)) (fun _ _ _ h => h) (Or.inl ⟨by rfl, ?_⟩) ?_ ?_
           rotate_left
           ·intro w'
            go_simp
            with_reducible rfl
           rotate_left
           ·simp only [Act.put, List.setIfInBounds_toArray, List.set_cons_zero, List.set_cons_succ, i64_w, i32_w]
            rfl
           refine last_ (i := 15) (N := none) #[true, true, true, true, true, true, true, true, true, true, true, true, true, true, true, true] rfl rfl (one_of HT_.out (by kernel_rfl)) (by decide) (fun K hK => ?_)
           have hs35 : w34.cell? ⟨gb354, 0, none⟩ = some (.int .i8 x355000_3) := (blk_cell BK354.out 0).trans rfl
           have hfs35 := blk_frozen BK354.out 0
           have hns35_0 := NB351_354.out
           have hns35_1 := NB352_354.out
           have hns35_2 := NB353_354.out
           have hms35_0 := NB354_351.out
           have hms35_1 := NB354_352.out
           have hms35_2 := NB354_353.out
           have hs36 : w34.cell? ⟨gb354, 1, none⟩ = some (.int .i8 x355001_3) := (blk_cell BK354.out 1).trans rfl
           have hfs36 := blk_frozen BK354.out 1
           have hns36_0 := NB351_354.out
           have hns36_1 := NB352_354.out
           have hns36_2 := NB353_354.out
           have hms36_0 := NB354_351.out
           have hms36_1 := NB354_352.out
           have hms36_2 := NB354_353.out
           refine skip_ (w1 := ?_) (by rfl) rfl ?_ ?_
           rotate_left
           ·go_simp
            rfl
           refine hK.out _ _ ?_
           clear hK K
           refine done_ (done_of HT_.out (by kernel_rfl)) ?_
           try go_wp2
           go_roundg k3
           case measure => have := HK1.out; have := HK2.out; have := HK3.out; omega
           case rel => exact ⟨(wrap64 (x9_3 + 1)), (ji31), (ji32), (by first | rfl | (simp; done) | (simp [*]; done)), H', ⟨by have := HK1.out; have := HK2.out; have := HK3.out; omega⟩, ⟨by (with_reducible repeat (first | apply Kd.R_alloc | apply Kd.R_drewN | apply Kd.R_drew)); exact Kd.R_mono (Kd.R_far (p := ⟨gb354, 1, none⟩) (Kd.R_far (p := ⟨gb354, 0, none⟩) (Kd.R_types HO_8.out BK354.out (by decide)) (fun _ hk => hk.2) (.int .i8 ji31)) (fun _ hk => hk.2) (.int .i8 ji32)) (fun _ hk => trivial)⟩, ⟨by (with_reducible repeat first | apply bN | apply bD | apply bA); refine blk_far ?_ NB351_354.out _; (with_reducible repeat first | apply bN | apply bD | apply bA); refine blk_far ?_ NB351_354.out _; (with_reducible repeat first | apply bN | apply bD | apply bA); exact BK351.out⟩, ⟨by (with_reducible repeat first | apply bN | apply bD | apply bA); refine blk_far ?_ NB352_354.out _; (with_reducible repeat first | apply bN | apply bD | apply bA); refine blk_far ?_ NB352_354.out _; (with_reducible repeat first | apply bN | apply bD | apply bA); exact BK352.out⟩, ⟨by (with_reducible repeat first | apply bN | apply bD | apply bA); refine blk_far ?_ NB353_354.out _; (with_reducible repeat first | apply bN | apply bD | apply bA); refine blk_far ?_ NB353_354.out _; (with_reducible repeat first | apply bN | apply bD | apply bA); exact BK353.out⟩, ⟨by (with_reducible repeat first | apply bN | apply bD | apply bA); refine blk_put (cs := #[.int .i8 ji31, .int .i8 x355001_3]) ?_ 1 _ rfl; (with_reducible repeat first | apply bN | apply bD | apply bA); refine blk_put (cs := #[.int .i8 x355000_3, .int .i8 x355001_3]) ?_ 0 _ rfl; (with_reducible repeat first | apply bN | apply bD | apply bA); exact BK354.out⟩, ⟨by repeat (first | (with_reducible first | exact HB.out | apply below_alloc | apply pw_below_drewN | apply below_drew1 | refine below_set ?_ GE351.out | refine below_set ?_ GE352.out | refine below_set ?_ GE353.out | refine below_set ?_ GE354.out) | exact HB.out)⟩⟩
          ·rw [if_neg c30] at H
           exact absurd H (by simp)
         ·rw [if_neg c29] at H
          have c29b0 : decide (x9_3 < (t355.length : Int)) = false := decide_eq_false c29
          clear c29
          have H' := Aside0.mk H
          clear H
          obtain ⟨Ao37, co37, eo37⟩ := Kd.R_slice HO_8.out
          subst eo37
          go_wp2
          go_roundg k3
          case measure => have := HK1.out; have := HK2.out; have := HK3.out; omega
          case rel => exact ⟨(IntKind.i8.wrap (x7_2 + 1)), (x355000_3), (x355001_3), (by first | rfl | (simp; done) | (simp [*]; done)), H', ⟨by have := HK1.out; have := HK2.out; have := HK3.out; omega⟩, ⟨by (with_reducible repeat first | apply bN | apply bD | apply bA); exact BK351.out⟩, ⟨by (with_reducible repeat first | apply bN | apply bD | apply bA); exact BK352.out⟩, ⟨by (with_reducible repeat first | apply bN | apply bD | apply bA); exact BK353.out⟩, ⟨by (with_reducible repeat first | apply bN | apply bD | apply bA); exact BK354.out⟩, ⟨by repeat (first | (with_reducible first | exact HB.out | apply below_alloc | apply pw_below_drewN | apply below_drew1 | refine below_set ?_ GE351.out | refine below_set ?_ GE352.out | refine below_set ?_ GE353.out | refine below_set ?_ GE354.out) | exact HB.out)⟩⟩
      ·rw [if_neg c22] at H
       have c22b0 : decide (x7_2 ≤ a1_1) = false := decide_eq_false c22
       clear c22
       have H' := Aside0.mk H
       clear H
       have hnb38 := NB352_351.out
       have hnc38 := NB351_352.out
       have hnb39 := NB352_353.out
       have hnc39 := NB353_352.out
       have hnb40 := NB352_354.out
       have hnc40 := NB354_352.out
       have hcz41_0 : wr.cell? ⟨gb352, 0, none⟩ = some (.int .i8 a1_0) := (blk_cell BK352.out 0).trans rfl
       have hcz41_1 : wr.cell? ⟨gb352, 1, none⟩ = some (.int .i8 a1_1) := (blk_cell BK352.out 1).trans rfl
       have hfz41_0 := blk_frozen BK352.out 0
       have hfz41_1 := blk_frozen BK352.out 1
       go_wp2
       go_roundg k2
       case measure => have := HK1.out; have := HK2.out; omega
       case rel => exact ⟨(IntKind.i8.wrap (x6_1 + 1)), (x355000_2), (x355001_2), (by first | rfl | (simp; done) | (simp [*]; done)), H', ⟨by have := HK1.out; have := HK2.out; omega⟩, ⟨by (with_reducible repeat first | apply bN | apply bD | apply bA); exact BK351.out⟩, ⟨by (with_reducible repeat first | apply bN | apply bD | apply bA); exact BK352.out⟩, ⟨by (with_reducible repeat first | apply bN | apply bD | apply bA); exact BK353.out⟩, ⟨by (with_reducible repeat first | apply bN | apply bD | apply bA); exact BK354.out⟩, ⟨by repeat (first | (with_reducible first | exact HB.out | apply below_alloc | apply pw_below_drewN | apply below_drew1 | refine below_set ?_ GE351.out | refine below_set ?_ GE352.out | refine below_set ?_ GE353.out | refine below_set ?_ GE354.out) | exact HB.out)⟩⟩
   ·rw [if_neg c14] at H
    have c14b0 : decide (x6_1 ≤ a0_1) = false := decide_eq_false c14
    clear c14
    simp only [Option.some.injEq, Prod.mk.injEq] at H
    obtain ⟨rfl, rfl⟩ := H
    have hnb42 := NB351_352.out
    have hnc42 := NB352_351.out
    have hnb43 := NB351_353.out
    have hnc43 := NB353_351.out
    have hnb44 := NB351_354.out
    have hnc44 := NB354_351.out
    have hcz45_0 : wr.cell? ⟨gb351, 0, none⟩ = some (.int .i8 a0_0) := (blk_cell BK351.out 0).trans rfl
    have hcz45_1 : wr.cell? ⟨gb351, 1, none⟩ = some (.int .i8 a0_1) := (blk_cell BK351.out 1).trans rfl
    have hfz45_0 := blk_frozen BK351.out 0
    have hfz45_1 := blk_frozen BK351.out 1
    have hnb46 := NB354_352.out
    have hnc46 := NB352_354.out
    have hnb47 := NB354_353.out
    have hnc47 := NB353_354.out
    have hcz48_0 : wr.cell? ⟨gb354, 0, none⟩ = some (.int .i8 x355000_1) := (blk_cell BK354.out 0).trans rfl
    have hcz48_1 : wr.cell? ⟨gb354, 1, none⟩ = some (.int .i8 x355001_1) := (blk_cell BK354.out 1).trans rfl
    have hfz48_0 := blk_frozen BK354.out 0
    have hfz48_1 := blk_frozen BK354.out 1
    have hnb49 := NB353_352.out
    have hnc49 := NB352_353.out
    have hcz50_0 : wr.cell? ⟨gb353, 0, none⟩ = some (.int .i8 0) := (blk_cell BK353.out 0).trans rfl
    have hcz50_1 : wr.cell? ⟨gb353, 1, none⟩ = some (.int .i8 0) := (blk_cell BK353.out 1).trans rfl
    have hfz50_0 := blk_frozen BK353.out 0
    have hfz50_1 := blk_frozen BK353.out 1
    go_wp2
    refine bodyPost_ret (results_cell_row rfl _ _ gb353 25 #[.int .i8 x355000_1, .int .i8 x355001_1] (0, 0) _ rfl (by (with_reducible repeat first | apply bN | apply bD | apply bA); refine blk_put (cs := #[.int .i8 x355000_1, .int .i8 0]) ?_ 1 _ rfl; (with_reducible repeat first | apply bN | apply bD | apply bA); refine blk_put (cs := #[.int .i8 0, .int .i8 0]) ?_ 0 _ rfl; (with_reducible repeat first | apply bN | apply bD | apply bA); exact BK353.out) Tryd.underlying25 rfl (by kernel_rfl)) rfl ?_
    exact ⟨by first | rfl | (simp [errW_none, errW_some] <;> rfl) | (simp [*, errW_none, errW_some] <;> rfl), by repeat (first | (with_reducible first | exact HB.out | apply below_alloc | apply pw_below_drewN | apply below_drew1 | refine below_set ?_ GE351.out | refine below_set ?_ GE352.out | refine below_set ?_ GE353.out | refine below_set ?_ GE354.out) | exact HB.out)⟩

end Go.Proofs.YtcgckodhehnpnaaDoor.F
