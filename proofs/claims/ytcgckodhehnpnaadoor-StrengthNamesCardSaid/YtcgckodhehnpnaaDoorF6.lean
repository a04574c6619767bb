-- Written by a program of this session (wip/tools/drive.py) over the kit's print.py.
import Derived.Test.YtcgckodhehnpnaaDoorF0
import Derived.Test.YtcgckodhehnpnaaDoorF2
import Derived.Test.YtcgckodhehnpnaaDoorF3
import Derived.Test.YtcgckodhehnpnaaDoorF5
namespace Go.Proofs.YtcgckodhehnpnaaDoor.F
open Go.RowKit Go.Proofs.YtcgckodhehnpnaaDoorW.PrintWords Go.Proofs.YtcgckodhehnpnaaDoorW.PrintLast Go.Proofs.YtcgckodhehnpnaaDoorW.PrintMore
attribute [local go_sem] max2_int min2_int max_two min_two max_three min_three max_four min_four   -- for this text's walks alone
set_option linter.unusedVariables false
set_option linter.unusedSimpArgs false

attribute [local go_sem high] eqA26
/-! ### strength_pair: function 38 -/
mutual
def strength_pair.l0 : Nat → Int → Int → Int → Int → Int → Int → Int → Option (Int × Int)
 | 0, _, _, _, _, _, _, _ => none
 | k + 1, x6, x136000, x136001, x137000, x137001, x143000, x143001 => if x6 ≤ x136001 then (strength_pair.l1 k x6 x137000 x136000 x136001 x137000 x137001 x143000 x143001) else (some (x143000, x143001))
def strength_pair.l1 : Nat → Int → Int → Int → Int → Int → Int → Int → Int → Option (Int × Int)
 | 0, _, _, _, _, _, _, _, _ => none
 | k + 1, x6, x7, x136000, x136001, x137000, x137001, x143000, x143001 => if x7 ≤ x137001 then ((strength_meet.f x6 x7).bind fun bt143 => ((strength_join.f x143000 x143001 bt143.1 bt143.2).bind fun bt145 => (strength_pair.l1 k x6 (IntKind.i8.wrap (x7 + 1)) x136000 x136001 x137000 x137001 bt145.1 bt145.2))) else (strength_pair.l0 k (IntKind.i8.wrap (x6 + 1)) x136000 x136001 x137000 x137001 x143000 x143001)
end
def strength_pair.f (k : Nat) (a0_0 : Int) (a0_1 : Int) (a1_0 : Int) (a1_1 : Int) : Option (Int × Int) := (strength_level.f 0).bind fun bt138 => (if (a0_0 == bt138.1 && (a0_1 == bt138.2)) = true then (some (a1_0, a1_1)) else ((strength_meet.f a0_0 a1_0).bind fun bt140 => (strength_pair.l0 k a0_0 a0_0 a0_1 a1_0 a1_1 bt140.1 bt140.2)))
theorem strength_pair.mono_l : ∀ k, (∀ y0 y1 y2 y3 y4 y5 y6, LeO (strength_pair.l0 k y0 y1 y2 y3 y4 y5 y6) (strength_pair.l0 (k + 1) y0 y1 y2 y3 y4 y5 y6)) ∧ (∀ y0 y1 y2 y3 y4 y5 y6 y7, LeO (strength_pair.l1 k y0 y1 y2 y3 y4 y5 y6 y7) (strength_pair.l1 (k + 1) y0 y1 y2 y3 y4 y5 y6 y7))
 | 0 => ⟨fun _ _ _ _ _ _ _ r h => by simp [strength_pair.l0] at h, fun _ _ _ _ _ _ _ _ r h => by simp [strength_pair.l1] at h⟩
 | k + 1 => by
  obtain ⟨ih0, ih1⟩ := strength_pair.mono_l k
  refine ⟨?_, ?_⟩
  ·intro y0 y1 y2 y3 y4 y5 y6
   unfold strength_pair.l0
   repeat' first
   | (with_reducible exact ih0 _ _ _ _ _ _ _)
   | (with_reducible exact ih1 _ _ _ _ _ _ _ _)
   | (with_reducible exact LeO.refl _)
   | (with_reducible exact LeO.none _)
   | (with_reducible refine LeO.ite ?_ ?_)
   | (with_reducible refine LeO.bind ?_ (fun _ => ?_))
   | exact ih0 _ _ _ _ _ _ _
   | exact ih1 _ _ _ _ _ _ _ _
   | exact LeO.none _
   | refine LeO.ite ?_ ?_
   | refine LeO.bind ?_ (fun _ => ?_)
  ·intro y0 y1 y2 y3 y4 y5 y6 y7
   unfold strength_pair.l1
   repeat' first
   | (with_reducible exact ih0 _ _ _ _ _ _ _)
   | (with_reducible exact ih1 _ _ _ _ _ _ _ _)
   | (with_reducible exact LeO.refl _)
   | (with_reducible exact LeO.none _)
   | (with_reducible refine LeO.ite ?_ ?_)
   | (with_reducible refine LeO.bind ?_ (fun _ => ?_))
   | exact ih0 _ _ _ _ _ _ _
   | exact ih1 _ _ _ _ _ _ _ _
   | exact LeO.none _
   | refine LeO.ite ?_ ?_
   | refine LeO.bind ?_ (fun _ => ?_)
theorem strength_pair.mono : ∀ a0 a1 a2 a3 k, LeO (strength_pair.f k a0 a1 a2 a3) (strength_pair.f (k + 1) a0 a1 a2 a3) := by
 intro a0 a1 a2 a3 k
 obtain ⟨ih0, ih1⟩ := strength_pair.mono_l k
 unfold strength_pair.f
 repeat' first
   | (with_reducible exact ih0 _ _ _ _ _ _ _)
   | (with_reducible exact ih1 _ _ _ _ _ _ _ _)
   | (with_reducible exact LeO.refl _)
   | (with_reducible exact LeO.none _)
   | (with_reducible refine LeO.ite ?_ ?_)
   | (with_reducible refine LeO.bind ?_ (fun _ => ?_))
   | exact ih0 _ _ _ _ _ _ _
   | exact ih1 _ _ _ _ _ _ _ _
   | exact LeO.none _
   | refine LeO.ite ?_ ?_
   | refine LeO.bind ?_ (fun _ => ?_)
set_option maxHeartbeats 8000000 in
set_option maxRecDepth 100000 in
theorem strength_pair.calls (k : Nat) (a0_0 : Int) (a0_1 : Int) (a1_0 : Int) (a1_1 : Int) (r1 : Int) (r2 : Int) (w : World) (h : strength_pair.f k a0_0 a0_1 a1_0 a1_1 = some (r1, r2)) :
  Calls Tryd.prog 38 #[.agg #[.int .i8 a0_0, .int .i8 a0_1], .agg #[.int .i8 a1_0, .int .i8 a1_1]] w fun e w' => e = .returned (.agg #[.int .i8 r1, .int .i8 r2]) ∧ Below w.heap.size w w' := by
 have hu26 := Tryd.underlying26
 have HB := Aside0.mk (Below.refl w.heap.size w)
 have H : ((strength_level.f 0).bind fun bt138 => (if (a0_0 == bt138.1 && (a0_1 == bt138.2)) = true then (some (a1_0, a1_1)) else ((strength_meet.f a0_0 a1_0).bind fun bt140 => (strength_pair.l0 k a0_0 a0_0 a0_1 a1_0 a1_1 bt140.1 bt140.2)))) = some (r1, r2) := h
 clear h
 replace H := Option.bind_eq_some_iff.mp H
 obtain ⟨⟨t138, t139⟩, A30, H⟩ := H
 replace H : (if (a0_0 == t138 && (a0_1 == t139)) = true then (some (a1_0, a1_1)) else ((strength_meet.f a0_0 a1_0).bind fun bt140 => (strength_pair.l0 k a0_0 a0_0 a0_1 a1_0 a1_1 bt140.1 bt140.2))) = some (r1, r2) := H
 have A3 := Aside0.mk A30
 clear A30
 by_cases c4 : (a0_0 == t138 && (a0_1 == t139)) = true
 ·rw [if_pos c4] at H
  have c4b0 : (a0_0 == t138 && (a0_1 == t139)) = true := c4
  (try (have c4b1 : decide (a0_0 = t138 && (a0_1 == t139)) = true := by simpa using c4))
  (try (have c4b2 : (a0_0 == t138 && (a0_1 == t139)) = true := by simpa using c4))
  clear c4
  simp only [Option.some.injEq, Prod.mk.injEq] at H
  obtain ⟨rfl, rfl⟩ := H
  go_enter Tryd.func38, Tryd.ntmps38
  try go_wp2_with (first | ((with_reducible refine gate_dst (N := 2) rfl ?_); refine box_event ?hg (N := 2) ?hd (cs := #[.int .i8 a0_0, .int .i8 a0_1]) (t := 26) ?hr ?_; (case hd => rfl); (case hg => rfl); (case hr => first | (go_simp; done) | (go_simp; rfl)); intro gb135 hg w5 hbox hb; have n0_ := Aside0.mk (below_step (by repeat (first | (with_reducible first | exact HB.out | apply below_alloc | apply pw_below_drewN | apply below_drew1) | exact HB.out)) hb); have n1_ := Aside0.mk (hbox); have n2_ := Aside0.mk ((by rw [hg]; exact (below_size (by repeat (first | (with_reducible first | exact HB.out | apply below_alloc | apply pw_below_drewN | apply below_drew1) | exact HB.out))) : w.heap.size ≤ gb135)); have n3_ := Aside0.mk ((by rw [hg]; exact (below_size (by repeat (first | (with_reducible first | exact HB.out | apply below_alloc | apply pw_below_drewN | apply below_drew1) | exact HB.out))) : w.heap.size ≤ gb135)); clear HB; have HB := n0_; have BK135 := n1_; have GW135 := n2_; have GE135 := n3_; clear n0_ n1_ n2_ n3_; clear hb hbox hg) | ((with_reducible refine gate_dst (N := 3) rfl ?_); refine box_event ?hg (N := 3) ?hd (cs := #[.int .i8 a1_0, .int .i8 a1_1]) (t := 26) ?hr ?_; (case hd => rfl); (case hg => rfl); (case hr => first | (go_simp; done) | (go_simp; rfl)); intro gb136 hg w6 hbox hb; have n0_ := Aside0.mk (blk_below (g := gb135) (o := .cells #[.int .i8 a0_0, .int .i8 a0_1] 26 (0, 0)) (by (with_reducible repeat first | apply bN | apply bD | apply bA); exact BK135.out) hb); have n1_ := Aside0.mk (below_step (by repeat (first | (with_reducible first | exact HB.out | apply below_alloc | apply pw_below_drewN | apply below_drew1 | refine below_set ?_ GE135.out) | exact HB.out)) hb); have n2_ := Aside0.mk (hbox); have n3_ := Aside0.mk ((by rw [hg]; exact (below_size (by repeat (first | (with_reducible first | exact HB.out | apply below_alloc | apply pw_below_drewN | apply below_drew1 | refine below_set ?_ GE135.out) | exact HB.out))) : w.heap.size ≤ gb136)); have n4_ := Aside0.mk ((by rw [hg]; exact (below_size (by repeat (first | (with_reducible first | exact HB.out | apply below_alloc | apply pw_below_drewN | apply below_drew1 | refine below_set ?_ GE135.out) | exact HB.out))) : w.heap.size ≤ gb136)); have n5_ := Aside0.mk ((by rw [hg]; exact Nat.ne_of_lt (blk_lt (g := gb135) (o := .cells #[.int .i8 a0_0, .int .i8 a0_1] 26 (0, 0)) (by (with_reducible repeat first | apply bN | apply bD | apply bA); exact BK135.out)) : gb135 ≠ gb136)); have n6_ := Aside0.mk ((by rw [hg]; exact Nat.ne_of_gt (blk_lt (g := gb135) (o := .cells #[.int .i8 a0_0, .int .i8 a0_1] 26 (0, 0)) (by (with_reducible repeat first | apply bN | apply bD | apply bA); exact BK135.out)) : gb136 ≠ gb135)); clear BK135; clear HB; have BK135 := n0_; have HB := n1_; have BK136 := n2_; have GW136 := n3_; have GE136 := n4_; have NB135_136 := n5_; have NB136_135 := n6_; clear n0_ n1_ n2_ n3_ n4_ n5_ n6_; clear hb hbox hg) | ((with_reducible refine gate_dst (N := 4) rfl ?_); refine box_event ?hg (N := 4) ?hd (cs := #[.int .i8 0, .int .i8 0]) (t := 26) ?hr ?_; (case hd => rfl); (case hg => rfl); (case hr => first | (go_simp; done) | (go_simp; rfl)); intro gb137 hg w7 hbox hb; have n0_ := Aside0.mk (blk_below (g := gb135) (o := .cells #[.int .i8 a0_0, .int .i8 a0_1] 26 (0, 0)) (by (with_reducible repeat first | apply bN | apply bD | apply bA); exact BK135.out) hb); have n1_ := Aside0.mk (blk_below (g := gb136) (o := .cells #[.int .i8 a1_0, .int .i8 a1_1] 26 (0, 0)) (by (with_reducible repeat first | apply bN | apply bD | apply bA); exact BK136.out) hb); have n2_ := Aside0.mk (below_step (by repeat (first | (with_reducible first | exact HB.out | apply below_alloc | apply pw_below_drewN | apply below_drew1 | refine below_set ?_ GE135.out | refine below_set ?_ GE136.out) | exact HB.out)) hb); have n3_ := Aside0.mk (hbox); have n4_ := Aside0.mk ((by rw [hg]; exact (below_size (by repeat (first | (with_reducible first | exact HB.out | apply below_alloc | apply pw_below_drewN | apply below_drew1 | refine below_set ?_ GE135.out | refine below_set ?_ GE136.out) | exact HB.out))) : w.heap.size ≤ gb137)); have n5_ := Aside0.mk ((by rw [hg]; exact (below_size (by repeat (first | (with_reducible first | exact HB.out | apply below_alloc | apply pw_below_drewN | apply below_drew1 | refine below_set ?_ GE135.out | refine below_set ?_ GE136.out) | exact HB.out))) : w.heap.size ≤ gb137)); have n6_ := Aside0.mk ((by rw [hg]; exact Nat.ne_of_lt (blk_lt (g := gb135) (o := .cells #[.int .i8 a0_0, .int .i8 a0_1] 26 (0, 0)) (by (with_reducible repeat first | apply bN | apply bD | apply bA); exact BK135.out)) : gb135 ≠ gb137)); have n7_ := Aside0.mk ((by rw [hg]; exact Nat.ne_of_gt (blk_lt (g := gb135) (o := .cells #[.int .i8 a0_0, .int .i8 a0_1] 26 (0, 0)) (by (with_reducible repeat first | apply bN | apply bD | apply bA); exact BK135.out)) : gb137 ≠ gb135)); have n8_ := Aside0.mk ((by rw [hg]; exact Nat.ne_of_lt (blk_lt (g := gb136) (o := .cells #[.int .i8 a1_0, .int .i8 a1_1] 26 (0, 0)) (by (with_reducible repeat first | apply bN | apply bD | apply bA); exact BK136.out)) : gb136 ≠ gb137)); have n9_ := Aside0.mk ((by rw [hg]; exact Nat.ne_of_gt (blk_lt (g := gb136) (o := .cells #[.int .i8 a1_0, .int .i8 a1_1] 26 (0, 0)) (by (with_reducible repeat first | apply bN | apply bD | apply bA); exact BK136.out)) : gb137 ≠ gb136)); clear BK135; clear BK136; clear HB; have BK135 := n0_; have BK136 := n1_; have HB := n2_; have BK137 := n3_; have GW137 := n4_; have GE137 := n5_; have NB135_137 := n6_; have NB137_135 := n7_; have NB136_137 := n8_; have NB137_136 := n9_; clear n0_ n1_ n2_ n3_ n4_ n5_ n6_ n7_ n8_ n9_; clear hb hbox hg))
  have n0_ := Aside0.mk (blk_drew BK135.out)
  have n1_ := Aside0.mk (blk_drew BK136.out)
  have n2_ := Aside0.mk (blk_drew BK137.out)
  have n3_ := Aside0.mk (below_drew1 HB.out)
  clear BK135
  clear BK136
  clear BK137
  clear HB
  have BK135 := n0_
  have BK136 := n1_
  have BK137 := n2_
  have HB := n3_
  clear n0_ n1_ n2_ n3_
  refine start_ (n := 3) (S := fun w' => w'.cell? ⟨gb135, 0, none⟩ = some (.int .i8 a0_0) ∧ w'.cell? ⟨gb135, 1, none⟩ = some (.int .i8 a0_1)) (ds := []) #[false, false, false] (by kernel_rfl) rfl rfl ⟨(blk_cell BK135.out 0).trans rfl, (blk_cell BK135.out 1).trans rfl⟩ (fun hHeld => ?_)
  generalize w7.drew = w8 at BK135 BK136 BK137 HB hHeld ⊢
  refine take_ (i := 0) (N := some 8) (v := ?_) (a' := ?_) #[true, false, false] rfl rfl (by kernel_rfl) (fun _ _ _ h => h) (Or.inl ⟨by rfl, ?_⟩) hHeld ?_ ?_
  rotate_left
  ·rintro w' ⟨s0, s1⟩
   go_simp
   with_reducible rfl
  rotate_left
  ·simp only [Act.put, List.setIfInBounds_toArray, List.set_cons_zero, List.set_cons_succ, i64_w, i32_w]
   rfl
  refine one_ (i := 1) (N := some 9) #[true, true, false] rfl rfl (by kernel_rfl) (by decide) (fun K hK => ?_)
  refine goes_ Tryd.func36 (by kernel_rfl) rfl #[.int .i8 0] (by rfl) rfl rfl (by (try simp only [List.map_toArray, List.map_cons, List.map_nil]); first | done | rfl | (simp only [List.length_drop, List.length_take]; rfl)) ?_
  with_reducible refine (strength_level.calls 0 t138 t139 _ A3.out).mono ?_
  rintro e w9 ⟨rfl, hb⟩
  refine ⟨_, rfl, ?_⟩
  have n0_ := Aside0.mk (blk_below (g := gb135) (o := .cells #[.int .i8 a0_0, .int .i8 a0_1] 26 (0, 0)) (by (with_reducible repeat first | apply bN | apply bD | apply bA); exact BK135.out) hb)
  have n1_ := Aside0.mk (blk_below (g := gb136) (o := .cells #[.int .i8 a1_0, .int .i8 a1_1] 26 (0, 0)) (by (with_reducible repeat first | apply bN | apply bD | apply bA); exact BK136.out) hb)
  have n2_ := Aside0.mk (blk_below (g := gb137) (o := .cells #[.int .i8 0, .int .i8 0] 26 (0, 0)) (by (with_reducible repeat first | apply bN | apply bD | apply bA); exact BK137.out) hb)
  have n3_ := Aside0.mk (below_step (by repeat (first | (with_reducible first | exact HB.out | apply below_alloc | apply pw_below_drewN | apply below_drew1 | refine below_set ?_ GE135.out | refine below_set ?_ GE136.out | refine below_set ?_ GE137.out) | exact HB.out)) hb)
  clear BK135
  clear BK136
  clear BK137
  clear HB
  have BK135 := n0_
  have BK136 := n1_
  have BK137 := n2_
  have HB := n3_
  clear n0_ n1_ n2_ n3_
  (try clear hb)
  (try clear hb2)
  (try clear hk)
  (try clear hi)
  refine hK.out _ _ ⟨(blk_cell BK135.out 0).trans rfl, (blk_cell BK135.out 1).trans rfl⟩ (fun hHeld => ?_)
  clear hK K
  refine norm_ (a' := ?_) ?_ ?_
  rotate_left
  ·show Act.put _ (some 9) _ = _
   simp only [Act.put, List.setIfInBounds_toArray, List.set_cons_zero, List.set_cons_succ, i64_w, i32_w]
   rfl
  refine pure_ (i := 2) (N := some 10) (v := ?_) (a' := ?_) #[true, true, true] rfl rfl (by kernel_rfl) (fun _ _ _ h => h) (Or.inl ⟨by rfl, ?_⟩) ?_ ?_
  rotate_left
  ·intro w'
   go_simp
   with_reducible rfl
  rotate_left
  ·simp only [Act.put, List.setIfInBounds_toArray, List.set_cons_zero, List.set_cons_succ, i64_w, i32_w]
   rfl
  refine done_ (by kernel_rfl) ?_
  have hnb10 := NB136_135.out
  have hnc10 := NB135_136.out
  have hnb11 := NB136_137.out
  have hnc11 := NB137_136.out
  have hcz12_0 : w9.cell? ⟨gb136, 0, none⟩ = some (.int .i8 a1_0) := (blk_cell BK136.out 0).trans rfl
  have hcz12_1 : w9.cell? ⟨gb136, 1, none⟩ = some (.int .i8 a1_1) := (blk_cell BK136.out 1).trans rfl
  have hfz12_0 := blk_frozen BK136.out 0
  have hfz12_1 := blk_frozen BK136.out 1
  have hnb13 := NB137_135.out
  have hnc13 := NB135_137.out
  have hcz14_0 : w9.cell? ⟨gb137, 0, none⟩ = some (.int .i8 0) := (blk_cell BK137.out 0).trans rfl
  have hcz14_1 : w9.cell? ⟨gb137, 1, none⟩ = some (.int .i8 0) := (blk_cell BK137.out 1).trans rfl
  have hfz14_0 := blk_frozen BK137.out 0
  have hfz14_1 := blk_frozen BK137.out 1
  try go_wp2
  refine bodyPost_ret (results_cell_row rfl _ _ gb137 26 #[.int .i8 a1_0, .int .i8 a1_1] (0, 0) _ rfl (by (with_reducible repeat first | apply bN | apply bD | apply bA); refine blk_put (cs := #[.int .i8 a1_0, .int .i8 0]) ?_ 1 _ rfl; (with_reducible repeat first | apply bN | apply bD | apply bA); refine blk_put (cs := #[.int .i8 0, .int .i8 0]) ?_ 0 _ rfl; (with_reducible repeat first | apply bN | apply bD | apply bA); exact BK137.out) Tryd.underlying26 rfl (by kernel_rfl)) rfl ?_
  exact ⟨by first | rfl | (simp [errW_none, errW_some] <;> rfl) | (simp [*, errW_none, errW_some] <;> rfl), by repeat (first | (with_reducible first | exact HB.out | apply below_alloc | apply pw_below_drewN | apply below_drew1 | refine below_set ?_ GE135.out | refine below_set ?_ GE136.out | refine below_set ?_ GE137.out) | exact HB.out)⟩
 ·rw [if_neg c4] at H
  have c4b0 : (a0_0 == t138 && (a0_1 == t139)) = false := by simpa using c4
  (try (have c4b1 : decide (a0_0 = t138 && (a0_1 == t139)) = false := by simpa using c4))
  (try (have c4b2 : (a0_0 == t138 && (a0_1 == t139)) = false := by simpa using c4))
  (try (have c4b3 : ¬ (a0_0 = t138 && (a0_1 == t139)) := by simpa using c4))
  clear c4
  replace H := Option.bind_eq_some_iff.mp H
  obtain ⟨⟨t140, t141⟩, A150, H⟩ := H
  replace H : (strength_pair.l0 k a0_0 a0_0 a0_1 a1_0 a1_1 t140 t141) = some (r1, r2) := H
  have A15 := Aside0.mk A150
  clear A150
  have H' := Aside0.mk H
  clear H
  go_enter Tryd.func38, Tryd.ntmps38
  try go_wp2_with (first | ((with_reducible refine gate_dst (N := 2) rfl ?_); refine box_event ?hg (N := 2) ?hd (cs := #[.int .i8 a0_0, .int .i8 a0_1]) (t := 26) ?hr ?_; (case hd => rfl); (case hg => rfl); (case hr => first | (go_simp; done) | (go_simp; rfl)); intro gb135 hg w16 hbox hb; have n0_ := Aside0.mk (below_step (by repeat (first | (with_reducible first | exact HB.out | apply below_alloc | apply pw_below_drewN | apply below_drew1) | exact HB.out)) hb); have n1_ := Aside0.mk (hbox); have n2_ := Aside0.mk ((by rw [hg]; exact (below_size (by repeat (first | (with_reducible first | exact HB.out | apply below_alloc | apply pw_below_drewN | apply below_drew1) | exact HB.out))) : w.heap.size ≤ gb135)); have n3_ := Aside0.mk ((by rw [hg]; exact (below_size (by repeat (first | (with_reducible first | exact HB.out | apply below_alloc | apply pw_below_drewN | apply below_drew1) | exact HB.out))) : w.heap.size ≤ gb135)); clear HB; have HB := n0_; have BK135 := n1_; have GW135 := n2_; have GE135 := n3_; clear n0_ n1_ n2_ n3_; clear hb hbox hg) | ((with_reducible refine gate_dst (N := 3) rfl ?_); refine box_event ?hg (N := 3) ?hd (cs := #[.int .i8 a1_0, .int .i8 a1_1]) (t := 26) ?hr ?_; (case hd => rfl); (case hg => rfl); (case hr => first | (go_simp; done) | (go_simp; rfl)); intro gb136 hg w17 hbox hb; have n0_ := Aside0.mk (blk_below (g := gb135) (o := .cells #[.int .i8 a0_0, .int .i8 a0_1] 26 (0, 0)) (by (with_reducible repeat first | apply bN | apply bD | apply bA); exact BK135.out) hb); have n1_ := Aside0.mk (below_step (by repeat (first | (with_reducible first | exact HB.out | apply below_alloc | apply pw_below_drewN | apply below_drew1 | refine below_set ?_ GE135.out) | exact HB.out)) hb); have n2_ := Aside0.mk (hbox); have n3_ := Aside0.mk ((by rw [hg]; exact (below_size (by repeat (first | (with_reducible first | exact HB.out | apply below_alloc | apply pw_below_drewN | apply below_drew1 | refine below_set ?_ GE135.out) | exact HB.out))) : w.heap.size ≤ gb136)); have n4_ := Aside0.mk ((by rw [hg]; exact (below_size (by repeat (first | (with_reducible first | exact HB.out | apply below_alloc | apply pw_below_drewN | apply below_drew1 | refine below_set ?_ GE135.out) | exact HB.out))) : w.heap.size ≤ gb136)); have n5_ := Aside0.mk ((by rw [hg]; exact Nat.ne_of_lt (blk_lt (g := gb135) (o := .cells #[.int .i8 a0_0, .int .i8 a0_1] 26 (0, 0)) (by (with_reducible repeat first | apply bN | apply bD | apply bA); exact BK135.out)) : gb135 ≠ gb136)); have n6_ := Aside0.mk ((by rw [hg]; exact Nat.ne_of_gt (blk_lt (g := gb135) (o := .cells #[.int .i8 a0_0, .int .i8 a0_1] 26 (0, 0)) (by (with_reducible repeat first | apply bN | apply bD | apply bA); exact BK135.out)) : gb136 ≠ gb135)); clear BK135; clear HB; have BK135 := n0_; have HB := n1_; have BK136 := n2_; have GW136 := n3_; have GE136 := n4_; have NB135_136 := n5_; have NB136_135 := n6_; clear n0_ n1_ n2_ n3_ n4_ n5_ n6_; clear hb hbox hg) | ((with_reducible refine gate_dst (N := 4) rfl ?_); refine box_event ?hg (N := 4) ?hd (cs := #[.int .i8 0, .int .i8 0]) (t := 26) ?hr ?_; (case hd => rfl); (case hg => rfl); (case hr => first | (go_simp; done) | (go_simp; rfl)); intro gb137 hg w18 hbox hb; have n0_ := Aside0.mk (blk_below (g := gb135) (o := .cells #[.int .i8 a0_0, .int .i8 a0_1] 26 (0, 0)) (by (with_reducible repeat first | apply bN | apply bD | apply bA); exact BK135.out) hb); have n1_ := Aside0.mk (blk_below (g := gb136) (o := .cells #[.int .i8 a1_0, .int .i8 a1_1] 26 (0, 0)) (by (with_reducible repeat first | apply bN | apply bD | apply bA); exact BK136.out) hb); have n2_ := Aside0.mk (below_step (by repeat (first | (with_reducible first | exact HB.out | apply below_alloc | apply pw_below_drewN | apply below_drew1 | refine below_set ?_ GE135.out | refine below_set ?_ GE136.out) | exact HB.out)) hb); have n3_ := Aside0.mk (hbox); have n4_ := Aside0.mk ((by rw [hg]; exact (below_size (by repeat (first | (with_reducible first | exact HB.out | apply below_alloc | apply pw_below_drewN | apply below_drew1 | refine below_set ?_ GE135.out | refine below_set ?_ GE136.out) | exact HB.out))) : w.heap.size ≤ gb137)); have n5_ := Aside0.mk ((by rw [hg]; exact (below_size (by repeat (first | (with_reducible first | exact HB.out | apply below_alloc | apply pw_below_drewN | apply below_drew1 | refine below_set ?_ GE135.out | refine below_set ?_ GE136.out) | exact HB.out))) : w.heap.size ≤ gb137)); have n6_ := Aside0.mk ((by rw [hg]; exact Nat.ne_of_lt (blk_lt (g := gb135) (o := .cells #[.int .i8 a0_0, .int .i8 a0_1] 26 (0, 0)) (by (with_reducible repeat first | apply bN | apply bD | apply bA); exact BK135.out)) : gb135 ≠ gb137)); have n7_ := Aside0.mk ((by rw [hg]; exact Nat.ne_of_gt (blk_lt (g := gb135) (o := .cells #[.int .i8 a0_0, .int .i8 a0_1] 26 (0, 0)) (by (with_reducible repeat first | apply bN | apply bD | apply bA); exact BK135.out)) : gb137 ≠ gb135)); have n8_ := Aside0.mk ((by rw [hg]; exact Nat.ne_of_lt (blk_lt (g := gb136) (o := .cells #[.int .i8 a1_0, .int .i8 a1_1] 26 (0, 0)) (by (with_reducible repeat first | apply bN | apply bD | apply bA); exact BK136.out)) : gb136 ≠ gb137)); have n9_ := Aside0.mk ((by rw [hg]; exact Nat.ne_of_gt (blk_lt (g := gb136) (o := .cells #[.int .i8 a1_0, .int .i8 a1_1] 26 (0, 0)) (by (with_reducible repeat first | apply bN | apply bD | apply bA); exact BK136.out)) : gb137 ≠ gb136)); clear BK135; clear BK136; clear HB; have BK135 := n0_; have BK136 := n1_; have HB := n2_; have BK137 := n3_; have GW137 := n4_; have GE137 := n5_; have NB135_137 := n6_; have NB137_135 := n7_; have NB136_137 := n8_; have NB137_136 := n9_; clear n0_ n1_ n2_ n3_ n4_ n5_ n6_ n7_ n8_ n9_; clear hb hbox hg))
  have n0_ := Aside0.mk (blk_drew BK135.out)
  have n1_ := Aside0.mk (blk_drew BK136.out)
  have n2_ := Aside0.mk (blk_drew BK137.out)
  have n3_ := Aside0.mk (below_drew1 HB.out)
  clear BK135
  clear BK136
  clear BK137
  clear HB
  have BK135 := n0_
  have BK136 := n1_
  have BK137 := n2_
  have HB := n3_
  clear n0_ n1_ n2_ n3_
  refine start_ (n := 3) (S := fun w' => w'.cell? ⟨gb135, 0, none⟩ = some (.int .i8 a0_0) ∧ w'.cell? ⟨gb135, 1, none⟩ = some (.int .i8 a0_1)) (ds := []) #[false, false, false] (by kernel_rfl) rfl rfl ⟨(blk_cell BK135.out 0).trans rfl, (blk_cell BK135.out 1).trans rfl⟩ (fun hHeld => ?_)
  generalize w18.drew = w19 at BK135 BK136 BK137 HB hHeld ⊢
  refine take_ (i := 0) (N := some 8) (v := ?_) (a' := ?_) #[true, false, false] rfl rfl (by kernel_rfl) (fun _ _ _ h => h) (Or.inl ⟨by rfl, ?_⟩) hHeld ?_ ?_
  rotate_left
  ·rintro w' ⟨s0, s1⟩
   go_simp
   with_reducible rfl
  rotate_left
  ·simp only [Act.put, List.setIfInBounds_toArray, List.set_cons_zero, List.set_cons_succ, i64_w, i32_w]
   rfl
  refine one_ (i := 1) (N := some 9) #[true, true, false] rfl rfl (by kernel_rfl) (by decide) (fun K hK => ?_)
  refine goes_ Tryd.func36 (by kernel_rfl) rfl #[.int .i8 0] (by rfl) rfl rfl (by (try simp only [List.map_toArray, List.map_cons, List.map_nil]); first | done | rfl | (simp only [List.length_drop, List.length_take]; rfl)) ?_
  with_reducible refine (strength_level.calls 0 t138 t139 _ A3.out).mono ?_
  rintro e w20 ⟨rfl, hb⟩
  refine ⟨_, rfl, ?_⟩
  have n0_ := Aside0.mk (blk_below (g := gb135) (o := .cells #[.int .i8 a0_0, .int .i8 a0_1] 26 (0, 0)) (by (with_reducible repeat first | apply bN | apply bD | apply bA); exact BK135.out) hb)
  have n1_ := Aside0.mk (blk_below (g := gb136) (o := .cells #[.int .i8 a1_0, .int .i8 a1_1] 26 (0, 0)) (by (with_reducible repeat first | apply bN | apply bD | apply bA); exact BK136.out) hb)
  have n2_ := Aside0.mk (blk_below (g := gb137) (o := .cells #[.int .i8 0, .int .i8 0] 26 (0, 0)) (by (with_reducible repeat first | apply bN | apply bD | apply bA); exact BK137.out) hb)
  have n3_ := Aside0.mk (below_step (by repeat (first | (with_reducible first | exact HB.out | apply below_alloc | apply pw_below_drewN | apply below_drew1 | refine below_set ?_ GE135.out | refine below_set ?_ GE136.out | refine below_set ?_ GE137.out) | exact HB.out)) hb)
  clear BK135
  clear BK136
  clear BK137
  clear HB
  have BK135 := n0_
  have BK136 := n1_
  have BK137 := n2_
  have HB := n3_
  clear n0_ n1_ n2_ n3_
  (try clear hb)
  (try clear hb2)
  (try clear hk)
  (try clear hi)
  refine hK.out _ _ ⟨(blk_cell BK135.out 0).trans rfl, (blk_cell BK135.out 1).trans rfl⟩ (fun hHeld => ?_)
  clear hK K
  refine norm_ (a' := ?_) ?_ ?_
  rotate_left
  ·show Act.put _ (some 9) _ = _
   simp only [Act.put, List.setIfInBounds_toArray, List.set_cons_zero, List.set_cons_succ, i64_w, i32_w]
   rfl
  refine pure_ (i := 2) (N := some 10) (v := ?_) (a' := ?_) #[true, true, true] rfl rfl (by kernel_rfl) (fun _ _ _ h => h) (Or.inl ⟨by rfl, ?_⟩) ?_ ?_
  rotate_left
  ·intro w'
   go_simp
   with_reducible rfl
  rotate_left
  ·simp only [Act.put, List.setIfInBounds_toArray, List.set_cons_zero, List.set_cons_succ, i64_w, i32_w]
   rfl
  refine done_ (by kernel_rfl) ?_
  have hnb21 := NB135_136.out
  have hnc21 := NB136_135.out
  have hnb22 := NB135_137.out
  have hnc22 := NB137_135.out
  have hcz23_0 : w20.cell? ⟨gb135, 0, none⟩ = some (.int .i8 a0_0) := (blk_cell BK135.out 0).trans rfl
  have hcz23_1 : w20.cell? ⟨gb135, 1, none⟩ = some (.int .i8 a0_1) := (blk_cell BK135.out 1).trans rfl
  have hfz23_0 := blk_frozen BK135.out 0
  have hfz23_1 := blk_frozen BK135.out 1
  have hnb24 := NB136_137.out
  have hnc24 := NB137_136.out
  have hcz25_0 : w20.cell? ⟨gb136, 0, none⟩ = some (.int .i8 a1_0) := (blk_cell BK136.out 0).trans rfl
  have hcz25_1 : w20.cell? ⟨gb136, 1, none⟩ = some (.int .i8 a1_1) := (blk_cell BK136.out 1).trans rfl
  have hfz25_0 := blk_frozen BK136.out 0
  have hfz25_1 := blk_frozen BK136.out 1
  try go_wp2_with (first | ((with_reducible refine gate_callee (f := 44) rfl ?_); refine goesL_ (some 16) rfl rfl Tryd.func44 (by kernel_rfl) rfl #[.int .i8 a0_0, .int .i8 a1_0] rfl (by (try simp only [List.map_toArray, List.map_cons, List.map_nil]); first | done | rfl | (simp only [List.length_drop, List.length_take]; rfl)) ?_; (with_reducible refine (strength_meet.calls a0_0 a1_0 t140 t141 _ A15.out).mono ?_); rintro e w26 ⟨rfl, hb⟩; refine ⟨_, rfl, ?_⟩; have n0_ := Aside0.mk (blk_below (g := gb135) (o := .cells #[.int .i8 a0_0, .int .i8 a0_1] 26 (0, 0)) (by (with_reducible repeat first | apply bN | apply bD | apply bA); exact BK135.out) hb); have n1_ := Aside0.mk (blk_below (g := gb136) (o := .cells #[.int .i8 a1_0, .int .i8 a1_1] 26 (0, 0)) (by (with_reducible repeat first | apply bN | apply bD | apply bA); exact BK136.out) hb); have n2_ := Aside0.mk (blk_below (g := gb137) (o := .cells #[.int .i8 0, .int .i8 0] 26 (0, 0)) (by (with_reducible repeat first | apply bN | apply bD | apply bA); exact BK137.out) hb); have n3_ := Aside0.mk (below_step (by repeat (first | (with_reducible first | exact HB.out | apply below_alloc | apply pw_below_drewN | apply below_drew1 | refine below_set ?_ GE135.out | refine below_set ?_ GE136.out | refine below_set ?_ GE137.out) | exact HB.out)) hb); clear BK135; clear BK136; clear BK137; clear HB; have BK135 := n0_; have BK136 := n1_; have BK137 := n2_; have HB := n3_; clear n0_ n1_ n2_ n3_; (try clear hb); (try clear hb2); (try clear hk); (try clear hi)) | ((with_reducible refine gate_dst (N := 5) rfl ?_); refine box_event ?hg (N := 5) ?hd (cs := #[.int .i8 0, .int .i8 0]) (t := 26) ?hr ?_; (case hd => rfl); (case hg => rfl); (case hr => first | (go_simp; done) | (go_simp; rfl)); intro gb142 hg w27 hbox hb; have n0_ := Aside0.mk (blk_below (g := gb135) (o := .cells #[.int .i8 a0_0, .int .i8 a0_1] 26 (0, 0)) (by (with_reducible repeat first | apply bN | apply bD | apply bA); exact BK135.out) hb); have n1_ := Aside0.mk (blk_below (g := gb136) (o := .cells #[.int .i8 a1_0, .int .i8 a1_1] 26 (0, 0)) (by (with_reducible repeat first | apply bN | apply bD | apply bA); exact BK136.out) hb); have n2_ := Aside0.mk (blk_below (g := gb137) (o := .cells #[.int .i8 0, .int .i8 0] 26 (0, 0)) (by (with_reducible repeat first | apply bN | apply bD | apply bA); exact BK137.out) hb); have n3_ := Aside0.mk (below_step (by repeat (first | (with_reducible first | exact HB.out | apply below_alloc | apply pw_below_drewN | apply below_drew1 | refine below_set ?_ GE135.out | refine below_set ?_ GE136.out | refine below_set ?_ GE137.out) | exact HB.out)) hb); have n4_ := Aside0.mk (hbox); have n5_ := Aside0.mk ((by rw [hg]; exact (below_size (by repeat (first | (with_reducible first | exact HB.out | apply below_alloc | apply pw_below_drewN | apply below_drew1 | refine below_set ?_ GE135.out | refine below_set ?_ GE136.out | refine below_set ?_ GE137.out) | exact HB.out))) : w.heap.size ≤ gb142)); have n6_ := Aside0.mk ((by rw [hg]; exact (below_size (by repeat (first | (with_reducible first | exact HB.out | apply below_alloc | apply pw_below_drewN | apply below_drew1 | refine below_set ?_ GE135.out | refine below_set ?_ GE136.out | refine below_set ?_ GE137.out) | exact HB.out))) : w.heap.size ≤ gb142)); have n7_ := Aside0.mk ((by rw [hg]; exact Nat.ne_of_lt (blk_lt (g := gb135) (o := .cells #[.int .i8 a0_0, .int .i8 a0_1] 26 (0, 0)) (by (with_reducible repeat first | apply bN | apply bD | apply bA); exact BK135.out)) : gb135 ≠ gb142)); have n8_ := Aside0.mk ((by rw [hg]; exact Nat.ne_of_gt (blk_lt (g := gb135) (o := .cells #[.int .i8 a0_0, .int .i8 a0_1] 26 (0, 0)) (by (with_reducible repeat first | apply bN | apply bD | apply bA); exact BK135.out)) : gb142 ≠ gb135)); have n9_ := Aside0.mk ((by rw [hg]; exact Nat.ne_of_lt (blk_lt (g := gb136) (o := .cells #[.int .i8 a1_0, .int .i8 a1_1] 26 (0, 0)) (by (with_reducible repeat first | apply bN | apply bD | apply bA); exact BK136.out)) : gb136 ≠ gb142)); have n10_ := Aside0.mk ((by rw [hg]; exact Nat.ne_of_gt (blk_lt (g := gb136) (o := .cells #[.int .i8 a1_0, .int .i8 a1_1] 26 (0, 0)) (by (with_reducible repeat first | apply bN | apply bD | apply bA); exact BK136.out)) : gb142 ≠ gb136)); have n11_ := Aside0.mk ((by rw [hg]; exact Nat.ne_of_lt (blk_lt (g := gb137) (o := .cells #[.int .i8 0, .int .i8 0] 26 (0, 0)) (by (with_reducible repeat first | apply bN | apply bD | apply bA); exact BK137.out)) : gb137 ≠ gb142)); have n12_ := Aside0.mk ((by rw [hg]; exact Nat.ne_of_gt (blk_lt (g := gb137) (o := .cells #[.int .i8 0, .int .i8 0] 26 (0, 0)) (by (with_reducible repeat first | apply bN | apply bD | apply bA); exact BK137.out)) : gb142 ≠ gb137)); clear BK135; clear BK136; clear BK137; clear HB; have BK135 := n0_; have BK136 := n1_; have BK137 := n2_; have HB := n3_; have BK142 := n4_; have GW142 := n5_; have GE142 := n6_; have NB135_142 := n7_; have NB142_135 := n8_; have NB136_142 := n9_; have NB142_136 := n10_; have NB137_142 := n11_; have NB142_137 := n12_; clear n0_ n1_ n2_ n3_ n4_ n5_ n6_ n7_ n8_ n9_ n10_ n11_ n12_; clear hb hbox hg; have hnb28 := NB142_135.out; have hnc28 := NB135_142.out; have hnb29 := NB142_136.out; have hnc29 := NB136_142.out; have hnb30 := NB142_137.out; have hnc30 := NB137_142.out; have hcz31_0 : w27.cell? ⟨gb142, 0, none⟩ = some (.int .i8 0) := (blk_cell BK142.out 0).trans rfl; have hcz31_1 : w27.cell? ⟨gb142, 1, none⟩ = some (.int .i8 0) := (blk_cell BK142.out 1).trans rfl; have hfz31_0 := blk_frozen BK142.out 0; have hfz31_1 := blk_frozen BK142.out 1; have hcz32_0 : w27.cell? ⟨gb135, 0, none⟩ = some (.int .i8 a0_0) := (blk_cell BK135.out 0).trans rfl; have hcz32_1 : w27.cell? ⟨gb135, 1, none⟩ = some (.int .i8 a0_1) := (blk_cell BK135.out 1).trans rfl; have hfz32_0 := blk_frozen BK135.out 0; have hfz32_1 := blk_frozen BK135.out 1))
  go_loopg [6] k (fun kq v6 w' => ∃ (x6_1 : Int) (x143000_1 : Int) (x143001_1 : Int), v6 = .int .i8 x6_1 ∧ Aside0 (strength_pair.l0 kq x6_1 a0_0 a0_1 a1_0 a1_1 x143000_1 x143001_1 = some (r1, r2)) ∧ Aside0 (kq ≤ k) ∧ Aside0 (w'.heap[gb135]? = some (.cells #[.int .i8 a0_0, .int .i8 a0_1] 26 (0, 0))) ∧ Aside0 (w'.heap[gb136]? = some (.cells #[.int .i8 a1_0, .int .i8 a1_1] 26 (0, 0))) ∧ Aside0 (w'.heap[gb137]? = some (.cells #[.int .i8 0, .int .i8 0] 26 (0, 0))) ∧ Aside0 (w'.heap[gb142]? = some (.cells #[.int .i8 x143000_1, .int .i8 x143001_1] 26 (0, 0))) ∧ Aside0 (Below w.heap.size w w'))
  case atStart => exact ⟨(a0_0), (t140), (t141), (by first | rfl | (simp; done) | (simp [*]; done)), H', ⟨Nat.le_refl _⟩, ⟨by (with_reducible repeat first | apply bN | apply bD | apply bA); refine blk_far ?_ NB135_142.out _; (with_reducible repeat first | apply bN | apply bD | apply bA); refine blk_far ?_ NB135_142.out _; (with_reducible repeat first | apply bN | apply bD | apply bA); exact BK135.out⟩, ⟨by (with_reducible repeat first | apply bN | apply bD | apply bA); refine blk_far ?_ NB136_142.out _; (with_reducible repeat first | apply bN | apply bD | apply bA); refine blk_far ?_ NB136_142.out _; (with_reducible repeat first | apply bN | apply bD | apply bA); exact BK136.out⟩, ⟨by (with_reducible repeat first | apply bN | apply bD | apply bA); refine blk_far ?_ NB137_142.out _; (with_reducible repeat first | apply bN | apply bD | apply bA); refine blk_far ?_ NB137_142.out _; (with_reducible repeat first | apply bN | apply bD | apply bA); exact BK137.out⟩, ⟨by (with_reducible repeat first | apply bN | apply bD | apply bA); refine blk_put (cs := #[.int .i8 t140, .int .i8 0]) ?_ 1 _ rfl; (with_reducible repeat first | apply bN | apply bD | apply bA); refine blk_put (cs := #[.int .i8 0, .int .i8 0]) ?_ 0 _ rfl; (with_reducible repeat first | apply bN | apply bD | apply bA); exact BK142.out⟩, ⟨by repeat (first | (with_reducible first | exact HB.out | apply below_alloc | apply pw_below_drewN | apply below_drew1 | refine below_set ?_ GE135.out | refine below_set ?_ GE136.out | refine below_set ?_ GE137.out | refine below_set ?_ GE142.out) | exact HB.out)⟩⟩
  case round =>
   clear H'
   try clear c1
   try clear c2
   try clear p2
   try clear c3
   try clear c4
   try clear c4b0
   try clear c4b1
   try clear c4b2
   try clear c10
   try clear c11
   try clear c13
   try clear c21
   try clear c22
   try clear c24
   try clear c28
   try clear c29
   try clear c30
   try clear hcz12_0
   try clear hcz12_1
   try clear hcz14_0
   try clear hcz14_1
   try clear hcz23_0
   try clear hcz23_1
   try clear hcz25_0
   try clear hcz25_1
   try clear hcz31_0
   try clear hcz31_1
   try clear hcz32_0
   try clear hcz32_1
   try clear hfz12_0
   try clear hfz12_1
   try clear hfz14_0
   try clear hfz14_1
   try clear hfz23_0
   try clear hfz23_1
   try clear hfz25_0
   try clear hfz25_1
   try clear hfz31_0
   try clear hfz31_1
   try clear hfz32_0
   try clear hfz32_1
   obtain ⟨x6_1, x143000_1, x143001_1, rfl, HA, HK1, BK135, BK136, BK137, BK142, HB⟩ := hrel
   cases gk with
   | zero => exact absurd HA.out (by simp [strength_pair.l0])
   | succ k1 =>
    have H := HA.out
    clear HA
    simp only [strength_pair.l0] at H
    by_cases c33 : x6_1 ≤ a0_1
    ·rw [if_pos c33] at H
     have c33b0 : decide (x6_1 ≤ a0_1) = true := decide_eq_true c33
     clear c33
     have H' := Aside0.mk H
     clear H
     have hnb34 := NB135_136.out
     have hnc34 := NB136_135.out
     have hnb35 := NB135_137.out
     have hnc35 := NB137_135.out
     have hnb36 := NB135_142.out
     have hnc36 := NB142_135.out
     have hcz37_0 : wr.cell? ⟨gb135, 0, none⟩ = some (.int .i8 a0_0) := (blk_cell BK135.out 0).trans rfl
     have hcz37_1 : wr.cell? ⟨gb135, 1, none⟩ = some (.int .i8 a0_1) := (blk_cell BK135.out 1).trans rfl
     have hfz37_0 := blk_frozen BK135.out 0
     have hfz37_1 := blk_frozen BK135.out 1
     have hnb38 := NB136_137.out
     have hnc38 := NB137_136.out
     have hnb39 := NB136_142.out
     have hnc39 := NB142_136.out
     have hcz40_0 : wr.cell? ⟨gb136, 0, none⟩ = some (.int .i8 a1_0) := (blk_cell BK136.out 0).trans rfl
     have hcz40_1 : wr.cell? ⟨gb136, 1, none⟩ = some (.int .i8 a1_1) := (blk_cell BK136.out 1).trans rfl
     have hfz40_0 := blk_frozen BK136.out 0
     have hfz40_1 := blk_frozen BK136.out 1
     go_wp2
     go_loopg [7] k1 (fun kq v7 w' => ∃ (x7_2 : Int) (x143000_2 : Int) (x143001_2 : Int), v7 = .int .i8 x7_2 ∧ Aside0 (strength_pair.l1 kq x6_1 x7_2 a0_0 a0_1 a1_0 a1_1 x143000_2 x143001_2 = some (r1, r2)) ∧ Aside0 (kq ≤ k1) ∧ Aside0 (w'.heap[gb135]? = some (.cells #[.int .i8 a0_0, .int .i8 a0_1] 26 (0, 0))) ∧ Aside0 (w'.heap[gb136]? = some (.cells #[.int .i8 a1_0, .int .i8 a1_1] 26 (0, 0))) ∧ Aside0 (w'.heap[gb137]? = some (.cells #[.int .i8 0, .int .i8 0] 26 (0, 0))) ∧ Aside0 (w'.heap[gb142]? = some (.cells #[.int .i8 x143000_2, .int .i8 x143001_2] 26 (0, 0))) ∧ Aside0 (Below w.heap.size w w'))
     case atStart => exact ⟨(a1_0), (x143000_1), (x143001_1), (by first | rfl | (simp; done) | (simp [*]; done)), H', ⟨Nat.le_refl _⟩, ⟨by (with_reducible repeat first | apply bN | apply bD | apply bA); exact BK135.out⟩, ⟨by (with_reducible repeat first | apply bN | apply bD | apply bA); exact BK136.out⟩, ⟨by (with_reducible repeat first | apply bN | apply bD | apply bA); exact BK137.out⟩, ⟨by (with_reducible repeat first | apply bN | apply bD | apply bA); exact BK142.out⟩, ⟨by repeat (first | (with_reducible first | exact HB.out | apply below_alloc | apply pw_below_drewN | apply below_drew1 | refine below_set ?_ GE135.out | refine below_set ?_ GE136.out | refine below_set ?_ GE137.out | refine below_set ?_ GE142.out) | exact HB.out)⟩⟩
     case round =>
      clear H'
      try clear c1
      try clear c2
      try clear p2
      try clear c3
      try clear c4
      try clear c4b0
      try clear c4b1
      try clear c4b2
      try clear c10
      try clear c11
      try clear c13
      try clear c21
      try clear c22
      try clear c24
      try clear c28
      try clear c29
      try clear c30
      try clear c33
      try clear c33b0
      try clear c34
      try clear c35
      try clear c36
      try clear c38
      try clear c39
      try clear hcz12_0
      try clear hcz12_1
      try clear hcz14_0
      try clear hcz14_1
      try clear hcz23_0
      try clear hcz23_1
      try clear hcz25_0
      try clear hcz25_1
      try clear hcz31_0
      try clear hcz31_1
      try clear hcz32_0
      try clear hcz32_1
      try clear hcz37_0
      try clear hcz37_1
      try clear hcz40_0
      try clear hcz40_1
      try clear hfz12_0
      try clear hfz12_1
      try clear hfz14_0
      try clear hfz14_1
      try clear hfz23_0
      try clear hfz23_1
      try clear hfz25_0
      try clear hfz25_1
      try clear hfz31_0
      try clear hfz31_1
      try clear hfz32_0
      try clear hfz32_1
      try clear hfz37_0
      try clear hfz37_1
      try clear hfz40_0
      try clear hfz40_1
      try clear p2
      obtain ⟨x7_2, x143000_2, x143001_2, rfl, HA, HK2, BK135, BK136, BK137, BK142, HB⟩ := hrel
      cases gk with
      | zero => exact absurd HA.out (by simp [strength_pair.l1])
      | succ k2 =>
       have H := HA.out
       clear HA
       simp only [strength_pair.l1] at H
       by_cases c41 : x7_2 ≤ a1_1
       ·rw [if_pos c41] at H
        have c41b0 : decide (x7_2 ≤ a1_1) = true := decide_eq_true c41
        clear c41
        replace H := Option.bind_eq_some_iff.mp H
        obtain ⟨⟨t143, t144⟩, A420, H⟩ := H
        replace H : ((strength_join.f x143000_2 x143001_2 t143 t144).bind fun bt145 => (strength_pair.l1 k2 x6_1 (IntKind.i8.wrap (x7_2 + 1)) a0_0 a0_1 a1_0 a1_1 bt145.1 bt145.2)) = some (r1, r2) := H
        have A42 := Aside0.mk A420
        clear A420
        replace H := Option.bind_eq_some_iff.mp H
        obtain ⟨⟨t145, t146⟩, A430, H⟩ := H
        replace H : (strength_pair.l1 k2 x6_1 (IntKind.i8.wrap (x7_2 + 1)) a0_0 a0_1 a1_0 a1_1 t145 t146) = some (r1, r2) := H
        have A43 := Aside0.mk A430
        clear A430
        have H' := Aside0.mk H
        clear H
        have hnb44 := NB136_135.out
        have hnc44 := NB135_136.out
        have hnb45 := NB136_137.out
        have hnc45 := NB137_136.out
        have hnb46 := NB136_142.out
        have hnc46 := NB142_136.out
        have hcz47_0 : wr.cell? ⟨gb136, 0, none⟩ = some (.int .i8 a1_0) := (blk_cell BK136.out 0).trans rfl
        have hcz47_1 : wr.cell? ⟨gb136, 1, none⟩ = some (.int .i8 a1_1) := (blk_cell BK136.out 1).trans rfl
        have hfz47_0 := blk_frozen BK136.out 0
        have hfz47_1 := blk_frozen BK136.out 1
        try go_wp2
        have n0_ := Aside0.mk (blk_drew BK135.out)
        have n1_ := Aside0.mk (blk_drew BK136.out)
        have n2_ := Aside0.mk (blk_drew BK137.out)
        have n3_ := Aside0.mk (blk_drew BK142.out)
        have n4_ := Aside0.mk (below_drew1 HB.out)
        clear BK135
        clear BK136
        clear BK137
        clear BK142
        clear HB
        have BK135 := n0_
        have BK136 := n1_
        have BK137 := n2_
        have BK142 := n3_
        have HB := n4_
        clear n0_ n1_ n2_ n3_ n4_
        refine start_ (n := 6) (S := fun w' => w'.cell? ⟨gb142, 0, none⟩ = some (.int .i8 x143000_2) ∧ w'.cell? ⟨gb142, 1, none⟩ = some (.int .i8 x143001_2)) (ds := [5]) #[false, false, false, false, false, false] (by kernel_rfl) rfl rfl ⟨(blk_cell BK142.out 0).trans rfl, (blk_cell BK142.out 1).trans rfl⟩ (fun hHeld => ?_)
        generalize wr.drew = w48 at BK135 BK136 BK137 BK142 HB hHeld ⊢
        refine pure_ (i := 1) (N := some 34) (v := ?_) (a' := ?_) #[false, true, false, false, false, false] rfl rfl (by kernel_rfl) (fun _ _ _ h => h) (Or.inl ⟨by rfl, ?_⟩) ?_ ?_
        rotate_left
        ·intro w'
         go_simp
         with_reducible rfl
        rotate_left
        ·simp only [Act.put, List.setIfInBounds_toArray, List.set_cons_zero, List.set_cons_succ, i64_w, i32_w]
         rfl
        refine pure_ (i := 2) (N := some 35) (v := ?_) (a' := ?_) #[false, true, true, false, false, false] rfl rfl (by kernel_rfl) (fun _ _ _ h => h) (Or.inl ⟨by rfl, ?_⟩) ?_ ?_
        rotate_left
        ·intro w'
         go_simp
         with_reducible rfl
        rotate_left
        ·simp only [Act.put, List.setIfInBounds_toArray, List.set_cons_zero, List.set_cons_succ, i64_w, i32_w]
         rfl
        refine take_ (i := 0) (N := some 33) (v := ?_) (a' := ?_) #[true, true, true, false, false, false] rfl rfl (by kernel_rfl) (fun _ _ _ h => h) (Or.inl ⟨by rfl, ?_⟩) hHeld ?_ ?_
        rotate_left
        ·rintro w' ⟨s0, s1⟩
         go_simp
         with_reducible rfl
        rotate_left
        ·simp only [Act.put, List.setIfInBounds_toArray, List.set_cons_zero, List.set_cons_succ, i64_w, i32_w]
         rfl
        refine one_ (i := 3) (N := some 36) #[true, true, true, true, false, false] rfl rfl (by kernel_rfl) (by decide) (fun K hK => ?_)
        refine goes_ Tryd.func44 (by kernel_rfl) rfl #[.int .i8 x6_1, .int .i8 x7_2] (by rfl) rfl rfl (by (try simp only [List.map_toArray, List.map_cons, List.map_nil]); first | done | rfl | (simp only [List.length_drop, List.length_take]; rfl)) ?_
        with_reducible refine (strength_meet.calls x6_1 x7_2 t143 t144 _ A42.out).mono ?_
        rintro e w49 ⟨rfl, hb⟩
        refine ⟨_, rfl, ?_⟩
        have n0_ := Aside0.mk (blk_below (g := gb135) (o := .cells #[.int .i8 a0_0, .int .i8 a0_1] 26 (0, 0)) (by (with_reducible repeat first | apply bN | apply bD | apply bA); exact BK135.out) hb)
        have n1_ := Aside0.mk (blk_below (g := gb136) (o := .cells #[.int .i8 a1_0, .int .i8 a1_1] 26 (0, 0)) (by (with_reducible repeat first | apply bN | apply bD | apply bA); exact BK136.out) hb)
        have n2_ := Aside0.mk (blk_below (g := gb137) (o := .cells #[.int .i8 0, .int .i8 0] 26 (0, 0)) (by (with_reducible repeat first | apply bN | apply bD | apply bA); exact BK137.out) hb)
        have n3_ := Aside0.mk (blk_below (g := gb142) (o := .cells #[.int .i8 x143000_2, .int .i8 x143001_2] 26 (0, 0)) (by (with_reducible repeat first | apply bN | apply bD | apply bA); exact BK142.out) hb)
        have n4_ := Aside0.mk (below_step (by repeat (first | (with_reducible first | exact HB.out | apply below_alloc | apply pw_below_drewN | apply below_drew1 | refine below_set ?_ GE135.out | refine below_set ?_ GE136.out | refine below_set ?_ GE137.out | refine below_set ?_ GE142.out) | exact HB.out)) hb)
        clear BK135
        clear BK136
        clear BK137
        clear BK142
        clear HB
        have BK135 := n0_
        have BK136 := n1_
        have BK137 := n2_
        have BK142 := n3_
        have HB := n4_
        clear n0_ n1_ n2_ n3_ n4_
        (try clear hb)
        (try clear hb2)
        (try clear hk)
        (try clear hi)
        refine hK.out _ _ ⟨(blk_cell BK142.out 0).trans rfl, (blk_cell BK142.out 1).trans rfl⟩ (fun hHeld => ?_)
        clear hK K
        refine norm_ (a' := ?_) ?_ ?_
        rotate_left
        ·show Act.put _ (some 36) _ = _
         simp only [Act.put, List.setIfInBounds_toArray, List.set_cons_zero, List.set_cons_succ, i64_w, i32_w]
         rfl
        refine one_ (i := 4) (N := some 37) #[true, true, true, true, true, false] rfl rfl (by kernel_rfl) (by decide) (fun K hK => ?_)
        refine goes_ Tryd.func45 (by kernel_rfl) rfl #[.agg #[.int .i8 x143000_2, .int .i8 x143001_2], .agg #[.int .i8 t143, .int .i8 t144]] (by rfl) rfl rfl (by (try simp only [List.map_toArray, List.map_cons, List.map_nil]); first | done | rfl | (simp only [List.length_drop, List.length_take]; rfl)) ?_
        with_reducible refine (strength_join.calls x143000_2 x143001_2 t143 t144 t145 t146 _ A43.out).mono ?_
        rintro e w50 ⟨rfl, hb⟩
        refine ⟨_, rfl, ?_⟩
        have n0_ := Aside0.mk (blk_below (g := gb135) (o := .cells #[.int .i8 a0_0, .int .i8 a0_1] 26 (0, 0)) (by (with_reducible repeat first | apply bN | apply bD | apply bA); exact BK135.out) hb)
        have n1_ := Aside0.mk (blk_below (g := gb136) (o := .cells #[.int .i8 a1_0, .int .i8 a1_1] 26 (0, 0)) (by (with_reducible repeat first | apply bN | apply bD | apply bA); exact BK136.out) hb)
        have n2_ := Aside0.mk (blk_below (g := gb137) (o := .cells #[.int .i8 0, .int .i8 0] 26 (0, 0)) (by (with_reducible repeat first | apply bN | apply bD | apply bA); exact BK137.out) hb)
        have n3_ := Aside0.mk (blk_below (g := gb142) (o := .cells #[.int .i8 x143000_2, .int .i8 x143001_2] 26 (0, 0)) (by (with_reducible repeat first | apply bN | apply bD | apply bA); exact BK142.out) hb)
        have n4_ := Aside0.mk (below_step (by repeat (first | (with_reducible first | exact HB.out | apply below_alloc | apply pw_below_drewN | apply below_drew1 | refine below_set ?_ GE135.out | refine below_set ?_ GE136.out | refine below_set ?_ GE137.out | refine below_set ?_ GE142.out) | exact HB.out)) hb)
        clear BK135
        clear BK136
        clear BK137
        clear BK142
        clear HB
        have BK135 := n0_
        have BK136 := n1_
        have BK137 := n2_
        have BK142 := n3_
        have HB := n4_
        clear n0_ n1_ n2_ n3_ n4_
        (try clear hb)
        (try clear hb2)
        (try clear hk)
        (try clear hi)
        refine hK.out _ _ ⟨(blk_cell BK142.out 0).trans rfl, (blk_cell BK142.out 1).trans rfl⟩ (fun hHeld => ?_)
        clear hK K
        refine norm_ (a' := ?_) ?_ ?_
        rotate_left
        ·show Act.put _ (some 37) _ = _
         simp only [Act.put, List.setIfInBounds_toArray, List.set_cons_zero, List.set_cons_succ, i64_w, i32_w]
         rfl
        refine last_ (i := 5) (N := none) #[true, true, true, true, true, true] rfl rfl (by kernel_rfl) (by decide) (fun K hK => ?_)
        have hs51 : w50.cell? ⟨gb142, 0, none⟩ = some (.int .i8 x143000_2) := (blk_cell BK142.out 0).trans rfl
        have hfs51 := blk_frozen BK142.out 0
        have hns51_0 := NB135_142.out
        have hns51_1 := NB136_142.out
        have hns51_2 := NB137_142.out
        have hms51_0 := NB142_135.out
        have hms51_1 := NB142_136.out
        have hms51_2 := NB142_137.out
        have hs52 : w50.cell? ⟨gb142, 1, none⟩ = some (.int .i8 x143001_2) := (blk_cell BK142.out 1).trans rfl
        have hfs52 := blk_frozen BK142.out 1
        have hns52_0 := NB135_142.out
        have hns52_1 := NB136_142.out
        have hns52_2 := NB137_142.out
        have hms52_0 := NB142_135.out
        have hms52_1 := NB142_136.out
        have hms52_2 := NB142_137.out
        refine skip_ (w1 := ?_) (by rfl) rfl ?_ ?_
        rotate_left
        ·go_simp
         rfl
        refine hK.out _ _ ?_
        clear hK K
        refine done_ (by kernel_rfl) ?_
        try go_wp2
        go_roundg k2
        case measure => have := HK1.out; have := HK2.out; omega
        case rel => exact ⟨(IntKind.i8.wrap (x7_2 + 1)), (t145), (t146), (by first | rfl | (simp; done) | (simp [*]; done)), H', ⟨by have := HK1.out; have := HK2.out; omega⟩, ⟨by (with_reducible repeat first | apply bN | apply bD | apply bA); refine blk_far ?_ NB135_142.out _; (with_reducible repeat first | apply bN | apply bD | apply bA); refine blk_far ?_ NB135_142.out _; (with_reducible repeat first | apply bN | apply bD | apply bA); exact BK135.out⟩, ⟨by (with_reducible repeat first | apply bN | apply bD | apply bA); refine blk_far ?_ NB136_142.out _; (with_reducible repeat first | apply bN | apply bD | apply bA); refine blk_far ?_ NB136_142.out _; (with_reducible repeat first | apply bN | apply bD | apply bA); exact BK136.out⟩, ⟨by (with_reducible repeat first | apply bN | apply bD | apply bA); refine blk_far ?_ NB137_142.out _; (with_reducible repeat first | apply bN | apply bD | apply bA); refine blk_far ?_ NB137_142.out _; (with_reducible repeat first | apply bN | apply bD | apply bA); exact BK137.out⟩, ⟨by (with_reducible repeat first | apply bN | apply bD | apply bA); refine blk_put (cs := #[.int .i8 t145, .int .i8 x143001_2]) ?_ 1 _ rfl; (with_reducible repeat first | apply bN | apply bD | apply bA); refine blk_put (cs := #[.int .i8 x143000_2, .int .i8 x143001_2]) ?_ 0 _ rfl; (with_reducible repeat first | apply bN | apply bD | apply bA); exact BK142.out⟩, ⟨by repeat (first | (with_reducible first | exact HB.out | apply below_alloc | apply pw_below_drewN | apply below_drew1 | refine below_set ?_ GE135.out | refine below_set ?_ GE136.out | refine below_set ?_ GE137.out | refine below_set ?_ GE142.out) | exact HB.out)⟩⟩
       ·rw [if_neg c41] at H
        have c41b0 : decide (x7_2 ≤ a1_1) = false := decide_eq_false c41
        clear c41
        have H' := Aside0.mk H
        clear H
        have hnb53 := NB136_135.out
        have hnc53 := NB135_136.out
        have hnb54 := NB136_137.out
        have hnc54 := NB137_136.out
        have hnb55 := NB136_142.out
        have hnc55 := NB142_136.out
        have hcz56_0 : wr.cell? ⟨gb136, 0, none⟩ = some (.int .i8 a1_0) := (blk_cell BK136.out 0).trans rfl
        have hcz56_1 : wr.cell? ⟨gb136, 1, none⟩ = some (.int .i8 a1_1) := (blk_cell BK136.out 1).trans rfl
        have hfz56_0 := blk_frozen BK136.out 0
        have hfz56_1 := blk_frozen BK136.out 1
        go_wp2
        go_roundg k2
        case measure => have := HK1.out; have := HK2.out; omega
        case rel => exact ⟨(IntKind.i8.wrap (x6_1 + 1)), (x143000_2), (x143001_2), (by first | rfl | (simp; done) | (simp [*]; done)), H', ⟨by have := HK1.out; have := HK2.out; omega⟩, ⟨by (with_reducible repeat first | apply bN | apply bD | apply bA); exact BK135.out⟩, ⟨by (with_reducible repeat first | apply bN | apply bD | apply bA); exact BK136.out⟩, ⟨by (with_reducible repeat first | apply bN | apply bD | apply bA); exact BK137.out⟩, ⟨by (with_reducible repeat first | apply bN | apply bD | apply bA); exact BK142.out⟩, ⟨by repeat (first | (with_reducible first | exact HB.out | apply below_alloc | apply pw_below_drewN | apply below_drew1 | refine below_set ?_ GE135.out | refine below_set ?_ GE136.out | refine below_set ?_ GE137.out | refine below_set ?_ GE142.out) | exact HB.out)⟩⟩
    ·rw [if_neg c33] at H
     have c33b0 : decide (x6_1 ≤ a0_1) = false := decide_eq_false c33
     clear c33
     simp only [Option.some.injEq, Prod.mk.injEq] at H
     obtain ⟨rfl, rfl⟩ := H
     have hnb57 := NB135_136.out
     have hnc57 := NB136_135.out
     have hnb58 := NB135_137.out
     have hnc58 := NB137_135.out
     have hnb59 := NB135_142.out
     have hnc59 := NB142_135.out
     have hcz60_0 : wr.cell? ⟨gb135, 0, none⟩ = some (.int .i8 a0_0) := (blk_cell BK135.out 0).trans rfl
     have hcz60_1 : wr.cell? ⟨gb135, 1, none⟩ = some (.int .i8 a0_1) := (blk_cell BK135.out 1).trans rfl
     have hfz60_0 := blk_frozen BK135.out 0
     have hfz60_1 := blk_frozen BK135.out 1
     have hnb61 := NB142_136.out
     have hnc61 := NB136_142.out
     have hnb62 := NB142_137.out
     have hnc62 := NB137_142.out
     have hcz63_0 : wr.cell? ⟨gb142, 0, none⟩ = some (.int .i8 x143000_1) := (blk_cell BK142.out 0).trans rfl
     have hcz63_1 : wr.cell? ⟨gb142, 1, none⟩ = some (.int .i8 x143001_1) := (blk_cell BK142.out 1).trans rfl
     have hfz63_0 := blk_frozen BK142.out 0
     have hfz63_1 := blk_frozen BK142.out 1
     have hnb64 := NB137_136.out
     have hnc64 := NB136_137.out
     have hcz65_0 : wr.cell? ⟨gb137, 0, none⟩ = some (.int .i8 0) := (blk_cell BK137.out 0).trans rfl
     have hcz65_1 : wr.cell? ⟨gb137, 1, none⟩ = some (.int .i8 0) := (blk_cell BK137.out 1).trans rfl
     have hfz65_0 := blk_frozen BK137.out 0
     have hfz65_1 := blk_frozen BK137.out 1
     go_wp2
     refine bodyPost_ret (results_cell_row rfl _ _ gb137 26 #[.int .i8 x143000_1, .int .i8 x143001_1] (0, 0) _ rfl (by (with_reducible repeat first | apply bN | apply bD | apply bA); refine blk_put (cs := #[.int .i8 x143000_1, .int .i8 0]) ?_ 1 _ rfl; (with_reducible repeat first | apply bN | apply bD | apply bA); refine blk_put (cs := #[.int .i8 0, .int .i8 0]) ?_ 0 _ rfl; (with_reducible repeat first | apply bN | apply bD | apply bA); exact BK137.out) Tryd.underlying26 rfl (by kernel_rfl)) rfl ?_
     exact ⟨by first | rfl | (simp [errW_none, errW_some] <;> rfl) | (simp [*, errW_none, errW_some] <;> rfl), by repeat (first | (with_reducible first | exact HB.out | apply below_alloc | apply pw_below_drewN | apply below_drew1 | refine below_set ?_ GE135.out | refine below_set ?_ GE136.out | refine below_set ?_ GE137.out | refine below_set ?_ GE142.out) | exact HB.out)⟩

end Go.Proofs.YtcgckodhehnpnaaDoor.F
