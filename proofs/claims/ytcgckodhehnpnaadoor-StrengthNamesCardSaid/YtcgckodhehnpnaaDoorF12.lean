-- Written by a program of this session (wip/tools/drive.py) over the kit's print.py.
import Derived.Test.YtcgckodhehnpnaaDoorF0
import Derived.Test.YtcgckodhehnpnaaDoorF2
import Derived.Test.YtcgckodhehnpnaaDoorF5
import Derived.Test.YtcgckodhehnpnaaDoorF7
import Derived.Test.YtcgckodhehnpnaaDoorF9
namespace Go.Proofs.YtcgckodhehnpnaaDoor.F
open Go.RowKit Go.Proofs.YtcgckodhehnpnaaDoorW.PrintWords Go.Proofs.YtcgckodhehnpnaaDoorW.PrintLast Go.Proofs.YtcgckodhehnpnaaDoorW.PrintMore
attribute [local go_sem] max2_int min2_int max_two min_two max_three min_three max_four min_four   -- for this text's walks alone
set_option linter.unusedVariables false
set_option linter.unusedSimpArgs false

attribute [local go_sem high] eqA26
/-! ### netlablaw02_StrengthDominance: function 6 -/
def netlablaw02_StrengthDominance.j0 : Nat → Bool → Int → Int → Int → Int → Option (Bool)
 | 0, _, _, _, _, _ => none
 | k + 1, x42, x311000, x311001, x312000, x312001 => if x42 = true then ((netlablaw02_awake.f k).bind fun t312 => (if t312 = true then (some true) else (none))) else ((strength_Combine.f k (([(⟨x311000, x311001⟩ : S26), (⟨x312000, x312001⟩ : S26)] : List (S26)))).bind fun bt316 => (if (bt316.1 == x311000 && (bt316.2 == x311001)) = true then ((strength_Combine.f k (([(⟨x312000, x312001⟩ : S26), (⟨x311000, x311001⟩ : S26)] : List (S26)))).bind fun bt321 => (if (bt321.1 == x311000 && (bt321.2 == x311001)) = true then ((netlablaw02_awake.f k).bind fun t323 => (if t323 = true then (some true) else (none))) else (none))) else (none)))
def netlablaw02_StrengthDominance.f (k : Nat) (a0_0 : Int) (a0_1 : Int) (a1_0 : Int) (a1_1 : Int) : Option (Bool) := (strength_Norm.f a0_0 a0_1).bind fun bt306 => ((strength_Norm.f a1_0 a1_1).bind fun bt308 => (if bt306.1 ≤ 0 then (if bt306.2 ≥ 0 then (netlablaw02_StrengthDominance.j0 k true bt306.1 bt306.2 bt308.1 bt308.2) else (netlablaw02_StrengthDominance.j0 k (decide ((mn (mx bt306.1 (IntKind.i8.wrap (-bt306.1))) (mx bt306.2 (IntKind.i8.wrap (-bt306.2)))) ≤ (mx bt308.2 (IntKind.i8.wrap (-bt308.1))))) bt306.1 bt306.2 bt308.1 bt308.2)) else (netlablaw02_StrengthDominance.j0 k (decide ((mn (mx bt306.1 (IntKind.i8.wrap (-bt306.1))) (mx bt306.2 (IntKind.i8.wrap (-bt306.2)))) ≤ (mx bt308.2 (IntKind.i8.wrap (-bt308.1))))) bt306.1 bt306.2 bt308.1 bt308.2)))
theorem netlablaw02_StrengthDominance.mono_l : ∀ k, (∀ y0 y1 y2 y3 y4, LeO (netlablaw02_StrengthDominance.j0 k y0 y1 y2 y3 y4) (netlablaw02_StrengthDominance.j0 (k + 1) y0 y1 y2 y3 y4))
 | 0 => fun _ _ _ _ _ r h => by simp [netlablaw02_StrengthDominance.j0] at h
 | k + 1 => by
  have ih0 := netlablaw02_StrengthDominance.mono_l k
  ·intro y0 y1 y2 y3 y4
   unfold netlablaw02_StrengthDominance.j0
   repeat' first
   | (with_reducible exact ih0 _ _ _ _ _)
   | (with_reducible exact netlablaw02_awake.mono _)
   | (with_reducible exact strength_Combine.mono _ _)
   | (with_reducible exact LeO.refl _)
   | (with_reducible exact LeO.none _)
   | (with_reducible refine LeO.ite ?_ ?_)
   | (with_reducible refine LeO.bind ?_ (fun _ => ?_))
   | exact ih0 _ _ _ _ _
   | exact netlablaw02_awake.mono _
   | exact strength_Combine.mono _ _
   | exact LeO.none _
   | refine LeO.ite ?_ ?_
   | refine LeO.bind ?_ (fun _ => ?_)
theorem netlablaw02_StrengthDominance.mono : ∀ a0 a1 a2 a3 k, LeO (netlablaw02_StrengthDominance.f k a0 a1 a2 a3) (netlablaw02_StrengthDominance.f (k + 1) a0 a1 a2 a3) := by
 intro a0 a1 a2 a3 k
 have ih0 := netlablaw02_StrengthDominance.mono_l k
 unfold netlablaw02_StrengthDominance.f
 repeat' first
   | (with_reducible exact ih0 _ _ _ _ _)
   | (with_reducible exact netlablaw02_awake.mono _)
   | (with_reducible exact strength_Combine.mono _ _)
   | (with_reducible exact LeO.refl _)
   | (with_reducible exact LeO.none _)
   | (with_reducible refine LeO.ite ?_ ?_)
   | (with_reducible refine LeO.bind ?_ (fun _ => ?_))
   | exact ih0 _ _ _ _ _
   | exact netlablaw02_awake.mono _
   | exact strength_Combine.mono _ _
   | exact LeO.none _
   | refine LeO.ite ?_ ?_
   | refine LeO.bind ?_ (fun _ => ?_)
def netlablaw02_StrengthDominance.T1 : Bool × List (List Nat × List Nat) := (true, [([], []), ([0], [0]), ([], []), ([2, 1], [2]), ([], []), ([], []), ([4, 1, 3, 0, 1, 4, 5], [1, 4]), ([5, 3, 6, 0, 1, 2, 3, 4, 5, 6], [3, 5])])
def netlablaw02_StrengthDominance.B1 : List Nat := [0, 1, 0, 7, 0, 0, 63, 127]
theorem netlablaw02_StrengthDominance.tab1 : rtab .any (opsOf Tryd.f6 1) = netlablaw02_StrengthDominance.T1 := by kernel_rfl
theorem netlablaw02_StrengthDominance.bits1 : waitsOk netlablaw02_StrengthDominance.T1.2 netlablaw02_StrengthDominance.B1 = true := by kernel_rfl
def netlablaw02_StrengthDominance.T5 : Bool × List (List Nat × List Nat) := (true, [([], []), ([], []), ([0, 1], [0, 1]), ([2], [2]), ([], []), ([3, 4], [3, 4]), ([5, 3], [5]), ([6], [6]), ([6], [6]), ([7, 8, 6], [6, 7, 8]), ([9, 6, 6], [6, 9]), ([6], [6]), ([10, 11, 6], [6, 10, 11]), ([6, 12], [6, 12]), ([13, 10], [13]), ([14, 14], [14]), ([14, 15], [14, 15]), ([16, 15, 0, 1, 2, 3, 4, 5, 6, 7, 8, 9, 10, 11, 12, 13, 14, 15, 16], [16])])
def netlablaw02_StrengthDominance.B5 : List Nat := [0, 0, 3, 7, 0, 31, 63, 127, 127, 511, 1023, 127, 4095, 8191, 16383, 32767, 65535, 131071]
theorem netlablaw02_StrengthDominance.tab5 : rtab .any (opsOf Tryd.f6 5) = netlablaw02_StrengthDominance.T5 := by kernel_rfl
theorem netlablaw02_StrengthDominance.bits5 : waitsOk netlablaw02_StrengthDominance.T5.2 netlablaw02_StrengthDominance.B5 = true := by kernel_rfl
set_option maxHeartbeats 8000000 in
set_option maxRecDepth 100000 in
theorem netlablaw02_StrengthDominance.calls (k : Nat) (a0_0 : Int) (a0_1 : Int) (a1_0 : Int) (a1_1 : Int) (r : Bool) (w : World) (hG : Glob w) (h : netlablaw02_StrengthDominance.f k a0_0 a0_1 a1_0 a1_1 = some r) :
  Calls Tryd.prog 6 #[.agg #[.int .i8 a0_0, .int .i8 a0_1], .agg #[.int .i8 a1_0, .int .i8 a1_1]] w fun e w' => e = .returned (.bool r) ∧ Below w.heap.size w w' := by
 have hu35 := Tryd.underlying35
 have hu26 := Tryd.underlying26
 have HG := Aside0.mk hG
 clear hG
 have HB := Aside0.mk (Below.refl w.heap.size w)
 have H : ((strength_Norm.f a0_0 a0_1).bind fun bt306 => ((strength_Norm.f a1_0 a1_1).bind fun bt308 => (if bt306.1 ≤ 0 then (if bt306.2 ≥ 0 then (netlablaw02_StrengthDominance.j0 k true bt306.1 bt306.2 bt308.1 bt308.2) else (netlablaw02_StrengthDominance.j0 k (decide ((mn (mx bt306.1 (IntKind.i8.wrap (-bt306.1))) (mx bt306.2 (IntKind.i8.wrap (-bt306.2)))) ≤ (mx bt308.2 (IntKind.i8.wrap (-bt308.1))))) bt306.1 bt306.2 bt308.1 bt308.2)) else (netlablaw02_StrengthDominance.j0 k (decide ((mn (mx bt306.1 (IntKind.i8.wrap (-bt306.1))) (mx bt306.2 (IntKind.i8.wrap (-bt306.2)))) ≤ (mx bt308.2 (IntKind.i8.wrap (-bt308.1))))) bt306.1 bt306.2 bt308.1 bt308.2)))) = some r := h
 clear h
 replace H := Option.bind_eq_some_iff.mp H
 obtain ⟨⟨t306, t307⟩, A30, H⟩ := H
 replace H : ((strength_Norm.f a1_0 a1_1).bind fun bt308 => (if t306 ≤ 0 then (if t307 ≥ 0 then (netlablaw02_StrengthDominance.j0 k true t306 t307 bt308.1 bt308.2) else (netlablaw02_StrengthDominance.j0 k (decide ((mn (mx t306 (IntKind.i8.wrap (-t306))) (mx t307 (IntKind.i8.wrap (-t307)))) ≤ (mx bt308.2 (IntKind.i8.wrap (-bt308.1))))) t306 t307 bt308.1 bt308.2)) else (netlablaw02_StrengthDominance.j0 k (decide ((mn (mx t306 (IntKind.i8.wrap (-t306))) (mx t307 (IntKind.i8.wrap (-t307)))) ≤ (mx bt308.2 (IntKind.i8.wrap (-bt308.1))))) t306 t307 bt308.1 bt308.2))) = some r := H
 have A3 := Aside0.mk A30
 clear A30
 replace H := Option.bind_eq_some_iff.mp H
 obtain ⟨⟨t308, t309⟩, A40, H⟩ := H
 replace H : (if t306 ≤ 0 then (if t307 ≥ 0 then (netlablaw02_StrengthDominance.j0 k true t306 t307 t308 t309) else (netlablaw02_StrengthDominance.j0 k (decide ((mn (mx t306 (IntKind.i8.wrap (-t306))) (mx t307 (IntKind.i8.wrap (-t307)))) ≤ (mx t309 (IntKind.i8.wrap (-t308))))) t306 t307 t308 t309)) else (netlablaw02_StrengthDominance.j0 k (decide ((mn (mx t306 (IntKind.i8.wrap (-t306))) (mx t307 (IntKind.i8.wrap (-t307)))) ≤ (mx t309 (IntKind.i8.wrap (-t308))))) t306 t307 t308 t309)) = some r := H
 have A4 := Aside0.mk A40
 clear A40
 obtain ⟨ji5, hji5⟩ : ∃ j_ : Int, (mx t306 (IntKind.i8.wrap (-t306))) = j_ := ⟨_, rfl⟩
 replace H : (if t306 ≤ 0 then (if t307 ≥ 0 then (netlablaw02_StrengthDominance.j0 k true t306 t307 t308 t309) else (netlablaw02_StrengthDominance.j0 k (decide ((mn (ji5) (mx t307 (IntKind.i8.wrap (-t307)))) ≤ (mx t309 (IntKind.i8.wrap (-t308))))) t306 t307 t308 t309)) else (netlablaw02_StrengthDominance.j0 k (decide ((mn (ji5) (mx t307 (IntKind.i8.wrap (-t307)))) ≤ (mx t309 (IntKind.i8.wrap (-t308))))) t306 t307 t308 t309)) = some r := by first | (rw [hji5] at H; exact H) | (simp only [hji5] at H ⊢; exact H)
 (try rw [hji5] at A3)
 (try rw [hji5] at A4)
 have hji5_ : (if t306 < (IntKind.i8.wrap (-t306)) then (IntKind.i8.wrap (-t306)) else t306) = ji5 := hji5
 obtain ⟨ji6, hji6⟩ : ∃ j_ : Int, (mx t307 (IntKind.i8.wrap (-t307))) = j_ := ⟨_, rfl⟩
 replace H : (if t306 ≤ 0 then (if t307 ≥ 0 then (netlablaw02_StrengthDominance.j0 k true t306 t307 t308 t309) else (netlablaw02_StrengthDominance.j0 k (decide ((mn (ji5) (ji6)) ≤ (mx t309 (IntKind.i8.wrap (-t308))))) t306 t307 t308 t309)) else (netlablaw02_StrengthDominance.j0 k (decide ((mn (ji5) (ji6)) ≤ (mx t309 (IntKind.i8.wrap (-t308))))) t306 t307 t308 t309)) = some r := by first | (rw [hji6] at H; exact H) | (simp only [hji6] at H ⊢; exact H)
 (try rw [hji6] at A3)
 (try rw [hji6] at A4)
 have hji6_ : (if t307 < (IntKind.i8.wrap (-t307)) then (IntKind.i8.wrap (-t307)) else t307) = ji6 := hji6
 obtain ⟨ji7, hji7⟩ : ∃ j_ : Int, (mn (ji5) (ji6)) = j_ := ⟨_, rfl⟩
 replace H : (if t306 ≤ 0 then (if t307 ≥ 0 then (netlablaw02_StrengthDominance.j0 k true t306 t307 t308 t309) else (netlablaw02_StrengthDominance.j0 k (decide ((ji7) ≤ (mx t309 (IntKind.i8.wrap (-t308))))) t306 t307 t308 t309)) else (netlablaw02_StrengthDominance.j0 k (decide ((ji7) ≤ (mx t309 (IntKind.i8.wrap (-t308))))) t306 t307 t308 t309)) = some r := by first | (rw [hji7] at H; exact H) | (simp only [hji7] at H ⊢; exact H)
 (try rw [hji7] at A3)
 (try rw [hji7] at A4)
 have hji7_ : (if (ji6) < (ji5) then (ji6) else (ji5)) = ji7 := hji7
 have HC8 := Aside0.mk H
 clear H
 go_enter Tryd.func6, Tryd.ntmps6
 try go_wp2_with (first | ((with_reducible refine gate_dst (N := 2) rfl ?_); (try (refine gate_guard (by rfl) ?_; dsimp only)); refine box_event ?hg (N := 2) ?hd (cs := #[.int .i8 a0_0, .int .i8 a0_1]) (t := 35) ?hr ?_; (case hd => rfl); (case hg => rfl); (case hr => first | (go_simp; done) | (go_simp; rfl)); intro gb304 hg w9 hbox hb; have n0_ := Aside0.mk (below_step (by repeat (first | (with_reducible first | exact HB.out | apply below_alloc | apply pw_below_drewN | apply below_drew1) | exact HB.out)) hb); have n1_ := Aside0.mk (hbox); have n2_ := Aside0.mk ((by rw [hg]; exact (below_size (by repeat (first | (with_reducible first | exact HB.out | apply below_alloc | apply pw_below_drewN | apply below_drew1) | exact HB.out))) : w.heap.size ≤ gb304)); have n3_ := Aside0.mk ((by rw [hg]; exact (below_size (by repeat (first | (with_reducible first | exact HB.out | apply below_alloc | apply pw_below_drewN | apply below_drew1) | exact HB.out))) : w.heap.size ≤ gb304)); clear HB; have HB := n0_; have BK304 := n1_; have GW304 := n2_; have GE304 := n3_; clear n0_ n1_ n2_ n3_; clear hb hbox hg) | ((with_reducible refine gate_dst (N := 3) rfl ?_); (try (refine gate_guard (by rfl) ?_; dsimp only)); refine box_event ?hg (N := 3) ?hd (cs := #[.int .i8 a1_0, .int .i8 a1_1]) (t := 35) ?hr ?_; (case hd => rfl); (case hg => rfl); (case hr => first | (go_simp; done) | (go_simp; rfl)); intro gb305 hg w10 hbox hb; have n0_ := Aside0.mk (blk_below (g := gb304) (o := .cells #[.int .i8 a0_0, .int .i8 a0_1] 35 (0, 0)) (by (with_reducible repeat first | apply bN | apply bD | apply bA); exact BK304.out) hb); have n1_ := Aside0.mk (below_step (by repeat (first | (with_reducible first | exact HB.out | apply below_alloc | apply pw_below_drewN | apply below_drew1 | refine below_set ?_ GE304.out) | exact HB.out)) hb); have n2_ := Aside0.mk (hbox); have n3_ := Aside0.mk ((by rw [hg]; exact (below_size (by repeat (first | (with_reducible first | exact HB.out | apply below_alloc | apply pw_below_drewN | apply below_drew1 | refine below_set ?_ GE304.out) | exact HB.out))) : w.heap.size ≤ gb305)); have n4_ := Aside0.mk ((by rw [hg]; exact (below_size (by repeat (first | (with_reducible first | exact HB.out | apply below_alloc | apply pw_below_drewN | apply below_drew1 | refine below_set ?_ GE304.out) | exact HB.out))) : w.heap.size ≤ gb305)); have n5_ := Aside0.mk ((by rw [hg]; exact Nat.ne_of_lt (blk_lt (g := gb304) (o := .cells #[.int .i8 a0_0, .int .i8 a0_1] 35 (0, 0)) (by (with_reducible repeat first | apply bN | apply bD | apply bA); exact BK304.out)) : gb304 ≠ gb305)); have n6_ := Aside0.mk ((by rw [hg]; exact Nat.ne_of_gt (blk_lt (g := gb304) (o := .cells #[.int .i8 a0_0, .int .i8 a0_1] 35 (0, 0)) (by (with_reducible repeat first | apply bN | apply bD | apply bA); exact BK304.out)) : gb305 ≠ gb304)); clear BK304; clear HB; have BK304 := n0_; have HB := n1_; have BK305 := n2_; have GW305 := n3_; have GE305 := n4_; have NB304_305 := n5_; have NB305_304 := n6_; clear n0_ n1_ n2_ n3_ n4_ n5_ n6_; clear hb hbox hg))
 have n0_ := Aside0.mk (blk_drew BK304.out)
 have n1_ := Aside0.mk (blk_drew BK305.out)
 have n2_ := Aside0.mk (below_drew1 HB.out)
 clear BK304
 clear BK305
 clear HB
 have BK304 := n0_
 have BK305 := n1_
 have HB := n2_
 clear n0_ n1_ n2_
 refine start_ (n := 8) (S := fun w' => w'.cell? ⟨gb304, 0, none⟩ = some (.int .i8 a0_0) ∧ w'.cell? ⟨gb304, 1, none⟩ = some (.int .i8 a0_1) ∧ w'.cell? ⟨gb305, 0, none⟩ = some (.int .i8 a1_0) ∧ w'.cell? ⟨gb305, 1, none⟩ = some (.int .i8 a1_1)) (ds := []) #[false, false, false, false, false, false, false, false] (by kernel_rfl) rfl rfl ⟨(blk_cell BK304.out 0).trans rfl, (blk_cell BK304.out 1).trans rfl, (blk_cell BK305.out 0).trans rfl, (blk_cell BK305.out 1).trans rfl⟩ (fun hHeld => ?_); refine with_tabW netlablaw02_StrengthDominance.tab1 netlablaw02_StrengthDominance.bits1 (fun HT_ HW_ => ?_)
 generalize w10.drew = w11 at BK304 BK305 HB hHeld ⊢
 refine take_ (i := 0) (N := some 8) (v := ?_) (a' := ?_) #[true, false, false, false, false, false, false, false] rfl rfl (take_ofW HT_.out HW_.out (by kernel_rfl)) (fun _ _ _ h => h) (Or.inl ⟨by rfl, ?_⟩) hHeld ?_ ?_
 rotate_left
 ·rintro w' ⟨s0, s1, s2, s3⟩
  go_simp
  with_reducible rfl
 rotate_left
 ·simp only [Act.put, List.setIfInBounds_toArray, List.set_cons_zero, List.set_cons_succ, i64_w, i32_w]
  rfl
 refine take_ (i := 2) (N := some 10) (v := ?_) (a' := ?_) #[true, false, true, false, false, false, false, false] rfl rfl (take_ofW HT_.out HW_.out (by kernel_rfl)) (fun _ _ _ h => h) (Or.inl ⟨by rfl, ?_⟩) hHeld ?_ ?_
 rotate_left
 ·rintro w' ⟨s0, s1, s2, s3⟩
  go_simp
  with_reducible rfl
 rotate_left
 ·simp only [Act.put, List.setIfInBounds_toArray, List.set_cons_zero, List.set_cons_succ, i64_w, i32_w]
  rfl
 refine join_ (σ := Nat × Nat) 2 #[true, true, true, true, true, true, false, false] (fun s_ => [(9, .agg #[.int .i8 t306, .int .i8 t307]), (11, .agg #[.int .i8 t308, .int .i8 t309]), (5, .pointer (some ⟨s_.1, 0, none⟩)), (6, .pointer (some ⟨s_.2, 0, none⟩))]) (fun s_ w' => (w'.cell? ⟨gb304, 0, none⟩ = some (.int .i8 a0_0) ∧ w'.cell? ⟨gb304, 1, none⟩ = some (.int .i8 a0_1) ∧ w'.cell? ⟨gb305, 0, none⟩ = some (.int .i8 a1_0) ∧ w'.cell? ⟨gb305, 1, none⟩ = some (.int .i8 a1_1)) ∧ (w'.heap[gb304]? = some (.cells #[.int .i8 a0_0, .int .i8 a0_1] 35 (0, 0))) ∧ (w'.heap[gb305]? = some (.cells #[.int .i8 a1_0, .int .i8 a1_1] 35 (0, 0))) ∧ (w'.heap[s_.1]? = some (.cells #[.int .i8 0, .int .i8 0] 26 (0, 0))) ∧ (w'.heap[s_.2]? = some (.cells #[.int .i8 0, .int .i8 0] 26 (0, 0))) ∧ (w.heap.size ≤ s_.1) ∧ (w.heap.size ≤ s_.1) ∧ (gb304 ≠ s_.1) ∧ (s_.1 ≠ gb304) ∧ (gb305 ≠ s_.1) ∧ (s_.1 ≠ gb305) ∧ (s_.2 ≠ s_.1) ∧ (s_.1 ≠ s_.2) ∧ (w.heap.size ≤ s_.2) ∧ (w.heap.size ≤ s_.2) ∧ (gb304 ≠ s_.2) ∧ (s_.2 ≠ gb304) ∧ (gb305 ≠ s_.2) ∧ (s_.2 ≠ gb305) ∧ (Below w.heap.size w w')) ?_ ?_
 rotate_left
 ·intro hJ1_3_4_5
  refine join_ (σ := Nat) 3 #[true, true, true, true, true, false, false, false] (fun s_ => [(9, .agg #[.int .i8 t306, .int .i8 t307]), (11, .agg #[.int .i8 t308, .int .i8 t309]), (5, .pointer (some ⟨s_, 0, none⟩))]) (fun s_ w' => (w'.cell? ⟨gb304, 0, none⟩ = some (.int .i8 a0_0) ∧ w'.cell? ⟨gb304, 1, none⟩ = some (.int .i8 a0_1) ∧ w'.cell? ⟨gb305, 0, none⟩ = some (.int .i8 a1_0) ∧ w'.cell? ⟨gb305, 1, none⟩ = some (.int .i8 a1_1)) ∧ (w'.heap[gb304]? = some (.cells #[.int .i8 a0_0, .int .i8 a0_1] 35 (0, 0))) ∧ (w'.heap[gb305]? = some (.cells #[.int .i8 a1_0, .int .i8 a1_1] 35 (0, 0))) ∧ (w'.heap[s_]? = some (.cells #[.int .i8 0, .int .i8 0] 26 (0, 0))) ∧ (w.heap.size ≤ s_) ∧ (w.heap.size ≤ s_) ∧ (gb304 ≠ s_) ∧ (s_ ≠ gb304) ∧ (gb305 ≠ s_) ∧ (s_ ≠ gb305) ∧ (Below w.heap.size w w')) ?_ ?_
  rotate_left
  ·intro hJ1_3_4
   refine join_ (σ := Nat) 3 #[true, true, true, true, false, true, false, false] (fun s_ => [(9, .agg #[.int .i8 t306, .int .i8 t307]), (11, .agg #[.int .i8 t308, .int .i8 t309]), (6, .pointer (some ⟨s_, 0, none⟩))]) (fun s_ w' => (w'.cell? ⟨gb304, 0, none⟩ = some (.int .i8 a0_0) ∧ w'.cell? ⟨gb304, 1, none⟩ = some (.int .i8 a0_1) ∧ w'.cell? ⟨gb305, 0, none⟩ = some (.int .i8 a1_0) ∧ w'.cell? ⟨gb305, 1, none⟩ = some (.int .i8 a1_1)) ∧ (w'.heap[gb304]? = some (.cells #[.int .i8 a0_0, .int .i8 a0_1] 35 (0, 0))) ∧ (w'.heap[gb305]? = some (.cells #[.int .i8 a1_0, .int .i8 a1_1] 35 (0, 0))) ∧ (w'.heap[s_]? = some (.cells #[.int .i8 0, .int .i8 0] 26 (0, 0))) ∧ (w.heap.size ≤ s_) ∧ (w.heap.size ≤ s_) ∧ (gb304 ≠ s_) ∧ (s_ ≠ gb304) ∧ (gb305 ≠ s_) ∧ (s_ ≠ gb305) ∧ (Below w.heap.size w w')) ?_ ?_
   rotate_left
   ·intro hJ1_3_5
    refine join_ (σ := Nat × Nat) 3 #[true, true, true, false, true, true, false, false] (fun s_ => [(9, .agg #[.int .i8 t306, .int .i8 t307]), (5, .pointer (some ⟨s_.1, 0, none⟩)), (6, .pointer (some ⟨s_.2, 0, none⟩))]) (fun s_ w' => (w'.cell? ⟨gb304, 0, none⟩ = some (.int .i8 a0_0) ∧ w'.cell? ⟨gb304, 1, none⟩ = some (.int .i8 a0_1) ∧ w'.cell? ⟨gb305, 0, none⟩ = some (.int .i8 a1_0) ∧ w'.cell? ⟨gb305, 1, none⟩ = some (.int .i8 a1_1)) ∧ (w'.heap[gb304]? = some (.cells #[.int .i8 a0_0, .int .i8 a0_1] 35 (0, 0))) ∧ (w'.heap[gb305]? = some (.cells #[.int .i8 a1_0, .int .i8 a1_1] 35 (0, 0))) ∧ (w'.heap[s_.1]? = some (.cells #[.int .i8 0, .int .i8 0] 26 (0, 0))) ∧ (w'.heap[s_.2]? = some (.cells #[.int .i8 0, .int .i8 0] 26 (0, 0))) ∧ (w.heap.size ≤ s_.1) ∧ (w.heap.size ≤ s_.1) ∧ (gb304 ≠ s_.1) ∧ (s_.1 ≠ gb304) ∧ (gb305 ≠ s_.1) ∧ (s_.1 ≠ gb305) ∧ (s_.2 ≠ s_.1) ∧ (s_.1 ≠ s_.2) ∧ (w.heap.size ≤ s_.2) ∧ (w.heap.size ≤ s_.2) ∧ (gb304 ≠ s_.2) ∧ (s_.2 ≠ gb304) ∧ (gb305 ≠ s_.2) ∧ (s_.2 ≠ gb305) ∧ (Below w.heap.size w w')) ?_ ?_
    rotate_left
    ·intro hJ1_4_5
     refine join_ (σ := Unit) 4 #[true, true, true, true, false, false, false, false] (fun s_ => [(9, .agg #[.int .i8 t306, .int .i8 t307]), (11, .agg #[.int .i8 t308, .int .i8 t309])]) (fun s_ w' => (w'.cell? ⟨gb304, 0, none⟩ = some (.int .i8 a0_0) ∧ w'.cell? ⟨gb304, 1, none⟩ = some (.int .i8 a0_1) ∧ w'.cell? ⟨gb305, 0, none⟩ = some (.int .i8 a1_0) ∧ w'.cell? ⟨gb305, 1, none⟩ = some (.int .i8 a1_1)) ∧ (w'.heap[gb304]? = some (.cells #[.int .i8 a0_0, .int .i8 a0_1] 35 (0, 0))) ∧ (w'.heap[gb305]? = some (.cells #[.int .i8 a1_0, .int .i8 a1_1] 35 (0, 0))) ∧ (Below w.heap.size w w')) ?_ ?_
     rotate_left
     ·intro hJ1_3
      refine join_ (σ := Nat) 4 #[true, true, true, false, true, false, false, false] (fun s_ => [(9, .agg #[.int .i8 t306, .int .i8 t307]), (5, .pointer (some ⟨s_, 0, none⟩))]) (fun s_ w' => (w'.cell? ⟨gb304, 0, none⟩ = some (.int .i8 a0_0) ∧ w'.cell? ⟨gb304, 1, none⟩ = some (.int .i8 a0_1) ∧ w'.cell? ⟨gb305, 0, none⟩ = some (.int .i8 a1_0) ∧ w'.cell? ⟨gb305, 1, none⟩ = some (.int .i8 a1_1)) ∧ (w'.heap[gb304]? = some (.cells #[.int .i8 a0_0, .int .i8 a0_1] 35 (0, 0))) ∧ (w'.heap[gb305]? = some (.cells #[.int .i8 a1_0, .int .i8 a1_1] 35 (0, 0))) ∧ (w'.heap[s_]? = some (.cells #[.int .i8 0, .int .i8 0] 26 (0, 0))) ∧ (w.heap.size ≤ s_) ∧ (w.heap.size ≤ s_) ∧ (gb304 ≠ s_) ∧ (s_ ≠ gb304) ∧ (gb305 ≠ s_) ∧ (s_ ≠ gb305) ∧ (Below w.heap.size w w')) ?_ ?_
      rotate_left
      ·intro hJ1_4
       refine join_ (σ := Nat) 4 #[true, true, true, false, false, true, false, false] (fun s_ => [(9, .agg #[.int .i8 t306, .int .i8 t307]), (6, .pointer (some ⟨s_, 0, none⟩))]) (fun s_ w' => (w'.cell? ⟨gb304, 0, none⟩ = some (.int .i8 a0_0) ∧ w'.cell? ⟨gb304, 1, none⟩ = some (.int .i8 a0_1) ∧ w'.cell? ⟨gb305, 0, none⟩ = some (.int .i8 a1_0) ∧ w'.cell? ⟨gb305, 1, none⟩ = some (.int .i8 a1_1)) ∧ (w'.heap[gb304]? = some (.cells #[.int .i8 a0_0, .int .i8 a0_1] 35 (0, 0))) ∧ (w'.heap[gb305]? = some (.cells #[.int .i8 a1_0, .int .i8 a1_1] 35 (0, 0))) ∧ (w'.heap[s_]? = some (.cells #[.int .i8 0, .int .i8 0] 26 (0, 0))) ∧ (w.heap.size ≤ s_) ∧ (w.heap.size ≤ s_) ∧ (gb304 ≠ s_) ∧ (s_ ≠ gb304) ∧ (gb305 ≠ s_) ∧ (s_ ≠ gb305) ∧ (Below w.heap.size w w')) ?_ ?_
       rotate_left
       ·intro hJ1_5
        refine join_ (σ := Nat × Nat) 4 #[true, false, true, false, true, true, false, false] (fun s_ => [(5, .pointer (some ⟨s_.1, 0, none⟩)), (6, .pointer (some ⟨s_.2, 0, none⟩))]) (fun s_ w' => (w'.cell? ⟨gb304, 0, none⟩ = some (.int .i8 a0_0) ∧ w'.cell? ⟨gb304, 1, none⟩ = some (.int .i8 a0_1) ∧ w'.cell? ⟨gb305, 0, none⟩ = some (.int .i8 a1_0) ∧ w'.cell? ⟨gb305, 1, none⟩ = some (.int .i8 a1_1)) ∧ (w'.heap[gb304]? = some (.cells #[.int .i8 a0_0, .int .i8 a0_1] 35 (0, 0))) ∧ (w'.heap[gb305]? = some (.cells #[.int .i8 a1_0, .int .i8 a1_1] 35 (0, 0))) ∧ (w'.heap[s_.1]? = some (.cells #[.int .i8 0, .int .i8 0] 26 (0, 0))) ∧ (w'.heap[s_.2]? = some (.cells #[.int .i8 0, .int .i8 0] 26 (0, 0))) ∧ (w.heap.size ≤ s_.1) ∧ (w.heap.size ≤ s_.1) ∧ (gb304 ≠ s_.1) ∧ (s_.1 ≠ gb304) ∧ (gb305 ≠ s_.1) ∧ (s_.1 ≠ gb305) ∧ (s_.2 ≠ s_.1) ∧ (s_.1 ≠ s_.2) ∧ (w.heap.size ≤ s_.2) ∧ (w.heap.size ≤ s_.2) ∧ (gb304 ≠ s_.2) ∧ (s_.2 ≠ gb304) ∧ (gb305 ≠ s_.2) ∧ (s_.2 ≠ gb305) ∧ (Below w.heap.size w w')) ?_ ?_
        rotate_left
        ·intro hJ4_5
         refine join_ (σ := Unit) 5 #[true, true, true, false, false, false, false, false] (fun s_ => [(9, .agg #[.int .i8 t306, .int .i8 t307])]) (fun s_ w' => (w'.cell? ⟨gb304, 0, none⟩ = some (.int .i8 a0_0) ∧ w'.cell? ⟨gb304, 1, none⟩ = some (.int .i8 a0_1) ∧ w'.cell? ⟨gb305, 0, none⟩ = some (.int .i8 a1_0) ∧ w'.cell? ⟨gb305, 1, none⟩ = some (.int .i8 a1_1)) ∧ (w'.heap[gb304]? = some (.cells #[.int .i8 a0_0, .int .i8 a0_1] 35 (0, 0))) ∧ (w'.heap[gb305]? = some (.cells #[.int .i8 a1_0, .int .i8 a1_1] 35 (0, 0))) ∧ (Below w.heap.size w w')) ?_ ?_
         rotate_left
         ·intro hJ1
          refine join_ (σ := Nat) 5 #[true, false, true, false, true, false, false, false] (fun s_ => [(5, .pointer (some ⟨s_, 0, none⟩))]) (fun s_ w' => (w'.cell? ⟨gb304, 0, none⟩ = some (.int .i8 a0_0) ∧ w'.cell? ⟨gb304, 1, none⟩ = some (.int .i8 a0_1) ∧ w'.cell? ⟨gb305, 0, none⟩ = some (.int .i8 a1_0) ∧ w'.cell? ⟨gb305, 1, none⟩ = some (.int .i8 a1_1)) ∧ (w'.heap[gb304]? = some (.cells #[.int .i8 a0_0, .int .i8 a0_1] 35 (0, 0))) ∧ (w'.heap[gb305]? = some (.cells #[.int .i8 a1_0, .int .i8 a1_1] 35 (0, 0))) ∧ (w'.heap[s_]? = some (.cells #[.int .i8 0, .int .i8 0] 26 (0, 0))) ∧ (w.heap.size ≤ s_) ∧ (w.heap.size ≤ s_) ∧ (gb304 ≠ s_) ∧ (s_ ≠ gb304) ∧ (gb305 ≠ s_) ∧ (s_ ≠ gb305) ∧ (Below w.heap.size w w')) ?_ ?_
          rotate_left
          ·intro hJ4
           refine join_ (σ := Nat) 5 #[true, false, true, false, false, true, false, false] (fun s_ => [(6, .pointer (some ⟨s_, 0, none⟩))]) (fun s_ w' => (w'.cell? ⟨gb304, 0, none⟩ = some (.int .i8 a0_0) ∧ w'.cell? ⟨gb304, 1, none⟩ = some (.int .i8 a0_1) ∧ w'.cell? ⟨gb305, 0, none⟩ = some (.int .i8 a1_0) ∧ w'.cell? ⟨gb305, 1, none⟩ = some (.int .i8 a1_1)) ∧ (w'.heap[gb304]? = some (.cells #[.int .i8 a0_0, .int .i8 a0_1] 35 (0, 0))) ∧ (w'.heap[gb305]? = some (.cells #[.int .i8 a1_0, .int .i8 a1_1] 35 (0, 0))) ∧ (w'.heap[s_]? = some (.cells #[.int .i8 0, .int .i8 0] 26 (0, 0))) ∧ (w.heap.size ≤ s_) ∧ (w.heap.size ≤ s_) ∧ (gb304 ≠ s_) ∧ (s_ ≠ gb304) ∧ (gb305 ≠ s_) ∧ (s_ ≠ gb305) ∧ (Below w.heap.size w w')) ?_ ?_
           rotate_left
           ·intro hJ5
            refine three_ (i := 1) (j := 4) (k := 5) (Ni := some 9) (Nj := some 5) (Nk := some 6) #[true, true, true, false, false, false, false, false] #[true, false, true, false, true, false, false, false] #[true, false, true, false, false, true, false, false] rfl rfl rfl rfl rfl rfl (three_of HT_.out (by kernel_rfl)) (by decide) (by decide) (by decide) (fun K hK => ?_) (fun K hK => ?_) (fun K hK => ?_)
            ·skip
             refine goes_ Tryd.func22 (by kernel_rfl) rfl #[.agg #[.int .i8 a0_0, .int .i8 a0_1]] (by rfl) rfl rfl (by (try simp only [List.map_toArray, List.map_cons, List.map_nil]); first | done | rfl | (simp only [List.length_drop, List.length_take]; rfl)) ?_
             with_reducible refine (strength_Norm.calls a0_0 a0_1 t306 t307 _ A3.out).mono ?_
             rintro e w12 ⟨rfl, hb⟩
             refine ⟨_, rfl, ?_⟩
             have n0_ := Aside0.mk (blk_below (g := gb304) (o := .cells #[.int .i8 a0_0, .int .i8 a0_1] 35 (0, 0)) (by (with_reducible repeat first | apply bN | apply bD | apply bA); exact BK304.out) hb)
             have n1_ := Aside0.mk (blk_below (g := gb305) (o := .cells #[.int .i8 a1_0, .int .i8 a1_1] 35 (0, 0)) (by (with_reducible repeat first | apply bN | apply bD | apply bA); exact BK305.out) hb)
             have n2_ := Aside0.mk (below_step (by repeat (first | (with_reducible first | exact HB.out | apply below_alloc | apply pw_below_drewN | apply below_drew1 | refine below_set ?_ GE304.out | refine below_set ?_ GE305.out) | exact HB.out)) hb)
             clear BK304
             clear BK305
             clear HB
             have BK304 := n0_
             have BK305 := n1_
             have HB := n2_
             clear n0_ n1_ n2_
             (try clear hb)
             (try clear hb2)
             (try clear hk)
             (try clear hi)
             refine hK.out _ _ ⟨(blk_cell BK304.out 0).trans rfl, (blk_cell BK304.out 1).trans rfl, (blk_cell BK305.out 0).trans rfl, (blk_cell BK305.out 1).trans rfl⟩ (fun hHeld => ?_)
             clear hK K
             refine norm_ (a' := ?_) ?_ ?_
             rotate_left
             ·show Act.put _ (some 9) _ = _
              simp only [Act.put, List.setIfInBounds_toArray, List.set_cons_zero, List.set_cons_succ, i64_w, i32_w]
              rfl
             exact norm_ (by first | (simp only [putAll, Act.put, List.setIfInBounds_toArray, List.set_cons_zero, List.set_cons_succ]; done) | (simp only [putAll, Act.put, List.setIfInBounds_toArray, List.set_cons_zero, List.set_cons_succ]; rfl)) (hJ1 () _ ⟨hHeld, (by (with_reducible repeat first | apply bN | apply bD | apply bA); exact BK304.out), (by (with_reducible repeat first | apply bN | apply bD | apply bA); exact BK305.out), (by repeat (first | (with_reducible first | exact HB.out | apply below_alloc | apply pw_below_drewN | apply below_drew1 | refine below_set ?_ GE304.out | refine below_set ?_ GE305.out) | exact HB.out))⟩)
            ·skip
             refine box_step ?hg (N := 5) ?hd (cs := #[.int .i8 0, .int .i8 0]) (t := 26) ?hr ?_; (case hd => rfl); (case hg => rfl); (case hr => first | (go_simp; done) | (go_simp; rfl))
             intro gb310 hg w12 hbox hb
             have n0_ := Aside0.mk (blk_below (g := gb304) (o := .cells #[.int .i8 a0_0, .int .i8 a0_1] 35 (0, 0)) (by (with_reducible repeat first | apply bN | apply bD | apply bA); exact BK304.out) hb)
             have n1_ := Aside0.mk (blk_below (g := gb305) (o := .cells #[.int .i8 a1_0, .int .i8 a1_1] 35 (0, 0)) (by (with_reducible repeat first | apply bN | apply bD | apply bA); exact BK305.out) hb)
             have n2_ := Aside0.mk (below_step (by repeat (first | (with_reducible first | exact HB.out | apply below_alloc | apply pw_below_drewN | apply below_drew1 | refine below_set ?_ GE304.out | refine below_set ?_ GE305.out) | exact HB.out)) hb)
             have n3_ := Aside0.mk (hbox)
             have n4_ := Aside0.mk ((by rw [hg]; exact (below_size (by repeat (first | (with_reducible first | exact HB.out | apply below_alloc | apply pw_below_drewN | apply below_drew1 | refine below_set ?_ GE304.out | refine below_set ?_ GE305.out) | exact HB.out))) : w.heap.size ≤ gb310))
             have n5_ := Aside0.mk ((by rw [hg]; exact (below_size (by repeat (first | (with_reducible first | exact HB.out | apply below_alloc | apply pw_below_drewN | apply below_drew1 | refine below_set ?_ GE304.out | refine below_set ?_ GE305.out) | exact HB.out))) : w.heap.size ≤ gb310))
             have n6_ := Aside0.mk ((by rw [hg]; exact Nat.ne_of_lt (blk_lt (g := gb304) (o := .cells #[.int .i8 a0_0, .int .i8 a0_1] 35 (0, 0)) (by (with_reducible repeat first | apply bN | apply bD | apply bA); exact BK304.out)) : gb304 ≠ gb310))
             have n7_ := Aside0.mk ((by rw [hg]; exact Nat.ne_of_gt (blk_lt (g := gb304) (o := .cells #[.int .i8 a0_0, .int .i8 a0_1] 35 (0, 0)) (by (with_reducible repeat first | apply bN | apply bD | apply bA); exact BK304.out)) : gb310 ≠ gb304))
             have n8_ := Aside0.mk ((by rw [hg]; exact Nat.ne_of_lt (blk_lt (g := gb305) (o := .cells #[.int .i8 a1_0, .int .i8 a1_1] 35 (0, 0)) (by (with_reducible repeat first | apply bN | apply bD | apply bA); exact BK305.out)) : gb305 ≠ gb310))
             have n9_ := Aside0.mk ((by rw [hg]; exact Nat.ne_of_gt (blk_lt (g := gb305) (o := .cells #[.int .i8 a1_0, .int .i8 a1_1] 35 (0, 0)) (by (with_reducible repeat first | apply bN | apply bD | apply bA); exact BK305.out)) : gb310 ≠ gb305))
             clear BK304
             clear BK305
             clear HB
             have BK304 := n0_
             have BK305 := n1_
             have HB := n2_
             have BK310 := n3_
             have GW310 := n4_
             have GE310 := n5_
             have NB304_310 := n6_
             have NB310_304 := n7_
             have NB305_310 := n8_
             have NB310_305 := n9_
             clear n0_ n1_ n2_ n3_ n4_ n5_ n6_ n7_ n8_ n9_
             clear hb hbox hg
             refine hK.out _ _ ⟨(blk_cell BK304.out 0).trans rfl, (blk_cell BK304.out 1).trans rfl, (blk_cell BK305.out 0).trans rfl, (blk_cell BK305.out 1).trans rfl⟩ (fun hHeld => ?_)
             clear hK K
             refine norm_ (a' := ?_) ?_ ?_
             rotate_left
             ·show Act.put _ (some 5) _ = _
              simp only [Act.put, List.setIfInBounds_toArray, List.set_cons_zero, List.set_cons_succ, i64_w, i32_w]
              rfl
             exact norm_ (by first | (simp only [putAll, Act.put, List.setIfInBounds_toArray, List.set_cons_zero, List.set_cons_succ]; done) | (simp only [putAll, Act.put, List.setIfInBounds_toArray, List.set_cons_zero, List.set_cons_succ]; rfl)) (hJ4 (gb310) _ ⟨hHeld, (by (with_reducible repeat first | apply bN | apply bD | apply bA); exact BK304.out), (by (with_reducible repeat first | apply bN | apply bD | apply bA); exact BK305.out), (by (with_reducible repeat first | apply bN | apply bD | apply bA); exact BK310.out), GW310.out, GE310.out, NB304_310.out, NB310_304.out, NB305_310.out, NB310_305.out, (by repeat (first | (with_reducible first | exact HB.out | apply below_alloc | apply pw_below_drewN | apply below_drew1 | refine below_set ?_ GE304.out | refine below_set ?_ GE305.out | refine below_set ?_ GE310.out) | exact HB.out))⟩)
            ·skip
             refine box_step ?hg (N := 6) ?hd (cs := #[.int .i8 0, .int .i8 0]) (t := 26) ?hr ?_; (case hd => rfl); (case hg => rfl); (case hr => first | (go_simp; done) | (go_simp; rfl))
             intro gb311 hg w12 hbox hb
             have n0_ := Aside0.mk (blk_below (g := gb304) (o := .cells #[.int .i8 a0_0, .int .i8 a0_1] 35 (0, 0)) (by (with_reducible repeat first | apply bN | apply bD | apply bA); exact BK304.out) hb)
             have n1_ := Aside0.mk (blk_below (g := gb305) (o := .cells #[.int .i8 a1_0, .int .i8 a1_1] 35 (0, 0)) (by (with_reducible repeat first | apply bN | apply bD | apply bA); exact BK305.out) hb)
             have n2_ := Aside0.mk (below_step (by repeat (first | (with_reducible first | exact HB.out | apply below_alloc | apply pw_below_drewN | apply below_drew1 | refine below_set ?_ GE304.out | refine below_set ?_ GE305.out) | exact HB.out)) hb)
             have n3_ := Aside0.mk (hbox)
             have n4_ := Aside0.mk ((by rw [hg]; exact (below_size (by repeat (first | (with_reducible first | exact HB.out | apply below_alloc | apply pw_below_drewN | apply below_drew1 | refine below_set ?_ GE304.out | refine below_set ?_ GE305.out) | exact HB.out))) : w.heap.size ≤ gb311))
             have n5_ := Aside0.mk ((by rw [hg]; exact (below_size (by repeat (first | (with_reducible first | exact HB.out | apply below_alloc | apply pw_below_drewN | apply below_drew1 | refine below_set ?_ GE304.out | refine below_set ?_ GE305.out) | exact HB.out))) : w.heap.size ≤ gb311))
             have n6_ := Aside0.mk ((by rw [hg]; exact Nat.ne_of_lt (blk_lt (g := gb304) (o := .cells #[.int .i8 a0_0, .int .i8 a0_1] 35 (0, 0)) (by (with_reducible repeat first | apply bN | apply bD | apply bA); exact BK304.out)) : gb304 ≠ gb311))
             have n7_ := Aside0.mk ((by rw [hg]; exact Nat.ne_of_gt (blk_lt (g := gb304) (o := .cells #[.int .i8 a0_0, .int .i8 a0_1] 35 (0, 0)) (by (with_reducible repeat first | apply bN | apply bD | apply bA); exact BK304.out)) : gb311 ≠ gb304))
             have n8_ := Aside0.mk ((by rw [hg]; exact Nat.ne_of_lt (blk_lt (g := gb305) (o := .cells #[.int .i8 a1_0, .int .i8 a1_1] 35 (0, 0)) (by (with_reducible repeat first | apply bN | apply bD | apply bA); exact BK305.out)) : gb305 ≠ gb311))
             have n9_ := Aside0.mk ((by rw [hg]; exact Nat.ne_of_gt (blk_lt (g := gb305) (o := .cells #[.int .i8 a1_0, .int .i8 a1_1] 35 (0, 0)) (by (with_reducible repeat first | apply bN | apply bD | apply bA); exact BK305.out)) : gb311 ≠ gb305))
             clear BK304
             clear BK305
             clear HB
             have BK304 := n0_
             have BK305 := n1_
             have HB := n2_
             have BK311 := n3_
             have GW311 := n4_
             have GE311 := n5_
             have NB304_311 := n6_
             have NB311_304 := n7_
             have NB305_311 := n8_
             have NB311_305 := n9_
             clear n0_ n1_ n2_ n3_ n4_ n5_ n6_ n7_ n8_ n9_
             clear hb hbox hg
             refine hK.out _ _ ⟨(blk_cell BK304.out 0).trans rfl, (blk_cell BK304.out 1).trans rfl, (blk_cell BK305.out 0).trans rfl, (blk_cell BK305.out 1).trans rfl⟩ (fun hHeld => ?_)
             clear hK K
             refine norm_ (a' := ?_) ?_ ?_
             rotate_left
             ·show Act.put _ (some 6) _ = _
              simp only [Act.put, List.setIfInBounds_toArray, List.set_cons_zero, List.set_cons_succ, i64_w, i32_w]
              rfl
             exact norm_ (by first | (simp only [putAll, Act.put, List.setIfInBounds_toArray, List.set_cons_zero, List.set_cons_succ]; done) | (simp only [putAll, Act.put, List.setIfInBounds_toArray, List.set_cons_zero, List.set_cons_succ]; rfl)) (hJ5 (gb311) _ ⟨hHeld, (by (with_reducible repeat first | apply bN | apply bD | apply bA); exact BK304.out), (by (with_reducible repeat first | apply bN | apply bD | apply bA); exact BK305.out), (by (with_reducible repeat first | apply bN | apply bD | apply bA); exact BK311.out), GW311.out, GE311.out, NB304_311.out, NB311_304.out, NB305_311.out, NB311_305.out, (by repeat (first | (with_reducible first | exact HB.out | apply below_alloc | apply pw_below_drewN | apply below_drew1 | refine below_set ?_ GE304.out | refine below_set ?_ GE305.out | refine below_set ?_ GE311.out) | exact HB.out))⟩)
           ·skip
            rintro gb311 w13 ⟨hS_, h0_, h1_, h2_, h3_, h4_, h5_, h6_, h7_, h8_, h9_⟩
            have n0_ : Aside0 (w13.heap[gb304]? = some (.cells #[.int .i8 a0_0, .int .i8 a0_1] 35 (0, 0))) := ⟨h0_⟩
            have n1_ : Aside0 (w13.heap[gb305]? = some (.cells #[.int .i8 a1_0, .int .i8 a1_1] 35 (0, 0))) := ⟨h1_⟩
            have n2_ : Aside0 (w13.heap[gb311]? = some (.cells #[.int .i8 0, .int .i8 0] 26 (0, 0))) := ⟨h2_⟩
            have n3_ : Aside0 (w.heap.size ≤ gb311) := ⟨h3_⟩
            have n4_ : Aside0 (w.heap.size ≤ gb311) := ⟨h4_⟩
            have n5_ : Aside0 (gb304 ≠ gb311) := ⟨h5_⟩
            have n6_ : Aside0 (gb311 ≠ gb304) := ⟨h6_⟩
            have n7_ : Aside0 (gb305 ≠ gb311) := ⟨h7_⟩
            have n8_ : Aside0 (gb311 ≠ gb305) := ⟨h8_⟩
            have n9_ : Aside0 (Below w.heap.size w w13) := ⟨h9_⟩
            clear BK304
            clear BK305
            clear HB
            clear h0_ h1_ h2_ h3_ h4_ h5_ h6_ h7_ h8_ h9_
            have BK304 := n0_
            have BK305 := n1_
            have BK311 := n2_
            have GW311 := n3_
            have GE311 := n4_
            have NB304_311 := n5_
            have NB311_304 := n6_
            have NB305_311 := n7_
            have NB311_305 := n8_
            have HB := n9_
            clear n0_ n1_ n2_ n3_ n4_ n5_ n6_ n7_ n8_ n9_
            have hHeld : w13.cell? ⟨gb304, 0, none⟩ = some (.int .i8 a0_0) ∧ w13.cell? ⟨gb304, 1, none⟩ = some (.int .i8 a0_1) ∧ w13.cell? ⟨gb305, 0, none⟩ = some (.int .i8 a1_0) ∧ w13.cell? ⟨gb305, 1, none⟩ = some (.int .i8 a1_1) := hS_
            refine norm_ (a' := ?_) ?_ ?_
            rotate_left
            ·simp only [putAll, Act.put, List.setIfInBounds_toArray, List.set_cons_zero, List.set_cons_succ]
             rfl
            refine two_ (i := 1) (j := 4) (Ni := some 9) (Nj := some 5) #[true, true, true, false, false, true, false, false] #[true, false, true, false, true, true, false, false] rfl rfl rfl rfl (two_of HT_.out (by kernel_rfl)) (by decide) (by decide) (fun K hK => ?_) (fun K hK => ?_)
            ·skip
             refine goes_ Tryd.func22 (by kernel_rfl) rfl #[.agg #[.int .i8 a0_0, .int .i8 a0_1]] (by rfl) rfl rfl (by (try simp only [List.map_toArray, List.map_cons, List.map_nil]); first | done | rfl | (simp only [List.length_drop, List.length_take]; rfl)) ?_
             with_reducible refine (strength_Norm.calls a0_0 a0_1 t306 t307 _ A3.out).mono ?_
             rintro e w14 ⟨rfl, hb⟩
             refine ⟨_, rfl, ?_⟩
             have n0_ := Aside0.mk (blk_below (g := gb304) (o := .cells #[.int .i8 a0_0, .int .i8 a0_1] 35 (0, 0)) (by (with_reducible repeat first | apply bN | apply bD | apply bA); exact BK304.out) hb)
             have n1_ := Aside0.mk (blk_below (g := gb305) (o := .cells #[.int .i8 a1_0, .int .i8 a1_1] 35 (0, 0)) (by (with_reducible repeat first | apply bN | apply bD | apply bA); exact BK305.out) hb)
             have n2_ := Aside0.mk (blk_below (g := gb311) (o := .cells #[.int .i8 0, .int .i8 0] 26 (0, 0)) (by (with_reducible repeat first | apply bN | apply bD | apply bA); exact BK311.out) hb)
             have n3_ := Aside0.mk (below_step (by repeat (first | (with_reducible first | exact HB.out | apply below_alloc | apply pw_below_drewN | apply below_drew1 | refine below_set ?_ GE304.out | refine below_set ?_ GE305.out | refine below_set ?_ GE311.out) | exact HB.out)) hb)
             clear BK304
             clear BK305
             clear BK311
             clear HB
             have BK304 := n0_
             have BK305 := n1_
             have BK311 := n2_
             have HB := n3_
             clear n0_ n1_ n2_ n3_
             (try clear hb)
             (try clear hb2)
             (try clear hk)
             (try clear hi)
             refine hK.out _ _ ⟨(blk_cell BK304.out 0).trans rfl, (blk_cell BK304.out 1).trans rfl, (blk_cell BK305.out 0).trans rfl, (blk_cell BK305.out 1).trans rfl⟩ (fun hHeld => ?_)
             clear hK K
             refine norm_ (a' := ?_) ?_ ?_
             rotate_left
             ·show Act.put _ (some 9) _ = _
              simp only [Act.put, List.setIfInBounds_toArray, List.set_cons_zero, List.set_cons_succ, i64_w, i32_w]
              rfl
             exact norm_ (by first | (simp only [putAll, Act.put, List.setIfInBounds_toArray, List.set_cons_zero, List.set_cons_succ]; done) | (simp only [putAll, Act.put, List.setIfInBounds_toArray, List.set_cons_zero, List.set_cons_succ]; rfl)) (hJ1_5 (gb311) _ ⟨hHeld, (by (with_reducible repeat first | apply bN | apply bD | apply bA); exact BK304.out), (by (with_reducible repeat first | apply bN | apply bD | apply bA); exact BK305.out), (by (with_reducible repeat first | apply bN | apply bD | apply bA); exact BK311.out), GW311.out, GE311.out, NB304_311.out, NB311_304.out, NB305_311.out, NB311_305.out, (by repeat (first | (with_reducible first | exact HB.out | apply below_alloc | apply pw_below_drewN | apply below_drew1 | refine below_set ?_ GE304.out | refine below_set ?_ GE305.out | refine below_set ?_ GE311.out) | exact HB.out))⟩)
            ·skip
             refine box_step ?hg (N := 5) ?hd (cs := #[.int .i8 0, .int .i8 0]) (t := 26) ?hr ?_; (case hd => rfl); (case hg => rfl); (case hr => first | (go_simp; done) | (go_simp; rfl))
             intro gb310 hg w14 hbox hb
             have n0_ := Aside0.mk (blk_below (g := gb304) (o := .cells #[.int .i8 a0_0, .int .i8 a0_1] 35 (0, 0)) (by (with_reducible repeat first | apply bN | apply bD | apply bA); exact BK304.out) hb)
             have n1_ := Aside0.mk (blk_below (g := gb305) (o := .cells #[.int .i8 a1_0, .int .i8 a1_1] 35 (0, 0)) (by (with_reducible repeat first | apply bN | apply bD | apply bA); exact BK305.out) hb)
             have n2_ := Aside0.mk (blk_below (g := gb311) (o := .cells #[.int .i8 0, .int .i8 0] 26 (0, 0)) (by (with_reducible repeat first | apply bN | apply bD | apply bA); exact BK311.out) hb)
             have n3_ := Aside0.mk (below_step (by repeat (first | (with_reducible first | exact HB.out | apply below_alloc | apply pw_below_drewN | apply below_drew1 | refine below_set ?_ GE304.out | refine below_set ?_ GE305.out | refine below_set ?_ GE311.out) | exact HB.out)) hb)
             have n4_ := Aside0.mk (hbox)
             have n5_ := Aside0.mk ((by rw [hg]; exact (below_size (by repeat (first | (with_reducible first | exact HB.out | apply below_alloc | apply pw_below_drewN | apply below_drew1 | refine below_set ?_ GE304.out | refine below_set ?_ GE305.out | refine below_set ?_ GE311.out) | exact HB.out))) : w.heap.size ≤ gb310))
             have n6_ := Aside0.mk ((by rw [hg]; exact (below_size (by repeat (first | (with_reducible first | exact HB.out | apply below_alloc | apply pw_below_drewN | apply below_drew1 | refine below_set ?_ GE304.out | refine below_set ?_ GE305.out | refine below_set ?_ GE311.out) | exact HB.out))) : w.heap.size ≤ gb310))
             have n7_ := Aside0.mk ((by rw [hg]; exact Nat.ne_of_lt (blk_lt (g := gb304) (o := .cells #[.int .i8 a0_0, .int .i8 a0_1] 35 (0, 0)) (by (with_reducible repeat first | apply bN | apply bD | apply bA); exact BK304.out)) : gb304 ≠ gb310))
             have n8_ := Aside0.mk ((by rw [hg]; exact Nat.ne_of_gt (blk_lt (g := gb304) (o := .cells #[.int .i8 a0_0, .int .i8 a0_1] 35 (0, 0)) (by (with_reducible repeat first | apply bN | apply bD | apply bA); exact BK304.out)) : gb310 ≠ gb304))
             have n9_ := Aside0.mk ((by rw [hg]; exact Nat.ne_of_lt (blk_lt (g := gb305) (o := .cells #[.int .i8 a1_0, .int .i8 a1_1] 35 (0, 0)) (by (with_reducible repeat first | apply bN | apply bD | apply bA); exact BK305.out)) : gb305 ≠ gb310))
             have n10_ := Aside0.mk ((by rw [hg]; exact Nat.ne_of_gt (blk_lt (g := gb305) (o := .cells #[.int .i8 a1_0, .int .i8 a1_1] 35 (0, 0)) (by (with_reducible repeat first | apply bN | apply bD | apply bA); exact BK305.out)) : gb310 ≠ gb305))
             have n11_ := Aside0.mk ((by rw [hg]; exact Nat.ne_of_lt (blk_lt (g := gb311) (o := .cells #[.int .i8 0, .int .i8 0] 26 (0, 0)) (by (with_reducible repeat first | apply bN | apply bD | apply bA); exact BK311.out)) : gb311 ≠ gb310))
             have n12_ := Aside0.mk ((by rw [hg]; exact Nat.ne_of_gt (blk_lt (g := gb311) (o := .cells #[.int .i8 0, .int .i8 0] 26 (0, 0)) (by (with_reducible repeat first | apply bN | apply bD | apply bA); exact BK311.out)) : gb310 ≠ gb311))
             clear BK304
             clear BK305
             clear BK311
             clear HB
             have BK304 := n0_
             have BK305 := n1_
             have BK311 := n2_
             have HB := n3_
             have BK310 := n4_
             have GW310 := n5_
             have GE310 := n6_
             have NB304_310 := n7_
             have NB310_304 := n8_
             have NB305_310 := n9_
             have NB310_305 := n10_
             have NB311_310 := n11_
             have NB310_311 := n12_
             clear n0_ n1_ n2_ n3_ n4_ n5_ n6_ n7_ n8_ n9_ n10_ n11_ n12_
             clear hb hbox hg
             refine hK.out _ _ ⟨(blk_cell BK304.out 0).trans rfl, (blk_cell BK304.out 1).trans rfl, (blk_cell BK305.out 0).trans rfl, (blk_cell BK305.out 1).trans rfl⟩ (fun hHeld => ?_)
             clear hK K
             refine norm_ (a' := ?_) ?_ ?_
             rotate_left
             ·show Act.put _ (some 5) _ = _
              simp only [Act.put, List.setIfInBounds_toArray, List.set_cons_zero, List.set_cons_succ, i64_w, i32_w]
              rfl
             exact norm_ (by first | (simp only [putAll, Act.put, List.setIfInBounds_toArray, List.set_cons_zero, List.set_cons_succ]; done) | (simp only [putAll, Act.put, List.setIfInBounds_toArray, List.set_cons_zero, List.set_cons_succ]; rfl)) (hJ4_5 (gb310, gb311) _ ⟨hHeld, (by (with_reducible repeat first | apply bN | apply bD | apply bA); exact BK304.out), (by (with_reducible repeat first | apply bN | apply bD | apply bA); exact BK305.out), (by (with_reducible repeat first | apply bN | apply bD | apply bA); exact BK310.out), (by (with_reducible repeat first | apply bN | apply bD | apply bA); exact BK311.out), GW310.out, GE310.out, NB304_310.out, NB310_304.out, NB305_310.out, NB310_305.out, NB311_310.out, NB310_311.out, GW311.out, GE311.out, NB304_311.out, NB311_304.out, NB305_311.out, NB311_305.out, (by repeat (first | (with_reducible first | exact HB.out | apply below_alloc | apply pw_below_drewN | apply below_drew1 | refine below_set ?_ GE304.out | refine below_set ?_ GE305.out | refine below_set ?_ GE311.out | refine below_set ?_ GE310.out) | exact HB.out))⟩)
          ·skip
           rintro gb310 w13 ⟨hS_, h0_, h1_, h2_, h3_, h4_, h5_, h6_, h7_, h8_, h9_⟩
           have n0_ : Aside0 (w13.heap[gb304]? = some (.cells #[.int .i8 a0_0, .int .i8 a0_1] 35 (0, 0))) := ⟨h0_⟩
           have n1_ : Aside0 (w13.heap[gb305]? = some (.cells #[.int .i8 a1_0, .int .i8 a1_1] 35 (0, 0))) := ⟨h1_⟩
           have n2_ : Aside0 (w13.heap[gb310]? = some (.cells #[.int .i8 0, .int .i8 0] 26 (0, 0))) := ⟨h2_⟩
           have n3_ : Aside0 (w.heap.size ≤ gb310) := ⟨h3_⟩
           have n4_ : Aside0 (w.heap.size ≤ gb310) := ⟨h4_⟩
           have n5_ : Aside0 (gb304 ≠ gb310) := ⟨h5_⟩
           have n6_ : Aside0 (gb310 ≠ gb304) := ⟨h6_⟩
           have n7_ : Aside0 (gb305 ≠ gb310) := ⟨h7_⟩
           have n8_ : Aside0 (gb310 ≠ gb305) := ⟨h8_⟩
           have n9_ : Aside0 (Below w.heap.size w w13) := ⟨h9_⟩
           clear BK304
           clear BK305
           clear HB
           clear h0_ h1_ h2_ h3_ h4_ h5_ h6_ h7_ h8_ h9_
           have BK304 := n0_
           have BK305 := n1_
           have BK310 := n2_
           have GW310 := n3_
           have GE310 := n4_
           have NB304_310 := n5_
           have NB310_304 := n6_
           have NB305_310 := n7_
           have NB310_305 := n8_
           have HB := n9_
           clear n0_ n1_ n2_ n3_ n4_ n5_ n6_ n7_ n8_ n9_
           have hHeld : w13.cell? ⟨gb304, 0, none⟩ = some (.int .i8 a0_0) ∧ w13.cell? ⟨gb304, 1, none⟩ = some (.int .i8 a0_1) ∧ w13.cell? ⟨gb305, 0, none⟩ = some (.int .i8 a1_0) ∧ w13.cell? ⟨gb305, 1, none⟩ = some (.int .i8 a1_1) := hS_
           refine norm_ (a' := ?_) ?_ ?_
           rotate_left
           ·simp only [putAll, Act.put, List.setIfInBounds_toArray, List.set_cons_zero, List.set_cons_succ]
            rfl
           refine two_ (i := 1) (j := 5) (Ni := some 9) (Nj := some 6) #[true, true, true, false, true, false, false, false] #[true, false, true, false, true, true, false, false] rfl rfl rfl rfl (two_of HT_.out (by kernel_rfl)) (by decide) (by decide) (fun K hK => ?_) (fun K hK => ?_)
           ·skip
            refine goes_ Tryd.func22 (by kernel_rfl) rfl #[.agg #[.int .i8 a0_0, .int .i8 a0_1]] (by rfl) rfl rfl (by (try simp only [List.map_toArray, List.map_cons, List.map_nil]); first | done | rfl | (simp only [List.length_drop, List.length_take]; rfl)) ?_
            with_reducible refine (strength_Norm.calls a0_0 a0_1 t306 t307 _ A3.out).mono ?_
            rintro e w14 ⟨rfl, hb⟩
            refine ⟨_, rfl, ?_⟩
            have n0_ := Aside0.mk (blk_below (g := gb304) (o := .cells #[.int .i8 a0_0, .int .i8 a0_1] 35 (0, 0)) (by (with_reducible repeat first | apply bN | apply bD | apply bA); exact BK304.out) hb)
            have n1_ := Aside0.mk (blk_below (g := gb305) (o := .cells #[.int .i8 a1_0, .int .i8 a1_1] 35 (0, 0)) (by (with_reducible repeat first | apply bN | apply bD | apply bA); exact BK305.out) hb)
            have n2_ := Aside0.mk (blk_below (g := gb310) (o := .cells #[.int .i8 0, .int .i8 0] 26 (0, 0)) (by (with_reducible repeat first | apply bN | apply bD | apply bA); exact BK310.out) hb)
            have n3_ := Aside0.mk (below_step (by repeat (first | (with_reducible first | exact HB.out | apply below_alloc | apply pw_below_drewN | apply below_drew1 | refine below_set ?_ GE304.out | refine below_set ?_ GE305.out | refine below_set ?_ GE310.out) | exact HB.out)) hb)
            clear BK304
            clear BK305
            clear BK310
            clear HB
            have BK304 := n0_
            have BK305 := n1_
            have BK310 := n2_
            have HB := n3_
            clear n0_ n1_ n2_ n3_
            (try clear hb)
            (try clear hb2)
            (try clear hk)
            (try clear hi)
            refine hK.out _ _ ⟨(blk_cell BK304.out 0).trans rfl, (blk_cell BK304.out 1).trans rfl, (blk_cell BK305.out 0).trans rfl, (blk_cell BK305.out 1).trans rfl⟩ (fun hHeld => ?_)
            clear hK K
            refine norm_ (a' := ?_) ?_ ?_
            rotate_left
            ·show Act.put _ (some 9) _ = _
             simp only [Act.put, List.setIfInBounds_toArray, List.set_cons_zero, List.set_cons_succ, i64_w, i32_w]
             rfl
            exact norm_ (by first | (simp only [putAll, Act.put, List.setIfInBounds_toArray, List.set_cons_zero, List.set_cons_succ]; done) | (simp only [putAll, Act.put, List.setIfInBounds_toArray, List.set_cons_zero, List.set_cons_succ]; rfl)) (hJ1_4 (gb310) _ ⟨hHeld, (by (with_reducible repeat first | apply bN | apply bD | apply bA); exact BK304.out), (by (with_reducible repeat first | apply bN | apply bD | apply bA); exact BK305.out), (by (with_reducible repeat first | apply bN | apply bD | apply bA); exact BK310.out), GW310.out, GE310.out, NB304_310.out, NB310_304.out, NB305_310.out, NB310_305.out, (by repeat (first | (with_reducible first | exact HB.out | apply below_alloc | apply pw_below_drewN | apply below_drew1 | refine below_set ?_ GE304.out | refine below_set ?_ GE305.out | refine below_set ?_ GE310.out) | exact HB.out))⟩)
           ·skip
            refine box_step ?hg (N := 6) ?hd (cs := #[.int .i8 0, .int .i8 0]) (t := 26) ?hr ?_; (case hd => rfl); (case hg => rfl); (case hr => first | (go_simp; done) | (go_simp; rfl))
            intro gb311 hg w14 hbox hb
            have n0_ := Aside0.mk (blk_below (g := gb304) (o := .cells #[.int .i8 a0_0, .int .i8 a0_1] 35 (0, 0)) (by (with_reducible repeat first | apply bN | apply bD | apply bA); exact BK304.out) hb)
            have n1_ := Aside0.mk (blk_below (g := gb305) (o := .cells #[.int .i8 a1_0, .int .i8 a1_1] 35 (0, 0)) (by (with_reducible repeat first | apply bN | apply bD | apply bA); exact BK305.out) hb)
            have n2_ := Aside0.mk (blk_below (g := gb310) (o := .cells #[.int .i8 0, .int .i8 0] 26 (0, 0)) (by (with_reducible repeat first | apply bN | apply bD | apply bA); exact BK310.out) hb)
            have n3_ := Aside0.mk (below_step (by repeat (first | (with_reducible first | exact HB.out | apply below_alloc | apply pw_below_drewN | apply below_drew1 | refine below_set ?_ GE304.out | refine below_set ?_ GE305.out | refine below_set ?_ GE310.out) | exact HB.out)) hb)
            have n4_ := Aside0.mk (hbox)
            have n5_ := Aside0.mk ((by rw [hg]; exact (below_size (by repeat (first | (with_reducible first | exact HB.out | apply below_alloc | apply pw_below_drewN | apply below_drew1 | refine below_set ?_ GE304.out | refine below_set ?_ GE305.out | refine below_set ?_ GE310.out) | exact HB.out))) : w.heap.size ≤ gb311))
            have n6_ := Aside0.mk ((by rw [hg]; exact (below_size (by repeat (first | (with_reducible first | exact HB.out | apply below_alloc | apply pw_below_drewN | apply below_drew1 | refine below_set ?_ GE304.out | refine below_set ?_ GE305.out | refine below_set ?_ GE310.out) | exact HB.out))) : w.heap.size ≤ gb311))
            have n7_ := Aside0.mk ((by rw [hg]; exact Nat.ne_of_lt (blk_lt (g := gb304) (o := .cells #[.int .i8 a0_0, .int .i8 a0_1] 35 (0, 0)) (by (with_reducible repeat first | apply bN | apply bD | apply bA); exact BK304.out)) : gb304 ≠ gb311))
            have n8_ := Aside0.mk ((by rw [hg]; exact Nat.ne_of_gt (blk_lt (g := gb304) (o := .cells #[.int .i8 a0_0, .int .i8 a0_1] 35 (0, 0)) (by (with_reducible repeat first | apply bN | apply bD | apply bA); exact BK304.out)) : gb311 ≠ gb304))
            have n9_ := Aside0.mk ((by rw [hg]; exact Nat.ne_of_lt (blk_lt (g := gb305) (o := .cells #[.int .i8 a1_0, .int .i8 a1_1] 35 (0, 0)) (by (with_reducible repeat first | apply bN | apply bD | apply bA); exact BK305.out)) : gb305 ≠ gb311))
            have n10_ := Aside0.mk ((by rw [hg]; exact Nat.ne_of_gt (blk_lt (g := gb305) (o := .cells #[.int .i8 a1_0, .int .i8 a1_1] 35 (0, 0)) (by (with_reducible repeat first | apply bN | apply bD | apply bA); exact BK305.out)) : gb311 ≠ gb305))
            have n11_ := Aside0.mk ((by rw [hg]; exact Nat.ne_of_lt (blk_lt (g := gb310) (o := .cells #[.int .i8 0, .int .i8 0] 26 (0, 0)) (by (with_reducible repeat first | apply bN | apply bD | apply bA); exact BK310.out)) : gb310 ≠ gb311))
            have n12_ := Aside0.mk ((by rw [hg]; exact Nat.ne_of_gt (blk_lt (g := gb310) (o := .cells #[.int .i8 0, .int .i8 0] 26 (0, 0)) (by (with_reducible repeat first | apply bN | apply bD | apply bA); exact BK310.out)) : gb311 ≠ gb310))
            clear BK304
            clear BK305
            clear BK310
            clear HB
            have BK304 := n0_
            have BK305 := n1_
            have BK310 := n2_
            have HB := n3_
            have BK311 := n4_
            have GW311 := n5_
            have GE311 := n6_
            have NB304_311 := n7_
            have NB311_304 := n8_
            have NB305_311 := n9_
            have NB311_305 := n10_
            have NB310_311 := n11_
            have NB311_310 := n12_
            clear n0_ n1_ n2_ n3_ n4_ n5_ n6_ n7_ n8_ n9_ n10_ n11_ n12_
            clear hb hbox hg
            refine hK.out _ _ ⟨(blk_cell BK304.out 0).trans rfl, (blk_cell BK304.out 1).trans rfl, (blk_cell BK305.out 0).trans rfl, (blk_cell BK305.out 1).trans rfl⟩ (fun hHeld => ?_)
            clear hK K
            refine norm_ (a' := ?_) ?_ ?_
            rotate_left
            ·show Act.put _ (some 6) _ = _
             simp only [Act.put, List.setIfInBounds_toArray, List.set_cons_zero, List.set_cons_succ, i64_w, i32_w]
             rfl
            exact norm_ (by first | (simp only [putAll, Act.put, List.setIfInBounds_toArray, List.set_cons_zero, List.set_cons_succ]; done) | (simp only [putAll, Act.put, List.setIfInBounds_toArray, List.set_cons_zero, List.set_cons_succ]; rfl)) (hJ4_5 (gb310, gb311) _ ⟨hHeld, (by (with_reducible repeat first | apply bN | apply bD | apply bA); exact BK304.out), (by (with_reducible repeat first | apply bN | apply bD | apply bA); exact BK305.out), (by (with_reducible repeat first | apply bN | apply bD | apply bA); exact BK310.out), (by (with_reducible repeat first | apply bN | apply bD | apply bA); exact BK311.out), GW310.out, GE310.out, NB304_310.out, NB310_304.out, NB305_310.out, NB310_305.out, NB311_310.out, NB310_311.out, GW311.out, GE311.out, NB304_311.out, NB311_304.out, NB305_311.out, NB311_305.out, (by repeat (first | (with_reducible first | exact HB.out | apply below_alloc | apply pw_below_drewN | apply below_drew1 | refine below_set ?_ GE304.out | refine below_set ?_ GE305.out | refine below_set ?_ GE310.out | refine below_set ?_ GE311.out) | exact HB.out))⟩)
         ·skip
          rintro _ w13 ⟨hS_, h0_, h1_, h2_⟩
          have n0_ : Aside0 (w13.heap[gb304]? = some (.cells #[.int .i8 a0_0, .int .i8 a0_1] 35 (0, 0))) := ⟨h0_⟩
          have n1_ : Aside0 (w13.heap[gb305]? = some (.cells #[.int .i8 a1_0, .int .i8 a1_1] 35 (0, 0))) := ⟨h1_⟩
          have n2_ : Aside0 (Below w.heap.size w w13) := ⟨h2_⟩
          clear BK304
          clear BK305
          clear HB
          clear h0_ h1_ h2_
          have BK304 := n0_
          have BK305 := n1_
          have HB := n2_
          clear n0_ n1_ n2_
          have hHeld : w13.cell? ⟨gb304, 0, none⟩ = some (.int .i8 a0_0) ∧ w13.cell? ⟨gb304, 1, none⟩ = some (.int .i8 a0_1) ∧ w13.cell? ⟨gb305, 0, none⟩ = some (.int .i8 a1_0) ∧ w13.cell? ⟨gb305, 1, none⟩ = some (.int .i8 a1_1) := hS_
          refine norm_ (a' := ?_) ?_ ?_
          rotate_left
          ·simp only [putAll, Act.put, List.setIfInBounds_toArray, List.set_cons_zero, List.set_cons_succ]
           rfl
          refine three_ (i := 3) (j := 4) (k := 5) (Ni := some 11) (Nj := some 5) (Nk := some 6) #[true, true, true, true, false, false, false, false] #[true, true, true, false, true, false, false, false] #[true, true, true, false, false, true, false, false] rfl rfl rfl rfl rfl rfl (three_of HT_.out (by kernel_rfl)) (by decide) (by decide) (by decide) (fun K hK => ?_) (fun K hK => ?_) (fun K hK => ?_)
          ·skip
           refine goes_ Tryd.func22 (by kernel_rfl) rfl #[.agg #[.int .i8 a1_0, .int .i8 a1_1]] (by rfl) rfl rfl (by (try simp only [List.map_toArray, List.map_cons, List.map_nil]); first | done | rfl | (simp only [List.length_drop, List.length_take]; rfl)) ?_
           with_reducible refine (strength_Norm.calls a1_0 a1_1 t308 t309 _ A4.out).mono ?_
           rintro e w14 ⟨rfl, hb⟩
           refine ⟨_, rfl, ?_⟩
           have n0_ := Aside0.mk (blk_below (g := gb304) (o := .cells #[.int .i8 a0_0, .int .i8 a0_1] 35 (0, 0)) (by (with_reducible repeat first | apply bN | apply bD | apply bA); exact BK304.out) hb)
           have n1_ := Aside0.mk (blk_below (g := gb305) (o := .cells #[.int .i8 a1_0, .int .i8 a1_1] 35 (0, 0)) (by (with_reducible repeat first | apply bN | apply bD | apply bA); exact BK305.out) hb)
           have n2_ := Aside0.mk (below_step (by repeat (first | (with_reducible first | exact HB.out | apply below_alloc | apply pw_below_drewN | apply below_drew1 | refine below_set ?_ GE304.out | refine below_set ?_ GE305.out) | exact HB.out)) hb)
           clear BK304
           clear BK305
           clear HB
           have BK304 := n0_
           have BK305 := n1_
           have HB := n2_
           clear n0_ n1_ n2_
           (try clear hb)
           (try clear hb2)
           (try clear hk)
           (try clear hi)
           refine hK.out _ _ ⟨(blk_cell BK304.out 0).trans rfl, (blk_cell BK304.out 1).trans rfl, (blk_cell BK305.out 0).trans rfl, (blk_cell BK305.out 1).trans rfl⟩ (fun hHeld => ?_)
           clear hK K
           refine norm_ (a' := ?_) ?_ ?_
           rotate_left
           ·show Act.put _ (some 11) _ = _
            simp only [Act.put, List.setIfInBounds_toArray, List.set_cons_zero, List.set_cons_succ, i64_w, i32_w]
            rfl
           exact norm_ (by first | (simp only [putAll, Act.put, List.setIfInBounds_toArray, List.set_cons_zero, List.set_cons_succ]; done) | (simp only [putAll, Act.put, List.setIfInBounds_toArray, List.set_cons_zero, List.set_cons_succ]; rfl)) (hJ1_3 () _ ⟨hHeld, (by (with_reducible repeat first | apply bN | apply bD | apply bA); exact BK304.out), (by (with_reducible repeat first | apply bN | apply bD | apply bA); exact BK305.out), (by repeat (first | (with_reducible first | exact HB.out | apply below_alloc | apply pw_below_drewN | apply below_drew1 | refine below_set ?_ GE304.out | refine below_set ?_ GE305.out) | exact HB.out))⟩)
          ·skip
           refine box_step ?hg (N := 5) ?hd (cs := #[.int .i8 0, .int .i8 0]) (t := 26) ?hr ?_; (case hd => rfl); (case hg => rfl); (case hr => first | (go_simp; done) | (go_simp; rfl))
           intro gb310 hg w14 hbox hb
           have n0_ := Aside0.mk (blk_below (g := gb304) (o := .cells #[.int .i8 a0_0, .int .i8 a0_1] 35 (0, 0)) (by (with_reducible repeat first | apply bN | apply bD | apply bA); exact BK304.out) hb)
           have n1_ := Aside0.mk (blk_below (g := gb305) (o := .cells #[.int .i8 a1_0, .int .i8 a1_1] 35 (0, 0)) (by (with_reducible repeat first | apply bN | apply bD | apply bA); exact BK305.out) hb)
           have n2_ := Aside0.mk (below_step (by repeat (first | (with_reducible first | exact HB.out | apply below_alloc | apply pw_below_drewN | apply below_drew1 | refine below_set ?_ GE304.out | refine below_set ?_ GE305.out) | exact HB.out)) hb)
           have n3_ := Aside0.mk (hbox)
           have n4_ := Aside0.mk ((by rw [hg]; exact (below_size (by repeat (first | (with_reducible first | exact HB.out | apply below_alloc | apply pw_below_drewN | apply below_drew1 | refine below_set ?_ GE304.out | refine below_set ?_ GE305.out) | exact HB.out))) : w.heap.size ≤ gb310))
           have n5_ := Aside0.mk ((by rw [hg]; exact (below_size (by repeat (first | (with_reducible first | exact HB.out | apply below_alloc | apply pw_below_drewN | apply below_drew1 | refine below_set ?_ GE304.out | refine below_set ?_ GE305.out) | exact HB.out))) : w.heap.size ≤ gb310))
           have n6_ := Aside0.mk ((by rw [hg]; exact Nat.ne_of_lt (blk_lt (g := gb304) (o := .cells #[.int .i8 a0_0, .int .i8 a0_1] 35 (0, 0)) (by (with_reducible repeat first | apply bN | apply bD | apply bA); exact BK304.out)) : gb304 ≠ gb310))
           have n7_ := Aside0.mk ((by rw [hg]; exact Nat.ne_of_gt (blk_lt (g := gb304) (o := .cells #[.int .i8 a0_0, .int .i8 a0_1] 35 (0, 0)) (by (with_reducible repeat first | apply bN | apply bD | apply bA); exact BK304.out)) : gb310 ≠ gb304))
           have n8_ := Aside0.mk ((by rw [hg]; exact Nat.ne_of_lt (blk_lt (g := gb305) (o := .cells #[.int .i8 a1_0, .int .i8 a1_1] 35 (0, 0)) (by (with_reducible repeat first | apply bN | apply bD | apply bA); exact BK305.out)) : gb305 ≠ gb310))
           have n9_ := Aside0.mk ((by rw [hg]; exact Nat.ne_of_gt (blk_lt (g := gb305) (o := .cells #[.int .i8 a1_0, .int .i8 a1_1] 35 (0, 0)) (by (with_reducible repeat first | apply bN | apply bD | apply bA); exact BK305.out)) : gb310 ≠ gb305))
           clear BK304
           clear BK305
           clear HB
           have BK304 := n0_
           have BK305 := n1_
           have HB := n2_
           have BK310 := n3_
           have GW310 := n4_
           have GE310 := n5_
           have NB304_310 := n6_
           have NB310_304 := n7_
           have NB305_310 := n8_
           have NB310_305 := n9_
           clear n0_ n1_ n2_ n3_ n4_ n5_ n6_ n7_ n8_ n9_
           clear hb hbox hg
           refine hK.out _ _ ⟨(blk_cell BK304.out 0).trans rfl, (blk_cell BK304.out 1).trans rfl, (blk_cell BK305.out 0).trans rfl, (blk_cell BK305.out 1).trans rfl⟩ (fun hHeld => ?_)
           clear hK K
           refine norm_ (a' := ?_) ?_ ?_
           rotate_left
           ·show Act.put _ (some 5) _ = _
            simp only [Act.put, List.setIfInBounds_toArray, List.set_cons_zero, List.set_cons_succ, i64_w, i32_w]
            rfl
           exact norm_ (by first | (simp only [putAll, Act.put, List.setIfInBounds_toArray, List.set_cons_zero, List.set_cons_succ]; done) | (simp only [putAll, Act.put, List.setIfInBounds_toArray, List.set_cons_zero, List.set_cons_succ]; rfl)) (hJ1_4 (gb310) _ ⟨hHeld, (by (with_reducible repeat first | apply bN | apply bD | apply bA); exact BK304.out), (by (with_reducible repeat first | apply bN | apply bD | apply bA); exact BK305.out), (by (with_reducible repeat first | apply bN | apply bD | apply bA); exact BK310.out), GW310.out, GE310.out, NB304_310.out, NB310_304.out, NB305_310.out, NB310_305.out, (by repeat (first | (with_reducible first | exact HB.out | apply below_alloc | apply pw_below_drewN | apply below_drew1 | refine below_set ?_ GE304.out | refine below_set ?_ GE305.out | refine below_set ?_ GE310.out) | exact HB.out))⟩)
          ·skip
           refine box_step ?hg (N := 6) ?hd (cs := #[.int .i8 0, .int .i8 0]) (t := 26) ?hr ?_; (case hd => rfl); (case hg => rfl); (case hr => first | (go_simp; done) | (go_simp; rfl))
           intro gb311 hg w14 hbox hb
           have n0_ := Aside0.mk (blk_below (g := gb304) (o := .cells #[.int .i8 a0_0, .int .i8 a0_1] 35 (0, 0)) (by (with_reducible repeat first | apply bN | apply bD | apply bA); exact BK304.out) hb)
           have n1_ := Aside0.mk (blk_below (g := gb305) (o := .cells #[.int .i8 a1_0, .int .i8 a1_1] 35 (0, 0)) (by (with_reducible repeat first | apply bN | apply bD | apply bA); exact BK305.out) hb)
           have n2_ := Aside0.mk (below_step (by repeat (first | (with_reducible first | exact HB.out | apply below_alloc | apply pw_below_drewN | apply below_drew1 | refine below_set ?_ GE304.out | refine below_set ?_ GE305.out) | exact HB.out)) hb)
           have n3_ := Aside0.mk (hbox)
           have n4_ := Aside0.mk ((by rw [hg]; exact (below_size (by repeat (first | (with_reducible first | exact HB.out | apply below_alloc | apply pw_below_drewN | apply below_drew1 | refine below_set ?_ GE304.out | refine below_set ?_ GE305.out) | exact HB.out))) : w.heap.size ≤ gb311))
           have n5_ := Aside0.mk ((by rw [hg]; exact (below_size (by repeat (first | (with_reducible first | exact HB.out | apply below_alloc | apply pw_below_drewN | apply below_drew1 | refine below_set ?_ GE304.out | refine below_set ?_ GE305.out) | exact HB.out))) : w.heap.size ≤ gb311))
           have n6_ := Aside0.mk ((by rw [hg]; exact Nat.ne_of_lt (blk_lt (g := gb304) (o := .cells #[.int .i8 a0_0, .int .i8 a0_1] 35 (0, 0)) (by (with_reducible repeat first | apply bN | apply bD | apply bA); exact BK304.out)) : gb304 ≠ gb311))
           have n7_ := Aside0.mk ((by rw [hg]; exact Nat.ne_of_gt (blk_lt (g := gb304) (o := .cells #[.int .i8 a0_0, .int .i8 a0_1] 35 (0, 0)) (by (with_reducible repeat first | apply bN | apply bD | apply bA); exact BK304.out)) : gb311 ≠ gb304))
           have n8_ := Aside0.mk ((by rw [hg]; exact Nat.ne_of_lt (blk_lt (g := gb305) (o := .cells #[.int .i8 a1_0, .int .i8 a1_1] 35 (0, 0)) (by (with_reducible repeat first | apply bN | apply bD | apply bA); exact BK305.out)) : gb305 ≠ gb311))
           have n9_ := Aside0.mk ((by rw [hg]; exact Nat.ne_of_gt (blk_lt (g := gb305) (o := .cells #[.int .i8 a1_0, .int .i8 a1_1] 35 (0, 0)) (by (with_reducible repeat first | apply bN | apply bD | apply bA); exact BK305.out)) : gb311 ≠ gb305))
           clear BK304
           clear BK305
           clear HB
           have BK304 := n0_
           have BK305 := n1_
           have HB := n2_
           have BK311 := n3_
           have GW311 := n4_
           have GE311 := n5_
           have NB304_311 := n6_
           have NB311_304 := n7_
           have NB305_311 := n8_
           have NB311_305 := n9_
           clear n0_ n1_ n2_ n3_ n4_ n5_ n6_ n7_ n8_ n9_
           clear hb hbox hg
           refine hK.out _ _ ⟨(blk_cell BK304.out 0).trans rfl, (blk_cell BK304.out 1).trans rfl, (blk_cell BK305.out 0).trans rfl, (blk_cell BK305.out 1).trans rfl⟩ (fun hHeld => ?_)
           clear hK K
           refine norm_ (a' := ?_) ?_ ?_
           rotate_left
           ·show Act.put _ (some 6) _ = _
            simp only [Act.put, List.setIfInBounds_toArray, List.set_cons_zero, List.set_cons_succ, i64_w, i32_w]
            rfl
           exact norm_ (by first | (simp only [putAll, Act.put, List.setIfInBounds_toArray, List.set_cons_zero, List.set_cons_succ]; done) | (simp only [putAll, Act.put, List.setIfInBounds_toArray, List.set_cons_zero, List.set_cons_succ]; rfl)) (hJ1_5 (gb311) _ ⟨hHeld, (by (with_reducible repeat first | apply bN | apply bD | apply bA); exact BK304.out), (by (with_reducible repeat first | apply bN | apply bD | apply bA); exact BK305.out), (by (with_reducible repeat first | apply bN | apply bD | apply bA); exact BK311.out), GW311.out, GE311.out, NB304_311.out, NB311_304.out, NB305_311.out, NB311_305.out, (by repeat (first | (with_reducible first | exact HB.out | apply below_alloc | apply pw_below_drewN | apply below_drew1 | refine below_set ?_ GE304.out | refine below_set ?_ GE305.out | refine below_set ?_ GE311.out) | exact HB.out))⟩)
        ·skip
         rintro ⟨gb310, gb311⟩ w14 ⟨hS_, h0_, h1_, h2_, h3_, h4_, h5_, h6_, h7_, h8_, h9_, h10_, h11_, h12_, h13_, h14_, h15_, h16_, h17_, h18_⟩
         have n0_ : Aside0 (w14.heap[gb304]? = some (.cells #[.int .i8 a0_0, .int .i8 a0_1] 35 (0, 0))) := ⟨h0_⟩
         have n1_ : Aside0 (w14.heap[gb305]? = some (.cells #[.int .i8 a1_0, .int .i8 a1_1] 35 (0, 0))) := ⟨h1_⟩
         have n2_ : Aside0 (w14.heap[gb310]? = some (.cells #[.int .i8 0, .int .i8 0] 26 (0, 0))) := ⟨h2_⟩
         have n3_ : Aside0 (w14.heap[gb311]? = some (.cells #[.int .i8 0, .int .i8 0] 26 (0, 0))) := ⟨h3_⟩
         have n4_ : Aside0 (w.heap.size ≤ gb310) := ⟨h4_⟩
         have n5_ : Aside0 (w.heap.size ≤ gb310) := ⟨h5_⟩
         have n6_ : Aside0 (gb304 ≠ gb310) := ⟨h6_⟩
         have n7_ : Aside0 (gb310 ≠ gb304) := ⟨h7_⟩
         have n8_ : Aside0 (gb305 ≠ gb310) := ⟨h8_⟩
         have n9_ : Aside0 (gb310 ≠ gb305) := ⟨h9_⟩
         have n10_ : Aside0 (gb311 ≠ gb310) := ⟨h10_⟩
         have n11_ : Aside0 (gb310 ≠ gb311) := ⟨h11_⟩
         have n12_ : Aside0 (w.heap.size ≤ gb311) := ⟨h12_⟩
         have n13_ : Aside0 (w.heap.size ≤ gb311) := ⟨h13_⟩
         have n14_ : Aside0 (gb304 ≠ gb311) := ⟨h14_⟩
         have n15_ : Aside0 (gb311 ≠ gb304) := ⟨h15_⟩
         have n16_ : Aside0 (gb305 ≠ gb311) := ⟨h16_⟩
         have n17_ : Aside0 (gb311 ≠ gb305) := ⟨h17_⟩
         have n18_ : Aside0 (Below w.heap.size w w14) := ⟨h18_⟩
         clear BK304
         clear BK305
         clear HB
         clear h0_ h1_ h2_ h3_ h4_ h5_ h6_ h7_ h8_ h9_ h10_ h11_ h12_ h13_ h14_ h15_ h16_ h17_ h18_
         have BK304 := n0_
         have BK305 := n1_
         have BK310 := n2_
         have BK311 := n3_
         have GW310 := n4_
         have GE310 := n5_
         have NB304_310 := n6_
         have NB310_304 := n7_
         have NB305_310 := n8_
         have NB310_305 := n9_
         have NB311_310 := n10_
         have NB310_311 := n11_
         have GW311 := n12_
         have GE311 := n13_
         have NB304_311 := n14_
         have NB311_304 := n15_
         have NB305_311 := n16_
         have NB311_305 := n17_
         have HB := n18_
         clear n0_ n1_ n2_ n3_ n4_ n5_ n6_ n7_ n8_ n9_ n10_ n11_ n12_ n13_ n14_ n15_ n16_ n17_ n18_
         have hHeld : w14.cell? ⟨gb304, 0, none⟩ = some (.int .i8 a0_0) ∧ w14.cell? ⟨gb304, 1, none⟩ = some (.int .i8 a0_1) ∧ w14.cell? ⟨gb305, 0, none⟩ = some (.int .i8 a1_0) ∧ w14.cell? ⟨gb305, 1, none⟩ = some (.int .i8 a1_1) := hS_
         refine norm_ (a' := ?_) ?_ ?_
         rotate_left
         ·simp only [putAll, Act.put, List.setIfInBounds_toArray, List.set_cons_zero, List.set_cons_succ]
          rfl
         refine one_ (i := 1) (N := some 9) #[true, true, true, false, true, true, false, false] rfl rfl (one_of HT_.out (by kernel_rfl)) (by decide) (fun K hK => ?_)
         refine goes_ Tryd.func22 (by kernel_rfl) rfl #[.agg #[.int .i8 a0_0, .int .i8 a0_1]] (by rfl) rfl rfl (by (try simp only [List.map_toArray, List.map_cons, List.map_nil]); first | done | rfl | (simp only [List.length_drop, List.length_take]; rfl)) ?_
         with_reducible refine (strength_Norm.calls a0_0 a0_1 t306 t307 _ A3.out).mono ?_
         rintro e w15 ⟨rfl, hb⟩
         refine ⟨_, rfl, ?_⟩
         have n0_ := Aside0.mk (blk_below (g := gb304) (o := .cells #[.int .i8 a0_0, .int .i8 a0_1] 35 (0, 0)) (by (with_reducible repeat first | apply bN | apply bD | apply bA); exact BK304.out) hb)
         have n1_ := Aside0.mk (blk_below (g := gb305) (o := .cells #[.int .i8 a1_0, .int .i8 a1_1] 35 (0, 0)) (by (with_reducible repeat first | apply bN | apply bD | apply bA); exact BK305.out) hb)
         have n2_ := Aside0.mk (blk_below (g := gb310) (o := .cells #[.int .i8 0, .int .i8 0] 26 (0, 0)) (by (with_reducible repeat first | apply bN | apply bD | apply bA); exact BK310.out) hb)
         have n3_ := Aside0.mk (blk_below (g := gb311) (o := .cells #[.int .i8 0, .int .i8 0] 26 (0, 0)) (by (with_reducible repeat first | apply bN | apply bD | apply bA); exact BK311.out) hb)
         have n4_ := Aside0.mk (below_step (by repeat (first | (with_reducible first | exact HB.out | apply below_alloc | apply pw_below_drewN | apply below_drew1 | refine below_set ?_ GE304.out | refine below_set ?_ GE305.out | refine below_set ?_ GE310.out | refine below_set ?_ GE311.out) | exact HB.out)) hb)
         clear BK304
         clear BK305
         clear BK310
         clear BK311
         clear HB
         have BK304 := n0_
         have BK305 := n1_
         have BK310 := n2_
         have BK311 := n3_
         have HB := n4_
         clear n0_ n1_ n2_ n3_ n4_
         (try clear hb)
         (try clear hb2)
         (try clear hk)
         (try clear hi)
         refine hK.out _ _ ⟨(blk_cell BK304.out 0).trans rfl, (blk_cell BK304.out 1).trans rfl, (blk_cell BK305.out 0).trans rfl, (blk_cell BK305.out 1).trans rfl⟩ (fun hHeld => ?_)
         clear hK K
         refine norm_ (a' := ?_) ?_ ?_
         rotate_left
         ·show Act.put _ (some 9) _ = _
          simp only [Act.put, List.setIfInBounds_toArray, List.set_cons_zero, List.set_cons_succ, i64_w, i32_w]
          rfl
         exact norm_ (by first | (simp only [putAll, Act.put, List.setIfInBounds_toArray, List.set_cons_zero, List.set_cons_succ]; done) | (simp only [putAll, Act.put, List.setIfInBounds_toArray, List.set_cons_zero, List.set_cons_succ]; rfl)) (hJ1_4_5 (gb310, gb311) _ ⟨hHeld, (by (with_reducible repeat first | apply bN | apply bD | apply bA); exact BK304.out), (by (with_reducible repeat first | apply bN | apply bD | apply bA); exact BK305.out), (by (with_reducible repeat first | apply bN | apply bD | apply bA); exact BK310.out), (by (with_reducible repeat first | apply bN | apply bD | apply bA); exact BK311.out), GW310.out, GE310.out, NB304_310.out, NB310_304.out, NB305_310.out, NB310_305.out, NB311_310.out, NB310_311.out, GW311.out, GE311.out, NB304_311.out, NB311_304.out, NB305_311.out, NB311_305.out, (by repeat (first | (with_reducible first | exact HB.out | apply below_alloc | apply pw_below_drewN | apply below_drew1 | refine below_set ?_ GE304.out | refine below_set ?_ GE305.out | refine below_set ?_ GE310.out | refine below_set ?_ GE311.out) | exact HB.out))⟩)
       ·skip
        rintro gb311 w14 ⟨hS_, h0_, h1_, h2_, h3_, h4_, h5_, h6_, h7_, h8_, h9_⟩
        have n0_ : Aside0 (w14.heap[gb304]? = some (.cells #[.int .i8 a0_0, .int .i8 a0_1] 35 (0, 0))) := ⟨h0_⟩
        have n1_ : Aside0 (w14.heap[gb305]? = some (.cells #[.int .i8 a1_0, .int .i8 a1_1] 35 (0, 0))) := ⟨h1_⟩
        have n2_ : Aside0 (w14.heap[gb311]? = some (.cells #[.int .i8 0, .int .i8 0] 26 (0, 0))) := ⟨h2_⟩
        have n3_ : Aside0 (w.heap.size ≤ gb311) := ⟨h3_⟩
        have n4_ : Aside0 (w.heap.size ≤ gb311) := ⟨h4_⟩
        have n5_ : Aside0 (gb304 ≠ gb311) := ⟨h5_⟩
        have n6_ : Aside0 (gb311 ≠ gb304) := ⟨h6_⟩
        have n7_ : Aside0 (gb305 ≠ gb311) := ⟨h7_⟩
        have n8_ : Aside0 (gb311 ≠ gb305) := ⟨h8_⟩
        have n9_ : Aside0 (Below w.heap.size w w14) := ⟨h9_⟩
        clear BK304
        clear BK305
        clear HB
        clear h0_ h1_ h2_ h3_ h4_ h5_ h6_ h7_ h8_ h9_
        have BK304 := n0_
        have BK305 := n1_
        have BK311 := n2_
        have GW311 := n3_
        have GE311 := n4_
        have NB304_311 := n5_
        have NB311_304 := n6_
        have NB305_311 := n7_
        have NB311_305 := n8_
        have HB := n9_
        clear n0_ n1_ n2_ n3_ n4_ n5_ n6_ n7_ n8_ n9_
        have hHeld : w14.cell? ⟨gb304, 0, none⟩ = some (.int .i8 a0_0) ∧ w14.cell? ⟨gb304, 1, none⟩ = some (.int .i8 a0_1) ∧ w14.cell? ⟨gb305, 0, none⟩ = some (.int .i8 a1_0) ∧ w14.cell? ⟨gb305, 1, none⟩ = some (.int .i8 a1_1) := hS_
        refine norm_ (a' := ?_) ?_ ?_
        rotate_left
        ·simp only [putAll, Act.put, List.setIfInBounds_toArray, List.set_cons_zero, List.set_cons_succ]
         rfl
        refine two_ (i := 3) (j := 4) (Ni := some 11) (Nj := some 5) #[true, true, true, true, false, true, false, false] #[true, true, true, false, true, true, false, false] rfl rfl rfl rfl (two_of HT_.out (by kernel_rfl)) (by decide) (by decide) (fun K hK => ?_) (fun K hK => ?_)
        ·skip
         refine goes_ Tryd.func22 (by kernel_rfl) rfl #[.agg #[.int .i8 a1_0, .int .i8 a1_1]] (by rfl) rfl rfl (by (try simp only [List.map_toArray, List.map_cons, List.map_nil]); first | done | rfl | (simp only [List.length_drop, List.length_take]; rfl)) ?_
         with_reducible refine (strength_Norm.calls a1_0 a1_1 t308 t309 _ A4.out).mono ?_
         rintro e w15 ⟨rfl, hb⟩
         refine ⟨_, rfl, ?_⟩
         have n0_ := Aside0.mk (blk_below (g := gb304) (o := .cells #[.int .i8 a0_0, .int .i8 a0_1] 35 (0, 0)) (by (with_reducible repeat first | apply bN | apply bD | apply bA); exact BK304.out) hb)
         have n1_ := Aside0.mk (blk_below (g := gb305) (o := .cells #[.int .i8 a1_0, .int .i8 a1_1] 35 (0, 0)) (by (with_reducible repeat first | apply bN | apply bD | apply bA); exact BK305.out) hb)
         have n2_ := Aside0.mk (blk_below (g := gb311) (o := .cells #[.int .i8 0, .int .i8 0] 26 (0, 0)) (by (with_reducible repeat first | apply bN | apply bD | apply bA); exact BK311.out) hb)
         have n3_ := Aside0.mk (below_step (by repeat (first | (with_reducible first | exact HB.out | apply below_alloc | apply pw_below_drewN | apply below_drew1 | refine below_set ?_ GE304.out | refine below_set ?_ GE305.out | refine below_set ?_ GE311.out) | exact HB.out)) hb)
         clear BK304
         clear BK305
         clear BK311
         clear HB
         have BK304 := n0_
         have BK305 := n1_
         have BK311 := n2_
         have HB := n3_
         clear n0_ n1_ n2_ n3_
         (try clear hb)
         (try clear hb2)
         (try clear hk)
         (try clear hi)
         refine hK.out _ _ ⟨(blk_cell BK304.out 0).trans rfl, (blk_cell BK304.out 1).trans rfl, (blk_cell BK305.out 0).trans rfl, (blk_cell BK305.out 1).trans rfl⟩ (fun hHeld => ?_)
         clear hK K
         refine norm_ (a' := ?_) ?_ ?_
         rotate_left
         ·show Act.put _ (some 11) _ = _
          simp only [Act.put, List.setIfInBounds_toArray, List.set_cons_zero, List.set_cons_succ, i64_w, i32_w]
          rfl
         exact norm_ (by first | (simp only [putAll, Act.put, List.setIfInBounds_toArray, List.set_cons_zero, List.set_cons_succ]; done) | (simp only [putAll, Act.put, List.setIfInBounds_toArray, List.set_cons_zero, List.set_cons_succ]; rfl)) (hJ1_3_5 (gb311) _ ⟨hHeld, (by (with_reducible repeat first | apply bN | apply bD | apply bA); exact BK304.out), (by (with_reducible repeat first | apply bN | apply bD | apply bA); exact BK305.out), (by (with_reducible repeat first | apply bN | apply bD | apply bA); exact BK311.out), GW311.out, GE311.out, NB304_311.out, NB311_304.out, NB305_311.out, NB311_305.out, (by repeat (first | (with_reducible first | exact HB.out | apply below_alloc | apply pw_below_drewN | apply below_drew1 | refine below_set ?_ GE304.out | refine below_set ?_ GE305.out | refine below_set ?_ GE311.out) | exact HB.out))⟩)
        ·skip
         refine box_step ?hg (N := 5) ?hd (cs := #[.int .i8 0, .int .i8 0]) (t := 26) ?hr ?_; (case hd => rfl); (case hg => rfl); (case hr => first | (go_simp; done) | (go_simp; rfl))
         intro gb310 hg w15 hbox hb
         have n0_ := Aside0.mk (blk_below (g := gb304) (o := .cells #[.int .i8 a0_0, .int .i8 a0_1] 35 (0, 0)) (by (with_reducible repeat first | apply bN | apply bD | apply bA); exact BK304.out) hb)
         have n1_ := Aside0.mk (blk_below (g := gb305) (o := .cells #[.int .i8 a1_0, .int .i8 a1_1] 35 (0, 0)) (by (with_reducible repeat first | apply bN | apply bD | apply bA); exact BK305.out) hb)
         have n2_ := Aside0.mk (blk_below (g := gb311) (o := .cells #[.int .i8 0, .int .i8 0] 26 (0, 0)) (by (with_reducible repeat first | apply bN | apply bD | apply bA); exact BK311.out) hb)
         have n3_ := Aside0.mk (below_step (by repeat (first | (with_reducible first | exact HB.out | apply below_alloc | apply pw_below_drewN | apply below_drew1 | refine below_set ?_ GE304.out | refine below_set ?_ GE305.out | refine below_set ?_ GE311.out) | exact HB.out)) hb)
         have n4_ := Aside0.mk (hbox)
         have n5_ := Aside0.mk ((by rw [hg]; exact (below_size (by repeat (first | (with_reducible first | exact HB.out | apply below_alloc | apply pw_below_drewN | apply below_drew1 | refine below_set ?_ GE304.out | refine below_set ?_ GE305.out | refine below_set ?_ GE311.out) | exact HB.out))) : w.heap.size ≤ gb310))
         have n6_ := Aside0.mk ((by rw [hg]; exact (below_size (by repeat (first | (with_reducible first | exact HB.out | apply below_alloc | apply pw_below_drewN | apply below_drew1 | refine below_set ?_ GE304.out | refine below_set ?_ GE305.out | refine below_set ?_ GE311.out) | exact HB.out))) : w.heap.size ≤ gb310))
         have n7_ := Aside0.mk ((by rw [hg]; exact Nat.ne_of_lt (blk_lt (g := gb304) (o := .cells #[.int .i8 a0_0, .int .i8 a0_1] 35 (0, 0)) (by (with_reducible repeat first | apply bN | apply bD | apply bA); exact BK304.out)) : gb304 ≠ gb310))
         have n8_ := Aside0.mk ((by rw [hg]; exact Nat.ne_of_gt (blk_lt (g := gb304) (o := .cells #[.int .i8 a0_0, .int .i8 a0_1] 35 (0, 0)) (by (with_reducible repeat first | apply bN | apply bD | apply bA); exact BK304.out)) : gb310 ≠ gb304))
         have n9_ := Aside0.mk ((by rw [hg]; exact Nat.ne_of_lt (blk_lt (g := gb305) (o := .cells #[.int .i8 a1_0, .int .i8 a1_1] 35 (0, 0)) (by (with_reducible repeat first | apply bN | apply bD | apply bA); exact BK305.out)) : gb305 ≠ gb310))
         have n10_ := Aside0.mk ((by rw [hg]; exact Nat.ne_of_gt (blk_lt (g := gb305) (o := .cells #[.int .i8 a1_0, .int .i8 a1_1] 35 (0, 0)) (by (with_reducible repeat first | apply bN | apply bD | apply bA); exact BK305.out)) : gb310 ≠ gb305))
         have n11_ := Aside0.mk ((by rw [hg]; exact Nat.ne_of_lt (blk_lt (g := gb311) (o := .cells #[.int .i8 0, .int .i8 0] 26 (0, 0)) (by (with_reducible repeat first | apply bN | apply bD | apply bA); exact BK311.out)) : gb311 ≠ gb310))
         have n12_ := Aside0.mk ((by rw [hg]; exact Nat.ne_of_gt (blk_lt (g := gb311) (o := .cells #[.int .i8 0, .int .i8 0] 26 (0, 0)) (by (with_reducible repeat first | apply bN | apply bD | apply bA); exact BK311.out)) : gb310 ≠ gb311))
         clear BK304
         clear BK305
         clear BK311
         clear HB
         have BK304 := n0_
         have BK305 := n1_
         have BK311 := n2_
         have HB := n3_
         have BK310 := n4_
         have GW310 := n5_
         have GE310 := n6_
         have NB304_310 := n7_
         have NB310_304 := n8_
         have NB305_310 := n9_
         have NB310_305 := n10_
         have NB311_310 := n11_
         have NB310_311 := n12_
         clear n0_ n1_ n2_ n3_ n4_ n5_ n6_ n7_ n8_ n9_ n10_ n11_ n12_
         clear hb hbox hg
         refine hK.out _ _ ⟨(blk_cell BK304.out 0).trans rfl, (blk_cell BK304.out 1).trans rfl, (blk_cell BK305.out 0).trans rfl, (blk_cell BK305.out 1).trans rfl⟩ (fun hHeld => ?_)
         clear hK K
         refine norm_ (a' := ?_) ?_ ?_
         rotate_left
         ·show Act.put _ (some 5) _ = _
          simp only [Act.put, List.setIfInBounds_toArray, List.set_cons_zero, List.set_cons_succ, i64_w, i32_w]
          rfl
         exact norm_ (by first | (simp only [putAll, Act.put, List.setIfInBounds_toArray, List.set_cons_zero, List.set_cons_succ]; done) | (simp only [putAll, Act.put, List.setIfInBounds_toArray, List.set_cons_zero, List.set_cons_succ]; rfl)) (hJ1_4_5 (gb310, gb311) _ ⟨hHeld, (by (with_reducible repeat first | apply bN | apply bD | apply bA); exact BK304.out), (by (with_reducible repeat first | apply bN | apply bD | apply bA); exact BK305.out), (by (with_reducible repeat first | apply bN | apply bD | apply bA); exact BK310.out), (by (with_reducible repeat first | apply bN | apply bD | apply bA); exact BK311.out), GW310.out, GE310.out, NB304_310.out, NB310_304.out, NB305_310.out, NB310_305.out, NB311_310.out, NB310_311.out, GW311.out, GE311.out, NB304_311.out, NB311_304.out, NB305_311.out, NB311_305.out, (by repeat (first | (with_reducible first | exact HB.out | apply below_alloc | apply pw_below_drewN | apply below_drew1 | refine below_set ?_ GE304.out | refine below_set ?_ GE305.out | refine below_set ?_ GE311.out | refine below_set ?_ GE310.out) | exact HB.out))⟩)
      ·skip
       rintro gb310 w14 ⟨hS_, h0_, h1_, h2_, h3_, h4_, h5_, h6_, h7_, h8_, h9_⟩
       have n0_ : Aside0 (w14.heap[gb304]? = some (.cells #[.int .i8 a0_0, .int .i8 a0_1] 35 (0, 0))) := ⟨h0_⟩
       have n1_ : Aside0 (w14.heap[gb305]? = some (.cells #[.int .i8 a1_0, .int .i8 a1_1] 35 (0, 0))) := ⟨h1_⟩
       have n2_ : Aside0 (w14.heap[gb310]? = some (.cells #[.int .i8 0, .int .i8 0] 26 (0, 0))) := ⟨h2_⟩
       have n3_ : Aside0 (w.heap.size ≤ gb310) := ⟨h3_⟩
       have n4_ : Aside0 (w.heap.size ≤ gb310) := ⟨h4_⟩
       have n5_ : Aside0 (gb304 ≠ gb310) := ⟨h5_⟩
       have n6_ : Aside0 (gb310 ≠ gb304) := ⟨h6_⟩
       have n7_ : Aside0 (gb305 ≠ gb310) := ⟨h7_⟩
       have n8_ : Aside0 (gb310 ≠ gb305) := ⟨h8_⟩
       have n9_ : Aside0 (Below w.heap.size w w14) := ⟨h9_⟩
       clear BK304
       clear BK305
       clear HB
       clear h0_ h1_ h2_ h3_ h4_ h5_ h6_ h7_ h8_ h9_
       have BK304 := n0_
       have BK305 := n1_
       have BK310 := n2_
       have GW310 := n3_
       have GE310 := n4_
       have NB304_310 := n5_
       have NB310_304 := n6_
       have NB305_310 := n7_
       have NB310_305 := n8_
       have HB := n9_
       clear n0_ n1_ n2_ n3_ n4_ n5_ n6_ n7_ n8_ n9_
       have hHeld : w14.cell? ⟨gb304, 0, none⟩ = some (.int .i8 a0_0) ∧ w14.cell? ⟨gb304, 1, none⟩ = some (.int .i8 a0_1) ∧ w14.cell? ⟨gb305, 0, none⟩ = some (.int .i8 a1_0) ∧ w14.cell? ⟨gb305, 1, none⟩ = some (.int .i8 a1_1) := hS_
       refine norm_ (a' := ?_) ?_ ?_
       rotate_left
       ·simp only [putAll, Act.put, List.setIfInBounds_toArray, List.set_cons_zero, List.set_cons_succ]
        rfl
       refine two_ (i := 3) (j := 5) (Ni := some 11) (Nj := some 6) #[true, true, true, true, true, false, false, false] #[true, true, true, false, true, true, false, false] rfl rfl rfl rfl (two_of HT_.out (by kernel_rfl)) (by decide) (by decide) (fun K hK => ?_) (fun K hK => ?_)
       ·skip
        refine goes_ Tryd.func22 (by kernel_rfl) rfl #[.agg #[.int .i8 a1_0, .int .i8 a1_1]] (by rfl) rfl rfl (by (try simp only [List.map_toArray, List.map_cons, List.map_nil]); first | done | rfl | (simp only [List.length_drop, List.length_take]; rfl)) ?_
        with_reducible refine (strength_Norm.calls a1_0 a1_1 t308 t309 _ A4.out).mono ?_
        rintro e w15 ⟨rfl, hb⟩
        refine ⟨_, rfl, ?_⟩
        have n0_ := Aside0.mk (blk_below (g := gb304) (o := .cells #[.int .i8 a0_0, .int .i8 a0_1] 35 (0, 0)) (by (with_reducible repeat first | apply bN | apply bD | apply bA); exact BK304.out) hb)
        have n1_ := Aside0.mk (blk_below (g := gb305) (o := .cells #[.int .i8 a1_0, .int .i8 a1_1] 35 (0, 0)) (by (with_reducible repeat first | apply bN | apply bD | apply bA); exact BK305.out) hb)
        have n2_ := Aside0.mk (blk_below (g := gb310) (o := .cells #[.int .i8 0, .int .i8 0] 26 (0, 0)) (by (with_reducible repeat first | apply bN | apply bD | apply bA); exact BK310.out) hb)
        have n3_ := Aside0.mk (below_step (by repeat (first | (with_reducible first | exact HB.out | apply below_alloc | apply pw_below_drewN | apply below_drew1 | refine below_set ?_ GE304.out | refine below_set ?_ GE305.out | refine below_set ?_ GE310.out) | exact HB.out)) hb)
        clear BK304
        clear BK305
        clear BK310
        clear HB
        have BK304 := n0_
        have BK305 := n1_
        have BK310 := n2_
        have HB := n3_
        clear n0_ n1_ n2_ n3_
        (try clear hb)
        (try clear hb2)
        (try clear hk)
        (try clear hi)
        refine hK.out _ _ ⟨(blk_cell BK304.out 0).trans rfl, (blk_cell BK304.out 1).trans rfl, (blk_cell BK305.out 0).trans rfl, (blk_cell BK305.out 1).trans rfl⟩ (fun hHeld => ?_)
        clear hK K
        refine norm_ (a' := ?_) ?_ ?_
        rotate_left
        ·show Act.put _ (some 11) _ = _
         simp only [Act.put, List.setIfInBounds_toArray, List.set_cons_zero, List.set_cons_succ, i64_w, i32_w]
         rfl
        exact norm_ (by first | (simp only [putAll, Act.put, List.setIfInBounds_toArray, List.set_cons_zero, List.set_cons_succ]; done) | (simp only [putAll, Act.put, List.setIfInBounds_toArray, List.set_cons_zero, List.set_cons_succ]; rfl)) (hJ1_3_4 (gb310) _ ⟨hHeld, (by (with_reducible repeat first | apply bN | apply bD | apply bA); exact BK304.out), (by (with_reducible repeat first | apply bN | apply bD | apply bA); exact BK305.out), (by (with_reducible repeat first | apply bN | apply bD | apply bA); exact BK310.out), GW310.out, GE310.out, NB304_310.out, NB310_304.out, NB305_310.out, NB310_305.out, (by repeat (first | (with_reducible first | exact HB.out | apply below_alloc | apply pw_below_drewN | apply below_drew1 | refine below_set ?_ GE304.out | refine below_set ?_ GE305.out | refine below_set ?_ GE310.out) | exact HB.out))⟩)
       ·skip
        refine box_step ?hg (N := 6) ?hd (cs := #[.int .i8 0, .int .i8 0]) (t := 26) ?hr ?_; (case hd => rfl); (case hg => rfl); (case hr => first | (go_simp; done) | (go_simp; rfl))
        intro gb311 hg w15 hbox hb
        have n0_ := Aside0.mk (blk_below (g := gb304) (o := .cells #[.int .i8 a0_0, .int .i8 a0_1] 35 (0, 0)) (by (with_reducible repeat first | apply bN | apply bD | apply bA); exact BK304.out) hb)
        have n1_ := Aside0.mk (blk_below (g := gb305) (o := .cells #[.int .i8 a1_0, .int .i8 a1_1] 35 (0, 0)) (by (with_reducible repeat first | apply bN | apply bD | apply bA); exact BK305.out) hb)
        have n2_ := Aside0.mk (blk_below (g := gb310) (o := .cells #[.int .i8 0, .int .i8 0] 26 (0, 0)) (by (with_reducible repeat first | apply bN | apply bD | apply bA); exact BK310.out) hb)
        have n3_ := Aside0.mk (below_step (by repeat (first | (with_reducible first | exact HB.out | apply below_alloc | apply pw_below_drewN | apply below_drew1 | refine below_set ?_ GE304.out | refine below_set ?_ GE305.out | refine below_set ?_ GE310.out) | exact HB.out)) hb)
        have n4_ := Aside0.mk (hbox)
        have n5_ := Aside0.mk ((by rw [hg]; exact (below_size (by repeat (first | (with_reducible first | exact HB.out | apply below_alloc | apply pw_below_drewN | apply below_drew1 | refine below_set ?_ GE304.out | refine below_set ?_ GE305.out | refine below_set ?_ GE310.out) | exact HB.out))) : w.heap.size ≤ gb311))
        have n6_ := Aside0.mk ((by rw [hg]; exact (below_size (by repeat (first | (with_reducible first | exact HB.out | apply below_alloc | apply pw_below_drewN | apply below_drew1 | refine below_set ?_ GE304.out | refine below_set ?_ GE305.out | refine below_set ?_ GE310.out) | exact HB.out))) : w.heap.size ≤ gb311))
        have n7_ := Aside0.mk ((by rw [hg]; exact Nat.ne_of_lt (blk_lt (g := gb304) (o := .cells #[.int .i8 a0_0, .int .i8 a0_1] 35 (0, 0)) (by (with_reducible repeat first | apply bN | apply bD | apply bA); exact BK304.out)) : gb304 ≠ gb311))
        have n8_ := Aside0.mk ((by rw [hg]; exact Nat.ne_of_gt (blk_lt (g := gb304) (o := .cells #[.int .i8 a0_0, .int .i8 a0_1] 35 (0, 0)) (by (with_reducible repeat first | apply bN | apply bD | apply bA); exact BK304.out)) : gb311 ≠ gb304))
        have n9_ := Aside0.mk ((by rw [hg]; exact Nat.ne_of_lt (blk_lt (g := gb305) (o := .cells #[.int .i8 a1_0, .int .i8 a1_1] 35 (0, 0)) (by (with_reducible repeat first | apply bN | apply bD | apply bA); exact BK305.out)) : gb305 ≠ gb311))
        have n10_ := Aside0.mk ((by rw [hg]; exact Nat.ne_of_gt (blk_lt (g := gb305) (o := .cells #[.int .i8 a1_0, .int .i8 a1_1] 35 (0, 0)) (by (with_reducible repeat first | apply bN | apply bD | apply bA); exact BK305.out)) : gb311 ≠ gb305))
        have n11_ := Aside0.mk ((by rw [hg]; exact Nat.ne_of_lt (blk_lt (g := gb310) (o := .cells #[.int .i8 0, .int .i8 0] 26 (0, 0)) (by (with_reducible repeat first | apply bN | apply bD | apply bA); exact BK310.out)) : gb310 ≠ gb311))
        have n12_ := Aside0.mk ((by rw [hg]; exact Nat.ne_of_gt (blk_lt (g := gb310) (o := .cells #[.int .i8 0, .int .i8 0] 26 (0, 0)) (by (with_reducible repeat first | apply bN | apply bD | apply bA); exact BK310.out)) : gb311 ≠ gb310))
        clear BK304
        clear BK305
        clear BK310
        clear HB
        have BK304 := n0_
        have BK305 := n1_
        have BK310 := n2_
        have HB := n3_
        have BK311 := n4_
        have GW311 := n5_
        have GE311 := n6_
        have NB304_311 := n7_
        have NB311_304 := n8_
        have NB305_311 := n9_
        have NB311_305 := n10_
        have NB310_311 := n11_
        have NB311_310 := n12_
        clear n0_ n1_ n2_ n3_ n4_ n5_ n6_ n7_ n8_ n9_ n10_ n11_ n12_
        clear hb hbox hg
        refine hK.out _ _ ⟨(blk_cell BK304.out 0).trans rfl, (blk_cell BK304.out 1).trans rfl, (blk_cell BK305.out 0).trans rfl, (blk_cell BK305.out 1).trans rfl⟩ (fun hHeld => ?_)
        clear hK K
        refine norm_ (a' := ?_) ?_ ?_
        rotate_left
        ·show Act.put _ (some 6) _ = _
         simp only [Act.put, List.setIfInBounds_toArray, List.set_cons_zero, List.set_cons_succ, i64_w, i32_w]
         rfl
        exact norm_ (by first | (simp only [putAll, Act.put, List.setIfInBounds_toArray, List.set_cons_zero, List.set_cons_succ]; done) | (simp only [putAll, Act.put, List.setIfInBounds_toArray, List.set_cons_zero, List.set_cons_succ]; rfl)) (hJ1_4_5 (gb310, gb311) _ ⟨hHeld, (by (with_reducible repeat first | apply bN | apply bD | apply bA); exact BK304.out), (by (with_reducible repeat first | apply bN | apply bD | apply bA); exact BK305.out), (by (with_reducible repeat first | apply bN | apply bD | apply bA); exact BK310.out), (by (with_reducible repeat first | apply bN | apply bD | apply bA); exact BK311.out), GW310.out, GE310.out, NB304_310.out, NB310_304.out, NB305_310.out, NB310_305.out, NB311_310.out, NB310_311.out, GW311.out, GE311.out, NB304_311.out, NB311_304.out, NB305_311.out, NB311_305.out, (by repeat (first | (with_reducible first | exact HB.out | apply below_alloc | apply pw_below_drewN | apply below_drew1 | refine below_set ?_ GE304.out | refine below_set ?_ GE305.out | refine below_set ?_ GE310.out | refine below_set ?_ GE311.out) | exact HB.out))⟩)
     ·skip
      rintro _ w14 ⟨hS_, h0_, h1_, h2_⟩
      have n0_ : Aside0 (w14.heap[gb304]? = some (.cells #[.int .i8 a0_0, .int .i8 a0_1] 35 (0, 0))) := ⟨h0_⟩
      have n1_ : Aside0 (w14.heap[gb305]? = some (.cells #[.int .i8 a1_0, .int .i8 a1_1] 35 (0, 0))) := ⟨h1_⟩
      have n2_ : Aside0 (Below w.heap.size w w14) := ⟨h2_⟩
      clear BK304
      clear BK305
      clear HB
      clear h0_ h1_ h2_
      have BK304 := n0_
      have BK305 := n1_
      have HB := n2_
      clear n0_ n1_ n2_
      have hHeld : w14.cell? ⟨gb304, 0, none⟩ = some (.int .i8 a0_0) ∧ w14.cell? ⟨gb304, 1, none⟩ = some (.int .i8 a0_1) ∧ w14.cell? ⟨gb305, 0, none⟩ = some (.int .i8 a1_0) ∧ w14.cell? ⟨gb305, 1, none⟩ = some (.int .i8 a1_1) := hS_
      refine norm_ (a' := ?_) ?_ ?_
      rotate_left
      ·simp only [putAll, Act.put, List.setIfInBounds_toArray, List.set_cons_zero, List.set_cons_succ]
       rfl
      refine two_ (i := 4) (j := 5) (Ni := some 5) (Nj := some 6) #[true, true, true, true, true, false, false, false] #[true, true, true, true, false, true, false, false] rfl rfl rfl rfl (two_of HT_.out (by kernel_rfl)) (by decide) (by decide) (fun K hK => ?_) (fun K hK => ?_)
      ·skip
       refine box_step ?hg (N := 5) ?hd (cs := #[.int .i8 0, .int .i8 0]) (t := 26) ?hr ?_; (case hd => rfl); (case hg => rfl); (case hr => first | (go_simp; done) | (go_simp; rfl))
       intro gb310 hg w15 hbox hb
       have n0_ := Aside0.mk (blk_below (g := gb304) (o := .cells #[.int .i8 a0_0, .int .i8 a0_1] 35 (0, 0)) (by (with_reducible repeat first | apply bN | apply bD | apply bA); exact BK304.out) hb)
       have n1_ := Aside0.mk (blk_below (g := gb305) (o := .cells #[.int .i8 a1_0, .int .i8 a1_1] 35 (0, 0)) (by (with_reducible repeat first | apply bN | apply bD | apply bA); exact BK305.out) hb)
       have n2_ := Aside0.mk (below_step (by repeat (first | (with_reducible first | exact HB.out | apply below_alloc | apply pw_below_drewN | apply below_drew1 | refine below_set ?_ GE304.out | refine below_set ?_ GE305.out) | exact HB.out)) hb)
       have n3_ := Aside0.mk (hbox)
       have n4_ := Aside0.mk ((by rw [hg]; exact (below_size (by repeat (first | (with_reducible first | exact HB.out | apply below_alloc | apply pw_below_drewN | apply below_drew1 | refine below_set ?_ GE304.out | refine below_set ?_ GE305.out) | exact HB.out))) : w.heap.size ≤ gb310))
       have n5_ := Aside0.mk ((by rw [hg]; exact (below_size (by repeat (first | (with_reducible first | exact HB.out | apply below_alloc | apply pw_below_drewN | apply below_drew1 | refine below_set ?_ GE304.out | refine below_set ?_ GE305.out) | exact HB.out))) : w.heap.size ≤ gb310))
       have n6_ := Aside0.mk ((by rw [hg]; exact Nat.ne_of_lt (blk_lt (g := gb304) (o := .cells #[.int .i8 a0_0, .int .i8 a0_1] 35 (0, 0)) (by (with_reducible repeat first | apply bN | apply bD | apply bA); exact BK304.out)) : gb304 ≠ gb310))
       have n7_ := Aside0.mk ((by rw [hg]; exact Nat.ne_of_gt (blk_lt (g := gb304) (o := .cells #[.int .i8 a0_0, .int .i8 a0_1] 35 (0, 0)) (by (with_reducible repeat first | apply bN | apply bD | apply bA); exact BK304.out)) : gb310 ≠ gb304))
       have n8_ := Aside0.mk ((by rw [hg]; exact Nat.ne_of_lt (blk_lt (g := gb305) (o := .cells #[.int .i8 a1_0, .int .i8 a1_1] 35 (0, 0)) (by (with_reducible repeat first | apply bN | apply bD | apply bA); exact BK305.out)) : gb305 ≠ gb310))
       have n9_ := Aside0.mk ((by rw [hg]; exact Nat.ne_of_gt (blk_lt (g := gb305) (o := .cells #[.int .i8 a1_0, .int .i8 a1_1] 35 (0, 0)) (by (with_reducible repeat first | apply bN | apply bD | apply bA); exact BK305.out)) : gb310 ≠ gb305))
       clear BK304
       clear BK305
       clear HB
       have BK304 := n0_
       have BK305 := n1_
       have HB := n2_
       have BK310 := n3_
       have GW310 := n4_
       have GE310 := n5_
       have NB304_310 := n6_
       have NB310_304 := n7_
       have NB305_310 := n8_
       have NB310_305 := n9_
       clear n0_ n1_ n2_ n3_ n4_ n5_ n6_ n7_ n8_ n9_
       clear hb hbox hg
       refine hK.out _ _ ⟨(blk_cell BK304.out 0).trans rfl, (blk_cell BK304.out 1).trans rfl, (blk_cell BK305.out 0).trans rfl, (blk_cell BK305.out 1).trans rfl⟩ (fun hHeld => ?_)
       clear hK K
       refine norm_ (a' := ?_) ?_ ?_
       rotate_left
       ·show Act.put _ (some 5) _ = _
        simp only [Act.put, List.setIfInBounds_toArray, List.set_cons_zero, List.set_cons_succ, i64_w, i32_w]
        rfl
       exact norm_ (by first | (simp only [putAll, Act.put, List.setIfInBounds_toArray, List.set_cons_zero, List.set_cons_succ]; done) | (simp only [putAll, Act.put, List.setIfInBounds_toArray, List.set_cons_zero, List.set_cons_succ]; rfl)) (hJ1_3_4 (gb310) _ ⟨hHeld, (by (with_reducible repeat first | apply bN | apply bD | apply bA); exact BK304.out), (by (with_reducible repeat first | apply bN | apply bD | apply bA); exact BK305.out), (by (with_reducible repeat first | apply bN | apply bD | apply bA); exact BK310.out), GW310.out, GE310.out, NB304_310.out, NB310_304.out, NB305_310.out, NB310_305.out, (by repeat (first | (with_reducible first | exact HB.out | apply below_alloc | apply pw_below_drewN | apply below_drew1 | refine below_set ?_ GE304.out | refine below_set ?_ GE305.out | refine below_set ?_ GE310.out) | exact HB.out))⟩)
      ·skip
       refine box_step ?hg (N := 6) ?hd (cs := #[.int .i8 0, .int .i8 0]) (t := 26) ?hr ?_; (case hd => rfl); (case hg => rfl); (case hr => first | (go_simp; done) | (go_simp; rfl))
       intro gb311 hg w15 hbox hb
       have n0_ := Aside0.mk (blk_below (g := gb304) (o := .cells #[.int .i8 a0_0, .int .i8 a0_1] 35 (0, 0)) (by (with_reducible repeat first | apply bN | apply bD | apply bA); exact BK304.out) hb)
       have n1_ := Aside0.mk (blk_below (g := gb305) (o := .cells #[.int .i8 a1_0, .int .i8 a1_1] 35 (0, 0)) (by (with_reducible repeat first | apply bN | apply bD | apply bA); exact BK305.out) hb)
       have n2_ := Aside0.mk (below_step (by repeat (first | (with_reducible first | exact HB.out | apply below_alloc | apply pw_below_drewN | apply below_drew1 | refine below_set ?_ GE304.out | refine below_set ?_ GE305.out) | exact HB.out)) hb)
       have n3_ := Aside0.mk (hbox)
       have n4_ := Aside0.mk ((by rw [hg]; exact (below_size (by repeat (first | (with_reducible first | exact HB.out | apply below_alloc | apply pw_below_drewN | apply below_drew1 | refine below_set ?_ GE304.out | refine below_set ?_ GE305.out) | exact HB.out))) : w.heap.size ≤ gb311))
       have n5_ := Aside0.mk ((by rw [hg]; exact (below_size (by repeat (first | (with_reducible first | exact HB.out | apply below_alloc | apply pw_below_drewN | apply below_drew1 | refine below_set ?_ GE304.out | refine below_set ?_ GE305.out) | exact HB.out))) : w.heap.size ≤ gb311))
       have n6_ := Aside0.mk ((by rw [hg]; exact Nat.ne_of_lt (blk_lt (g := gb304) (o := .cells #[.int .i8 a0_0, .int .i8 a0_1] 35 (0, 0)) (by (with_reducible repeat first | apply bN | apply bD | apply bA); exact BK304.out)) : gb304 ≠ gb311))
       have n7_ := Aside0.mk ((by rw [hg]; exact Nat.ne_of_gt (blk_lt (g := gb304) (o := .cells #[.int .i8 a0_0, .int .i8 a0_1] 35 (0, 0)) (by (with_reducible repeat first | apply bN | apply bD | apply bA); exact BK304.out)) : gb311 ≠ gb304))
       have n8_ := Aside0.mk ((by rw [hg]; exact Nat.ne_of_lt (blk_lt (g := gb305) (o := .cells #[.int .i8 a1_0, .int .i8 a1_1] 35 (0, 0)) (by (with_reducible repeat first | apply bN | apply bD | apply bA); exact BK305.out)) : gb305 ≠ gb311))
       have n9_ := Aside0.mk ((by rw [hg]; exact Nat.ne_of_gt (blk_lt (g := gb305) (o := .cells #[.int .i8 a1_0, .int .i8 a1_1] 35 (0, 0)) (by (with_reducible repeat first | apply bN | apply bD | apply bA); exact BK305.out)) : gb311 ≠ gb305))
       clear BK304
       clear BK305
       clear HB
       have BK304 := n0_
       have BK305 := n1_
       have HB := n2_
       have BK311 := n3_
       have GW311 := n4_
       have GE311 := n5_
       have NB304_311 := n6_
       have NB311_304 := n7_
       have NB305_311 := n8_
       have NB311_305 := n9_
       clear n0_ n1_ n2_ n3_ n4_ n5_ n6_ n7_ n8_ n9_
       clear hb hbox hg
       refine hK.out _ _ ⟨(blk_cell BK304.out 0).trans rfl, (blk_cell BK304.out 1).trans rfl, (blk_cell BK305.out 0).trans rfl, (blk_cell BK305.out 1).trans rfl⟩ (fun hHeld => ?_)
       clear hK K
       refine norm_ (a' := ?_) ?_ ?_
       rotate_left
       ·show Act.put _ (some 6) _ = _
        simp only [Act.put, List.setIfInBounds_toArray, List.set_cons_zero, List.set_cons_succ, i64_w, i32_w]
        rfl
       exact norm_ (by first | (simp only [putAll, Act.put, List.setIfInBounds_toArray, List.set_cons_zero, List.set_cons_succ]; done) | (simp only [putAll, Act.put, List.setIfInBounds_toArray, List.set_cons_zero, List.set_cons_succ]; rfl)) (hJ1_3_5 (gb311) _ ⟨hHeld, (by (with_reducible repeat first | apply bN | apply bD | apply bA); exact BK304.out), (by (with_reducible repeat first | apply bN | apply bD | apply bA); exact BK305.out), (by (with_reducible repeat first | apply bN | apply bD | apply bA); exact BK311.out), GW311.out, GE311.out, NB304_311.out, NB311_304.out, NB305_311.out, NB311_305.out, (by repeat (first | (with_reducible first | exact HB.out | apply below_alloc | apply pw_below_drewN | apply below_drew1 | refine below_set ?_ GE304.out | refine below_set ?_ GE305.out | refine below_set ?_ GE311.out) | exact HB.out))⟩)
    ·skip
     rintro ⟨gb310, gb311⟩ w15 ⟨hS_, h0_, h1_, h2_, h3_, h4_, h5_, h6_, h7_, h8_, h9_, h10_, h11_, h12_, h13_, h14_, h15_, h16_, h17_, h18_⟩
     have n0_ : Aside0 (w15.heap[gb304]? = some (.cells #[.int .i8 a0_0, .int .i8 a0_1] 35 (0, 0))) := ⟨h0_⟩
     have n1_ : Aside0 (w15.heap[gb305]? = some (.cells #[.int .i8 a1_0, .int .i8 a1_1] 35 (0, 0))) := ⟨h1_⟩
     have n2_ : Aside0 (w15.heap[gb310]? = some (.cells #[.int .i8 0, .int .i8 0] 26 (0, 0))) := ⟨h2_⟩
     have n3_ : Aside0 (w15.heap[gb311]? = some (.cells #[.int .i8 0, .int .i8 0] 26 (0, 0))) := ⟨h3_⟩
     have n4_ : Aside0 (w.heap.size ≤ gb310) := ⟨h4_⟩
     have n5_ : Aside0 (w.heap.size ≤ gb310) := ⟨h5_⟩
     have n6_ : Aside0 (gb304 ≠ gb310) := ⟨h6_⟩
     have n7_ : Aside0 (gb310 ≠ gb304) := ⟨h7_⟩
     have n8_ : Aside0 (gb305 ≠ gb310) := ⟨h8_⟩
     have n9_ : Aside0 (gb310 ≠ gb305) := ⟨h9_⟩
     have n10_ : Aside0 (gb311 ≠ gb310) := ⟨h10_⟩
     have n11_ : Aside0 (gb310 ≠ gb311) := ⟨h11_⟩
     have n12_ : Aside0 (w.heap.size ≤ gb311) := ⟨h12_⟩
     have n13_ : Aside0 (w.heap.size ≤ gb311) := ⟨h13_⟩
     have n14_ : Aside0 (gb304 ≠ gb311) := ⟨h14_⟩
     have n15_ : Aside0 (gb311 ≠ gb304) := ⟨h15_⟩
     have n16_ : Aside0 (gb305 ≠ gb311) := ⟨h16_⟩
     have n17_ : Aside0 (gb311 ≠ gb305) := ⟨h17_⟩
     have n18_ : Aside0 (Below w.heap.size w w15) := ⟨h18_⟩
     clear BK304
     clear BK305
     clear HB
     clear h0_ h1_ h2_ h3_ h4_ h5_ h6_ h7_ h8_ h9_ h10_ h11_ h12_ h13_ h14_ h15_ h16_ h17_ h18_
     have BK304 := n0_
     have BK305 := n1_
     have BK310 := n2_
     have BK311 := n3_
     have GW310 := n4_
     have GE310 := n5_
     have NB304_310 := n6_
     have NB310_304 := n7_
     have NB305_310 := n8_
     have NB310_305 := n9_
     have NB311_310 := n10_
     have NB310_311 := n11_
     have GW311 := n12_
     have GE311 := n13_
     have NB304_311 := n14_
     have NB311_304 := n15_
     have NB305_311 := n16_
     have NB311_305 := n17_
     have HB := n18_
     clear n0_ n1_ n2_ n3_ n4_ n5_ n6_ n7_ n8_ n9_ n10_ n11_ n12_ n13_ n14_ n15_ n16_ n17_ n18_
     have hHeld : w15.cell? ⟨gb304, 0, none⟩ = some (.int .i8 a0_0) ∧ w15.cell? ⟨gb304, 1, none⟩ = some (.int .i8 a0_1) ∧ w15.cell? ⟨gb305, 0, none⟩ = some (.int .i8 a1_0) ∧ w15.cell? ⟨gb305, 1, none⟩ = some (.int .i8 a1_1) := hS_
     refine norm_ (a' := ?_) ?_ ?_
     rotate_left
     ·simp only [putAll, Act.put, List.setIfInBounds_toArray, List.set_cons_zero, List.set_cons_succ]
      rfl
     refine one_ (i := 3) (N := some 11) #[true, true, true, true, true, true, false, false] rfl rfl (one_of HT_.out (by kernel_rfl)) (by decide) (fun K hK => ?_)
     refine goes_ Tryd.func22 (by kernel_rfl) rfl #[.agg #[.int .i8 a1_0, .int .i8 a1_1]] (by rfl) rfl rfl (by (try simp only [List.map_toArray, List.map_cons, List.map_nil]); first | done | rfl | (simp only [List.length_drop, List.length_take]; rfl)) ?_
     with_reducible refine (strength_Norm.calls a1_0 a1_1 t308 t309 _ A4.out).mono ?_
     rintro e w16 ⟨rfl, hb⟩
     refine ⟨_, rfl, ?_⟩
     have n0_ := Aside0.mk (blk_below (g := gb304) (o := .cells #[.int .i8 a0_0, .int .i8 a0_1] 35 (0, 0)) (by (with_reducible repeat first | apply bN | apply bD | apply bA); exact BK304.out) hb)
     have n1_ := Aside0.mk (blk_below (g := gb305) (o := .cells #[.int .i8 a1_0, .int .i8 a1_1] 35 (0, 0)) (by (with_reducible repeat first | apply bN | apply bD | apply bA); exact BK305.out) hb)
     have n2_ := Aside0.mk (blk_below (g := gb310) (o := .cells #[.int .i8 0, .int .i8 0] 26 (0, 0)) (by (with_reducible repeat first | apply bN | apply bD | apply bA); exact BK310.out) hb)
     have n3_ := Aside0.mk (blk_below (g := gb311) (o := .cells #[.int .i8 0, .int .i8 0] 26 (0, 0)) (by (with_reducible repeat first | apply bN | apply bD | apply bA); exact BK311.out) hb)
     have n4_ := Aside0.mk (below_step (by repeat (first | (with_reducible first | exact HB.out | apply below_alloc | apply pw_below_drewN | apply below_drew1 | refine below_set ?_ GE304.out | refine below_set ?_ GE305.out | refine below_set ?_ GE310.out | refine below_set ?_ GE311.out) | exact HB.out)) hb)
     clear BK304
     clear BK305
     clear BK310
     clear BK311
     clear HB
     have BK304 := n0_
     have BK305 := n1_
     have BK310 := n2_
     have BK311 := n3_
     have HB := n4_
     clear n0_ n1_ n2_ n3_ n4_
     (try clear hb)
     (try clear hb2)
     (try clear hk)
     (try clear hi)
     refine hK.out _ _ ⟨(blk_cell BK304.out 0).trans rfl, (blk_cell BK304.out 1).trans rfl, (blk_cell BK305.out 0).trans rfl, (blk_cell BK305.out 1).trans rfl⟩ (fun hHeld => ?_)
     clear hK K
     refine norm_ (a' := ?_) ?_ ?_
     rotate_left
     ·show Act.put _ (some 11) _ = _
      simp only [Act.put, List.setIfInBounds_toArray, List.set_cons_zero, List.set_cons_succ, i64_w, i32_w]
      rfl
     exact norm_ (by first | (simp only [putAll, Act.put, List.setIfInBounds_toArray, List.set_cons_zero, List.set_cons_succ]; done) | (simp only [putAll, Act.put, List.setIfInBounds_toArray, List.set_cons_zero, List.set_cons_succ]; rfl)) (hJ1_3_4_5 (gb310, gb311) _ ⟨hHeld, (by (with_reducible repeat first | apply bN | apply bD | apply bA); exact BK304.out), (by (with_reducible repeat first | apply bN | apply bD | apply bA); exact BK305.out), (by (with_reducible repeat first | apply bN | apply bD | apply bA); exact BK310.out), (by (with_reducible repeat first | apply bN | apply bD | apply bA); exact BK311.out), GW310.out, GE310.out, NB304_310.out, NB310_304.out, NB305_310.out, NB310_305.out, NB311_310.out, NB310_311.out, GW311.out, GE311.out, NB304_311.out, NB311_304.out, NB305_311.out, NB311_305.out, (by repeat (first | (with_reducible first | exact HB.out | apply below_alloc | apply pw_below_drewN | apply below_drew1 | refine below_set ?_ GE304.out | refine below_set ?_ GE305.out | refine below_set ?_ GE310.out | refine below_set ?_ GE311.out) | exact HB.out))⟩)
   ·skip
    rintro gb311 w15 ⟨hS_, h0_, h1_, h2_, h3_, h4_, h5_, h6_, h7_, h8_, h9_⟩
    have n0_ : Aside0 (w15.heap[gb304]? = some (.cells #[.int .i8 a0_0, .int .i8 a0_1] 35 (0, 0))) := ⟨h0_⟩
    have n1_ : Aside0 (w15.heap[gb305]? = some (.cells #[.int .i8 a1_0, .int .i8 a1_1] 35 (0, 0))) := ⟨h1_⟩
    have n2_ : Aside0 (w15.heap[gb311]? = some (.cells #[.int .i8 0, .int .i8 0] 26 (0, 0))) := ⟨h2_⟩
    have n3_ : Aside0 (w.heap.size ≤ gb311) := ⟨h3_⟩
    have n4_ : Aside0 (w.heap.size ≤ gb311) := ⟨h4_⟩
    have n5_ : Aside0 (gb304 ≠ gb311) := ⟨h5_⟩
    have n6_ : Aside0 (gb311 ≠ gb304) := ⟨h6_⟩
    have n7_ : Aside0 (gb305 ≠ gb311) := ⟨h7_⟩
    have n8_ : Aside0 (gb311 ≠ gb305) := ⟨h8_⟩
    have n9_ : Aside0 (Below w.heap.size w w15) := ⟨h9_⟩
    clear BK304
    clear BK305
    clear HB
    clear h0_ h1_ h2_ h3_ h4_ h5_ h6_ h7_ h8_ h9_
    have BK304 := n0_
    have BK305 := n1_
    have BK311 := n2_
    have GW311 := n3_
    have GE311 := n4_
    have NB304_311 := n5_
    have NB311_304 := n6_
    have NB305_311 := n7_
    have NB311_305 := n8_
    have HB := n9_
    clear n0_ n1_ n2_ n3_ n4_ n5_ n6_ n7_ n8_ n9_
    have hHeld : w15.cell? ⟨gb304, 0, none⟩ = some (.int .i8 a0_0) ∧ w15.cell? ⟨gb304, 1, none⟩ = some (.int .i8 a0_1) ∧ w15.cell? ⟨gb305, 0, none⟩ = some (.int .i8 a1_0) ∧ w15.cell? ⟨gb305, 1, none⟩ = some (.int .i8 a1_1) := hS_
    refine norm_ (a' := ?_) ?_ ?_
    rotate_left
    ·simp only [putAll, Act.put, List.setIfInBounds_toArray, List.set_cons_zero, List.set_cons_succ]
     rfl
    refine one_ (i := 4) (N := some 5) #[true, true, true, true, true, true, false, false] rfl rfl (one_of HT_.out (by kernel_rfl)) (by decide) (fun K hK => ?_)
    refine box_step ?hg (N := 5) ?hd (cs := #[.int .i8 0, .int .i8 0]) (t := 26) ?hr ?_; (case hd => rfl); (case hg => rfl); (case hr => first | (go_simp; done) | (go_simp; rfl))
    intro gb310 hg w16 hbox hb
    have n0_ := Aside0.mk (blk_below (g := gb304) (o := .cells #[.int .i8 a0_0, .int .i8 a0_1] 35 (0, 0)) (by (with_reducible repeat first | apply bN | apply bD | apply bA); exact BK304.out) hb)
    have n1_ := Aside0.mk (blk_below (g := gb305) (o := .cells #[.int .i8 a1_0, .int .i8 a1_1] 35 (0, 0)) (by (with_reducible repeat first | apply bN | apply bD | apply bA); exact BK305.out) hb)
    have n2_ := Aside0.mk (blk_below (g := gb311) (o := .cells #[.int .i8 0, .int .i8 0] 26 (0, 0)) (by (with_reducible repeat first | apply bN | apply bD | apply bA); exact BK311.out) hb)
    have n3_ := Aside0.mk (below_step (by repeat (first | (with_reducible first | exact HB.out | apply below_alloc | apply pw_below_drewN | apply below_drew1 | refine below_set ?_ GE304.out | refine below_set ?_ GE305.out | refine below_set ?_ GE311.out) | exact HB.out)) hb)
    have n4_ := Aside0.mk (hbox)
    have n5_ := Aside0.mk ((by rw [hg]; exact (below_size (by repeat (first | (with_reducible first | exact HB.out | apply below_alloc | apply pw_below_drewN | apply below_drew1 | refine below_set ?_ GE304.out | refine below_set ?_ GE305.out | refine below_set ?_ GE311.out) | exact HB.out))) : w.heap.size ≤ gb310))
    have n6_ := Aside0.mk ((by rw [hg]; exact (below_size (by repeat (first | (with_reducible first | exact HB.out | apply below_alloc | apply pw_below_drewN | apply below_drew1 | refine below_set ?_ GE304.out | refine below_set ?_ GE305.out | refine below_set ?_ GE311.out) | exact HB.out))) : w.heap.size ≤ gb310))
    have n7_ := Aside0.mk ((by rw [hg]; exact Nat.ne_of_lt (blk_lt (g := gb304) (o := .cells #[.int .i8 a0_0, .int .i8 a0_1] 35 (0, 0)) (by (with_reducible repeat first | apply bN | apply bD | apply bA); exact BK304.out)) : gb304 ≠ gb310))
    have n8_ := Aside0.mk ((by rw [hg]; exact Nat.ne_of_gt (blk_lt (g := gb304) (o := .cells #[.int .i8 a0_0, .int .i8 a0_1] 35 (0, 0)) (by (with_reducible repeat first | apply bN | apply bD | apply bA); exact BK304.out)) : gb310 ≠ gb304))
    have n9_ := Aside0.mk ((by rw [hg]; exact Nat.ne_of_lt (blk_lt (g := gb305) (o := .cells #[.int .i8 a1_0, .int .i8 a1_1] 35 (0, 0)) (by (with_reducible repeat first | apply bN | apply bD | apply bA); exact BK305.out)) : gb305 ≠ gb310))
    have n10_ := Aside0.mk ((by rw [hg]; exact Nat.ne_of_gt (blk_lt (g := gb305) (o := .cells #[.int .i8 a1_0, .int .i8 a1_1] 35 (0, 0)) (by (with_reducible repeat first | apply bN | apply bD | apply bA); exact BK305.out)) : gb310 ≠ gb305))
    have n11_ := Aside0.mk ((by rw [hg]; exact Nat.ne_of_lt (blk_lt (g := gb311) (o := .cells #[.int .i8 0, .int .i8 0] 26 (0, 0)) (by (with_reducible repeat first | apply bN | apply bD | apply bA); exact BK311.out)) : gb311 ≠ gb310))
    have n12_ := Aside0.mk ((by rw [hg]; exact Nat.ne_of_gt (blk_lt (g := gb311) (o := .cells #[.int .i8 0, .int .i8 0] 26 (0, 0)) (by (with_reducible repeat first | apply bN | apply bD | apply bA); exact BK311.out)) : gb310 ≠ gb311))
    clear BK304
    clear BK305
    clear BK311
    clear HB
    have BK304 := n0_
    have BK305 := n1_
    have BK311 := n2_
    have HB := n3_
    have BK310 := n4_
    have GW310 := n5_
    have GE310 := n6_
    have NB304_310 := n7_
    have NB310_304 := n8_
    have NB305_310 := n9_
    have NB310_305 := n10_
    have NB311_310 := n11_
    have NB310_311 := n12_
    clear n0_ n1_ n2_ n3_ n4_ n5_ n6_ n7_ n8_ n9_ n10_ n11_ n12_
    clear hb hbox hg
    refine hK.out _ _ ⟨(blk_cell BK304.out 0).trans rfl, (blk_cell BK304.out 1).trans rfl, (blk_cell BK305.out 0).trans rfl, (blk_cell BK305.out 1).trans rfl⟩ (fun hHeld => ?_)
    clear hK K
    refine norm_ (a' := ?_) ?_ ?_
    rotate_left
    ·show Act.put _ (some 5) _ = _
     simp only [Act.put, List.setIfInBounds_toArray, List.set_cons_zero, List.set_cons_succ, i64_w, i32_w]
     rfl
    exact norm_ (by first | (simp only [putAll, Act.put, List.setIfInBounds_toArray, List.set_cons_zero, List.set_cons_succ]; done) | (simp only [putAll, Act.put, List.setIfInBounds_toArray, List.set_cons_zero, List.set_cons_succ]; rfl)) (hJ1_3_4_5 (gb310, gb311) _ ⟨hHeld, (by (with_reducible repeat first | apply bN | apply bD | apply bA); exact BK304.out), (by (with_reducible repeat first | apply bN | apply bD | apply bA); exact BK305.out), (by (with_reducible repeat first | apply bN | apply bD | apply bA); exact BK310.out), (by (with_reducible repeat first | apply bN | apply bD | apply bA); exact BK311.out), GW310.out, GE310.out, NB304_310.out, NB310_304.out, NB305_310.out, NB310_305.out, NB311_310.out, NB310_311.out, GW311.out, GE311.out, NB304_311.out, NB311_304.out, NB305_311.out, NB311_305.out, (by repeat (first | (with_reducible first | exact HB.out | apply below_alloc | apply pw_below_drewN | apply below_drew1 | refine below_set ?_ GE304.out | refine below_set ?_ GE305.out | refine below_set ?_ GE311.out | refine below_set ?_ GE310.out) | exact HB.out))⟩)
  ·skip
   rintro gb310 w15 ⟨hS_, h0_, h1_, h2_, h3_, h4_, h5_, h6_, h7_, h8_, h9_⟩
   have n0_ : Aside0 (w15.heap[gb304]? = some (.cells #[.int .i8 a0_0, .int .i8 a0_1] 35 (0, 0))) := ⟨h0_⟩
   have n1_ : Aside0 (w15.heap[gb305]? = some (.cells #[.int .i8 a1_0, .int .i8 a1_1] 35 (0, 0))) := ⟨h1_⟩
   have n2_ : Aside0 (w15.heap[gb310]? = some (.cells #[.int .i8 0, .int .i8 0] 26 (0, 0))) := ⟨h2_⟩
   have n3_ : Aside0 (w.heap.size ≤ gb310) := ⟨h3_⟩
   have n4_ : Aside0 (w.heap.size ≤ gb310) := ⟨h4_⟩
   have n5_ : Aside0 (gb304 ≠ gb310) := ⟨h5_⟩
   have n6_ : Aside0 (gb310 ≠ gb304) := ⟨h6_⟩
   have n7_ : Aside0 (gb305 ≠ gb310) := ⟨h7_⟩
   have n8_ : Aside0 (gb310 ≠ gb305) := ⟨h8_⟩
   have n9_ : Aside0 (Below w.heap.size w w15) := ⟨h9_⟩
   clear BK304
   clear BK305
   clear HB
   clear h0_ h1_ h2_ h3_ h4_ h5_ h6_ h7_ h8_ h9_
   have BK304 := n0_
   have BK305 := n1_
   have BK310 := n2_
   have GW310 := n3_
   have GE310 := n4_
   have NB304_310 := n5_
   have NB310_304 := n6_
   have NB305_310 := n7_
   have NB310_305 := n8_
   have HB := n9_
   clear n0_ n1_ n2_ n3_ n4_ n5_ n6_ n7_ n8_ n9_
   have hHeld : w15.cell? ⟨gb304, 0, none⟩ = some (.int .i8 a0_0) ∧ w15.cell? ⟨gb304, 1, none⟩ = some (.int .i8 a0_1) ∧ w15.cell? ⟨gb305, 0, none⟩ = some (.int .i8 a1_0) ∧ w15.cell? ⟨gb305, 1, none⟩ = some (.int .i8 a1_1) := hS_
   refine norm_ (a' := ?_) ?_ ?_
   rotate_left
   ·simp only [putAll, Act.put, List.setIfInBounds_toArray, List.set_cons_zero, List.set_cons_succ]
    rfl
   refine one_ (i := 5) (N := some 6) #[true, true, true, true, true, true, false, false] rfl rfl (one_of HT_.out (by kernel_rfl)) (by decide) (fun K hK => ?_)
   refine box_step ?hg (N := 6) ?hd (cs := #[.int .i8 0, .int .i8 0]) (t := 26) ?hr ?_; (case hd => rfl); (case hg => rfl); (case hr => first | (go_simp; done) | (go_simp; rfl))
   intro gb311 hg w16 hbox hb
   have n0_ := Aside0.mk (blk_below (g := gb304) (o := .cells #[.int .i8 a0_0, .int .i8 a0_1] 35 (0, 0)) (by (with_reducible repeat first | apply bN | apply bD | apply bA); exact BK304.out) hb)
   have n1_ := Aside0.mk (blk_below (g := gb305) (o := .cells #[.int .i8 a1_0, .int .i8 a1_1] 35 (0, 0)) (by (with_reducible repeat first | apply bN | apply bD | apply bA); exact BK305.out) hb)
   have n2_ := Aside0.mk (blk_below (g := gb310) (o := .cells #[.int .i8 0, .int .i8 0] 26 (0, 0)) (by (with_reducible repeat first | apply bN | apply bD | apply bA); exact BK310.out) hb)
   have n3_ := Aside0.mk (below_step (by repeat (first | (with_reducible first | exact HB.out | apply below_alloc | apply pw_below_drewN | apply below_drew1 | refine below_set ?_ GE304.out | refine below_set ?_ GE305.out | refine below_set ?_ GE310.out) | exact HB.out)) hb)
   have n4_ := Aside0.mk (hbox)
   have n5_ := Aside0.mk ((by rw [hg]; exact (below_size (by repeat (first | (with_reducible first | exact HB.out | apply below_alloc | apply pw_below_drewN | apply below_drew1 | refine below_set ?_ GE304.out | refine below_set ?_ GE305.out | refine below_set ?_ GE310.out) | exact HB.out))) : w.heap.size ≤ gb311))
   have n6_ := Aside0.mk ((by rw [hg]; exact (below_size (by repeat (first | (with_reducible first | exact HB.out | apply below_alloc | apply pw_below_drewN | apply below_drew1 | refine below_set ?_ GE304.out | refine below_set ?_ GE305.out | refine below_set ?_ GE310.out) | exact HB.out))) : w.heap.size ≤ gb311))
   have n7_ := Aside0.mk ((by rw [hg]; exact Nat.ne_of_lt (blk_lt (g := gb304) (o := .cells #[.int .i8 a0_0, .int .i8 a0_1] 35 (0, 0)) (by (with_reducible repeat first | apply bN | apply bD | apply bA); exact BK304.out)) : gb304 ≠ gb311))
   have n8_ := Aside0.mk ((by rw [hg]; exact Nat.ne_of_gt (blk_lt (g := gb304) (o := .cells #[.int .i8 a0_0, .int .i8 a0_1] 35 (0, 0)) (by (with_reducible repeat first | apply bN | apply bD | apply bA); exact BK304.out)) : gb311 ≠ gb304))
   have n9_ := Aside0.mk ((by rw [hg]; exact Nat.ne_of_lt (blk_lt (g := gb305) (o := .cells #[.int .i8 a1_0, .int .i8 a1_1] 35 (0, 0)) (by (with_reducible repeat first | apply bN | apply bD | apply bA); exact BK305.out)) : gb305 ≠ gb311))
   have n10_ := Aside0.mk ((by rw [hg]; exact Nat.ne_of_gt (blk_lt (g := gb305) (o := .cells #[.int .i8 a1_0, .int .i8 a1_1] 35 (0, 0)) (by (with_reducible repeat first | apply bN | apply bD | apply bA); exact BK305.out)) : gb311 ≠ gb305))
   have n11_ := Aside0.mk ((by rw [hg]; exact Nat.ne_of_lt (blk_lt (g := gb310) (o := .cells #[.int .i8 0, .int .i8 0] 26 (0, 0)) (by (with_reducible repeat first | apply bN | apply bD | apply bA); exact BK310.out)) : gb310 ≠ gb311))
   have n12_ := Aside0.mk ((by rw [hg]; exact Nat.ne_of_gt (blk_lt (g := gb310) (o := .cells #[.int .i8 0, .int .i8 0] 26 (0, 0)) (by (with_reducible repeat first | apply bN | apply bD | apply bA); exact BK310.out)) : gb311 ≠ gb310))
   clear BK304
   clear BK305
   clear BK310
   clear HB
   have BK304 := n0_
   have BK305 := n1_
   have BK310 := n2_
   have HB := n3_
   have BK311 := n4_
   have GW311 := n5_
   have GE311 := n6_
   have NB304_311 := n7_
   have NB311_304 := n8_
   have NB305_311 := n9_
   have NB311_305 := n10_
   have NB310_311 := n11_
   have NB311_310 := n12_
   clear n0_ n1_ n2_ n3_ n4_ n5_ n6_ n7_ n8_ n9_ n10_ n11_ n12_
   clear hb hbox hg
   refine hK.out _ _ ⟨(blk_cell BK304.out 0).trans rfl, (blk_cell BK304.out 1).trans rfl, (blk_cell BK305.out 0).trans rfl, (blk_cell BK305.out 1).trans rfl⟩ (fun hHeld => ?_)
   clear hK K
   refine norm_ (a' := ?_) ?_ ?_
   rotate_left
   ·show Act.put _ (some 6) _ = _
    simp only [Act.put, List.setIfInBounds_toArray, List.set_cons_zero, List.set_cons_succ, i64_w, i32_w]
    rfl
   exact norm_ (by first | (simp only [putAll, Act.put, List.setIfInBounds_toArray, List.set_cons_zero, List.set_cons_succ]; done) | (simp only [putAll, Act.put, List.setIfInBounds_toArray, List.set_cons_zero, List.set_cons_succ]; rfl)) (hJ1_3_4_5 (gb310, gb311) _ ⟨hHeld, (by (with_reducible repeat first | apply bN | apply bD | apply bA); exact BK304.out), (by (with_reducible repeat first | apply bN | apply bD | apply bA); exact BK305.out), (by (with_reducible repeat first | apply bN | apply bD | apply bA); exact BK310.out), (by (with_reducible repeat first | apply bN | apply bD | apply bA); exact BK311.out), GW310.out, GE310.out, NB304_310.out, NB310_304.out, NB305_310.out, NB310_305.out, NB311_310.out, NB310_311.out, GW311.out, GE311.out, NB304_311.out, NB311_304.out, NB305_311.out, NB311_305.out, (by repeat (first | (with_reducible first | exact HB.out | apply below_alloc | apply pw_below_drewN | apply below_drew1 | refine below_set ?_ GE304.out | refine below_set ?_ GE305.out | refine below_set ?_ GE310.out | refine below_set ?_ GE311.out) | exact HB.out))⟩)
 rintro ⟨gb310, gb311⟩ w16 ⟨hS_, h0_, h1_, h2_, h3_, h4_, h5_, h6_, h7_, h8_, h9_, h10_, h11_, h12_, h13_, h14_, h15_, h16_, h17_, h18_⟩
 have n0_ : Aside0 (w16.heap[gb304]? = some (.cells #[.int .i8 a0_0, .int .i8 a0_1] 35 (0, 0))) := ⟨h0_⟩
 have n1_ : Aside0 (w16.heap[gb305]? = some (.cells #[.int .i8 a1_0, .int .i8 a1_1] 35 (0, 0))) := ⟨h1_⟩
 have n2_ : Aside0 (w16.heap[gb310]? = some (.cells #[.int .i8 0, .int .i8 0] 26 (0, 0))) := ⟨h2_⟩
 have n3_ : Aside0 (w16.heap[gb311]? = some (.cells #[.int .i8 0, .int .i8 0] 26 (0, 0))) := ⟨h3_⟩
 have n4_ : Aside0 (w.heap.size ≤ gb310) := ⟨h4_⟩
 have n5_ : Aside0 (w.heap.size ≤ gb310) := ⟨h5_⟩
 have n6_ : Aside0 (gb304 ≠ gb310) := ⟨h6_⟩
 have n7_ : Aside0 (gb310 ≠ gb304) := ⟨h7_⟩
 have n8_ : Aside0 (gb305 ≠ gb310) := ⟨h8_⟩
 have n9_ : Aside0 (gb310 ≠ gb305) := ⟨h9_⟩
 have n10_ : Aside0 (gb311 ≠ gb310) := ⟨h10_⟩
 have n11_ : Aside0 (gb310 ≠ gb311) := ⟨h11_⟩
 have n12_ : Aside0 (w.heap.size ≤ gb311) := ⟨h12_⟩
 have n13_ : Aside0 (w.heap.size ≤ gb311) := ⟨h13_⟩
 have n14_ : Aside0 (gb304 ≠ gb311) := ⟨h14_⟩
 have n15_ : Aside0 (gb311 ≠ gb304) := ⟨h15_⟩
 have n16_ : Aside0 (gb305 ≠ gb311) := ⟨h16_⟩
 have n17_ : Aside0 (gb311 ≠ gb305) := ⟨h17_⟩
 have n18_ : Aside0 (Below w.heap.size w w16) := ⟨h18_⟩
 clear BK304
 clear BK305
 clear HB
 clear h0_ h1_ h2_ h3_ h4_ h5_ h6_ h7_ h8_ h9_ h10_ h11_ h12_ h13_ h14_ h15_ h16_ h17_ h18_
 have BK304 := n0_
 have BK305 := n1_
 have BK310 := n2_
 have BK311 := n3_
 have GW310 := n4_
 have GE310 := n5_
 have NB304_310 := n6_
 have NB310_304 := n7_
 have NB305_310 := n8_
 have NB310_305 := n9_
 have NB311_310 := n10_
 have NB310_311 := n11_
 have GW311 := n12_
 have GE311 := n13_
 have NB304_311 := n14_
 have NB311_304 := n15_
 have NB305_311 := n16_
 have NB311_305 := n17_
 have HB := n18_
 clear n0_ n1_ n2_ n3_ n4_ n5_ n6_ n7_ n8_ n9_ n10_ n11_ n12_ n13_ n14_ n15_ n16_ n17_ n18_
 have hHeld : w16.cell? ⟨gb304, 0, none⟩ = some (.int .i8 a0_0) ∧ w16.cell? ⟨gb304, 1, none⟩ = some (.int .i8 a0_1) ∧ w16.cell? ⟨gb305, 0, none⟩ = some (.int .i8 a1_0) ∧ w16.cell? ⟨gb305, 1, none⟩ = some (.int .i8 a1_1) := hS_
 refine norm_ (a' := ?_) ?_ ?_
 rotate_left
 ·simp only [putAll, Act.put, List.setIfInBounds_toArray, List.set_cons_zero, List.set_cons_succ]
  rfl
 refine one_ (i := 6) (N := none) #[true, true, true, true, true, true, true, false] rfl rfl (one_of HT_.out (by kernel_rfl)) (by decide) (fun K hK => ?_)
 have hs17 : w16.cell? ⟨gb310, 0, none⟩ = some (.int .i8 0) := (blk_cell BK310.out 0).trans rfl
 have hfs17 := blk_frozen BK310.out 0
 have hns17_0 := NB304_310.out
 have hns17_1 := NB305_310.out
 have hns17_3 := NB311_310.out
 have hms17_0 := NB310_304.out
 have hms17_1 := NB310_305.out
 have hms17_3 := NB310_311.out
 have hs18 : w16.cell? ⟨gb310, 1, none⟩ = some (.int .i8 0) := (blk_cell BK310.out 1).trans rfl
 have hfs18 := blk_frozen BK310.out 1
 have hns18_0 := NB304_310.out
 have hns18_1 := NB305_310.out
 have hns18_3 := NB311_310.out
 have hms18_0 := NB310_304.out
 have hms18_1 := NB310_305.out
 have hms18_3 := NB310_311.out
 refine skip_ (w1 := ?_) (by rfl) rfl ?_ ?_
 rotate_left
 ·go_simp
  rfl
 refine hK.out _ _ ⟨((cell_far (p := ⟨gb310, _, none⟩) NB304_310.out _).trans (((cell_far (p := ⟨gb310, _, none⟩) NB304_310.out _).trans (hHeld.1)))), ((cell_far (p := ⟨gb310, _, none⟩) NB304_310.out _).trans (((cell_far (p := ⟨gb310, _, none⟩) NB304_310.out _).trans (hHeld.2.1)))), ((cell_far (p := ⟨gb310, _, none⟩) NB305_310.out _).trans (((cell_far (p := ⟨gb310, _, none⟩) NB305_310.out _).trans (hHeld.2.2.1)))), ((cell_far (p := ⟨gb310, _, none⟩) NB305_310.out _).trans (((cell_far (p := ⟨gb310, _, none⟩) NB305_310.out _).trans (hHeld.2.2.2))))⟩ (fun hHeld => ?_)
 clear hK K
 refine one_ (i := 7) (N := none) #[true, true, true, true, true, true, true, true] rfl rfl (one_of HT_.out (by kernel_rfl)) (by decide) (fun K hK => ?_)
 have hs19 : w16.cell? ⟨gb311, 0, none⟩ = some (.int .i8 0) := (blk_cell BK311.out 0).trans rfl
 have hfs19 := blk_frozen BK311.out 0
 have hns19_0 := NB304_311.out
 have hns19_1 := NB305_311.out
 have hns19_2 := NB310_311.out
 have hms19_0 := NB311_304.out
 have hms19_1 := NB311_305.out
 have hms19_2 := NB311_310.out
 have hs20 : w16.cell? ⟨gb311, 1, none⟩ = some (.int .i8 0) := (blk_cell BK311.out 1).trans rfl
 have hfs20 := blk_frozen BK311.out 1
 have hns20_0 := NB304_311.out
 have hns20_1 := NB305_311.out
 have hns20_2 := NB310_311.out
 have hms20_0 := NB311_304.out
 have hms20_1 := NB311_305.out
 have hms20_2 := NB311_310.out
 refine skip_ (w1 := ?_) (by rfl) rfl ?_ ?_
 rotate_left
 ·go_simp
  rfl
 refine hK.out _ _ ⟨((cell_far (p := ⟨gb311, _, none⟩) NB304_311.out _).trans (((cell_far (p := ⟨gb311, _, none⟩) NB304_311.out _).trans (hHeld.1)))), ((cell_far (p := ⟨gb311, _, none⟩) NB304_311.out _).trans (((cell_far (p := ⟨gb311, _, none⟩) NB304_311.out _).trans (hHeld.2.1)))), ((cell_far (p := ⟨gb311, _, none⟩) NB305_311.out _).trans (((cell_far (p := ⟨gb311, _, none⟩) NB305_311.out _).trans (hHeld.2.2.1)))), ((cell_far (p := ⟨gb311, _, none⟩) NB305_311.out _).trans (((cell_far (p := ⟨gb311, _, none⟩) NB305_311.out _).trans (hHeld.2.2.2))))⟩ (fun hHeld => ?_)
 clear hK K
 refine done_ (done_of HT_.out (by kernel_rfl)) ?_
 have hnb21 := NB310_304.out
 have hnc21 := NB304_310.out
 have hnb22 := NB310_305.out
 have hnc22 := NB305_310.out
 have hnb23 := NB310_311.out
 have hnc23 := NB311_310.out
 have hcz24_0 : w16.cell? ⟨gb310, 0, none⟩ = some (.int .i8 0) := (blk_cell BK310.out 0).trans rfl
 have hcz24_1 : w16.cell? ⟨gb310, 1, none⟩ = some (.int .i8 0) := (blk_cell BK310.out 1).trans rfl
 have hfz24_0 := blk_frozen BK310.out 0
 have hfz24_1 := blk_frozen BK310.out 1
 go_upto_region 3 with (fail)
 go_cut [42] (fun v42 wc => ∃ (kq : Nat) (x42_7 : Bool), v42 = .bool x42_7 ∧ Aside0 (netlablaw02_StrengthDominance.j0 kq x42_7 t306 t307 t308 t309 = some r) ∧ Aside0 (kq ≤ k) ∧ Aside0 (wc.heap[gb304]? = some (.cells #[.int .i8 a0_0, .int .i8 a0_1] 35 (0, 0))) ∧ Aside0 (wc.heap[gb305]? = some (.cells #[.int .i8 a1_0, .int .i8 a1_1] 35 (0, 0))) ∧ Aside0 (wc.heap[gb310]? = some (.cells #[.int .i8 t306, .int .i8 t307] 26 (0, 0))) ∧ Aside0 (wc.heap[gb311]? = some (.cells #[.int .i8 t308, .int .i8 t309] 26 (0, 0))) ∧ Aside0 (Below w.heap.size w wc))
 case first =>
  have H := HC8.out
  clear HC8
  by_cases c25 : t306 ≤ 0
  ·rw [if_pos c25] at H
   have c25b0 : decide (t306 ≤ 0) = true := decide_eq_true c25
   clear c25
   (first | rw [c25b0] | (simp only [i64_w, i32_w]; rw [c25b0]) | skip)
   by_cases c26 : t307 ≥ 0
   ·rw [if_pos c26] at H
    have c26b0 : decide (0 ≤ t307) = true := decide_eq_true c26
    clear c26
    have H' := Aside0.mk H
    clear H
    have hnb27 := NB310_304.out
    have hnc27 := NB304_310.out
    have hnb28 := NB310_305.out
    have hnc28 := NB305_310.out
    have hnb29 := NB310_311.out
    have hnc29 := NB311_310.out
    have hcz30_0 : w16.cell? ⟨gb310, 0, none⟩ = some (.int .i8 0) := (blk_cell BK310.out 0).trans rfl
    have hcz30_1 : w16.cell? ⟨gb310, 1, none⟩ = some (.int .i8 0) := (blk_cell BK310.out 1).trans rfl
    have hfz30_0 := blk_frozen BK310.out 0
    have hfz30_1 := blk_frozen BK310.out 1
    go_wp2
    go_meet
    case rel => exact ⟨_, (true), (by first | rfl | (simp; done) | (simp [*]; done)), H', ⟨by first | omega | exact Nat.le_refl _⟩, ⟨by (with_reducible repeat first | apply bN | apply bD | apply bA); refine blk_far ?_ NB304_311.out _; (with_reducible repeat first | apply bN | apply bD | apply bA); refine blk_far ?_ NB304_311.out _; (with_reducible repeat first | apply bN | apply bD | apply bA); refine blk_far ?_ NB304_310.out _; (with_reducible repeat first | apply bN | apply bD | apply bA); refine blk_far ?_ NB304_310.out _; (with_reducible repeat first | apply bN | apply bD | apply bA); exact BK304.out⟩, ⟨by (with_reducible repeat first | apply bN | apply bD | apply bA); refine blk_far ?_ NB305_311.out _; (with_reducible repeat first | apply bN | apply bD | apply bA); refine blk_far ?_ NB305_311.out _; (with_reducible repeat first | apply bN | apply bD | apply bA); refine blk_far ?_ NB305_310.out _; (with_reducible repeat first | apply bN | apply bD | apply bA); refine blk_far ?_ NB305_310.out _; (with_reducible repeat first | apply bN | apply bD | apply bA); exact BK305.out⟩, ⟨by (with_reducible repeat first | apply bN | apply bD | apply bA); refine blk_far ?_ NB310_311.out _; (with_reducible repeat first | apply bN | apply bD | apply bA); refine blk_far ?_ NB310_311.out _; (with_reducible repeat first | apply bN | apply bD | apply bA); refine blk_put (cs := #[.int .i8 t306, .int .i8 0]) ?_ 1 _ rfl; (with_reducible repeat first | apply bN | apply bD | apply bA); refine blk_put (cs := #[.int .i8 0, .int .i8 0]) ?_ 0 _ rfl; (with_reducible repeat first | apply bN | apply bD | apply bA); exact BK310.out⟩, ⟨by (with_reducible repeat first | apply bN | apply bD | apply bA); refine blk_put (cs := #[.int .i8 t308, .int .i8 0]) ?_ 1 _ rfl; (with_reducible repeat first | apply bN | apply bD | apply bA); refine blk_put (cs := #[.int .i8 0, .int .i8 0]) ?_ 0 _ rfl; (with_reducible repeat first | apply bN | apply bD | apply bA); refine blk_far ?_ NB311_310.out _; (with_reducible repeat first | apply bN | apply bD | apply bA); refine blk_far ?_ NB311_310.out _; (with_reducible repeat first | apply bN | apply bD | apply bA); exact BK311.out⟩, ⟨by repeat (first | (with_reducible first | exact HB.out | apply below_alloc | apply pw_below_drewN | apply below_drew1 | refine below_set ?_ GE304.out | refine below_set ?_ GE305.out | refine below_set ?_ GE310.out | refine below_set ?_ GE311.out) | exact HB.out)⟩⟩
   ·rw [if_neg c26] at H
    have c26b0 : decide (0 ≤ t307) = false := decide_eq_false c26
    clear c26
    obtain ⟨ji31, hji31⟩ : ∃ j_ : Int, (mx t309 (IntKind.i8.wrap (-t308))) = j_ := ⟨_, rfl⟩
    replace H : (netlablaw02_StrengthDominance.j0 k (decide ((ji7) ≤ (ji31))) t306 t307 t308 t309) = some r := by first | (rw [hji31] at H; exact H) | (simp only [hji31] at H ⊢; exact H)
    have hji31_ : (if t309 < (IntKind.i8.wrap (-t308)) then (IntKind.i8.wrap (-t308)) else t309) = ji31 := hji31
    have H' := Aside0.mk H
    clear H
    have hnb32 := NB310_304.out
    have hnc32 := NB304_310.out
    have hnb33 := NB310_305.out
    have hnc33 := NB305_310.out
    have hnb34 := NB310_311.out
    have hnc34 := NB311_310.out
    have hcz35_0 : w16.cell? ⟨gb310, 0, none⟩ = some (.int .i8 0) := (blk_cell BK310.out 0).trans rfl
    have hcz35_1 : w16.cell? ⟨gb310, 1, none⟩ = some (.int .i8 0) := (blk_cell BK310.out 1).trans rfl
    have hfz35_0 := blk_frozen BK310.out 0
    have hfz35_1 := blk_frozen BK310.out 1
    have hnb36 := NB311_304.out
    have hnc36 := NB304_311.out
    have hnb37 := NB311_305.out
    have hnc37 := NB305_311.out
    have hcz38_0 : w16.cell? ⟨gb311, 0, none⟩ = some (.int .i8 0) := (blk_cell BK311.out 0).trans rfl
    have hcz38_1 : w16.cell? ⟨gb311, 1, none⟩ = some (.int .i8 0) := (blk_cell BK311.out 1).trans rfl
    have hfz38_0 := blk_frozen BK311.out 0
    have hfz38_1 := blk_frozen BK311.out 1
    go_wp2
    go_meet
    case rel => exact ⟨_, (decide ((ji7) ≤ (ji31))), (by first | rfl | (simp; done) | (simp only [← hji7, ← hji31] <;> (first | rfl | simp)) | (simp [*]; done)), H', ⟨by first | omega | exact Nat.le_refl _⟩, ⟨by (with_reducible repeat first | apply bN | apply bD | apply bA); refine blk_far ?_ NB304_311.out _; (with_reducible repeat first | apply bN | apply bD | apply bA); refine blk_far ?_ NB304_311.out _; (with_reducible repeat first | apply bN | apply bD | apply bA); refine blk_far ?_ NB304_310.out _; (with_reducible repeat first | apply bN | apply bD | apply bA); refine blk_far ?_ NB304_310.out _; (with_reducible repeat first | apply bN | apply bD | apply bA); exact BK304.out⟩, ⟨by (with_reducible repeat first | apply bN | apply bD | apply bA); refine blk_far ?_ NB305_311.out _; (with_reducible repeat first | apply bN | apply bD | apply bA); refine blk_far ?_ NB305_311.out _; (with_reducible repeat first | apply bN | apply bD | apply bA); refine blk_far ?_ NB305_310.out _; (with_reducible repeat first | apply bN | apply bD | apply bA); refine blk_far ?_ NB305_310.out _; (with_reducible repeat first | apply bN | apply bD | apply bA); exact BK305.out⟩, ⟨by (with_reducible repeat first | apply bN | apply bD | apply bA); refine blk_far ?_ NB310_311.out _; (with_reducible repeat first | apply bN | apply bD | apply bA); refine blk_far ?_ NB310_311.out _; (with_reducible repeat first | apply bN | apply bD | apply bA); refine blk_put (cs := #[.int .i8 t306, .int .i8 0]) ?_ 1 _ rfl; (with_reducible repeat first | apply bN | apply bD | apply bA); refine blk_put (cs := #[.int .i8 0, .int .i8 0]) ?_ 0 _ rfl; (with_reducible repeat first | apply bN | apply bD | apply bA); exact BK310.out⟩, ⟨by (with_reducible repeat first | apply bN | apply bD | apply bA); refine blk_put (cs := #[.int .i8 t308, .int .i8 0]) ?_ 1 _ rfl; (with_reducible repeat first | apply bN | apply bD | apply bA); refine blk_put (cs := #[.int .i8 0, .int .i8 0]) ?_ 0 _ rfl; (with_reducible repeat first | apply bN | apply bD | apply bA); refine blk_far ?_ NB311_310.out _; (with_reducible repeat first | apply bN | apply bD | apply bA); refine blk_far ?_ NB311_310.out _; (with_reducible repeat first | apply bN | apply bD | apply bA); exact BK311.out⟩, ⟨by repeat (first | (with_reducible first | exact HB.out | apply below_alloc | apply pw_below_drewN | apply below_drew1 | refine below_set ?_ GE304.out | refine below_set ?_ GE305.out | refine below_set ?_ GE310.out | refine below_set ?_ GE311.out) | exact HB.out)⟩⟩
  ·rw [if_neg c25] at H
   have c25b0 : decide (t306 ≤ 0) = false := decide_eq_false c25
   clear c25
   (first | rw [c25b0] | (simp only [i64_w, i32_w]; rw [c25b0]) | skip)
   obtain ⟨ji39, hji39⟩ : ∃ j_ : Int, (mx t309 (IntKind.i8.wrap (-t308))) = j_ := ⟨_, rfl⟩
   replace H : (netlablaw02_StrengthDominance.j0 k (decide ((ji7) ≤ (ji39))) t306 t307 t308 t309) = some r := by first | (rw [hji39] at H; exact H) | (simp only [hji39] at H ⊢; exact H)
   have hji39_ : (if t309 < (IntKind.i8.wrap (-t308)) then (IntKind.i8.wrap (-t308)) else t309) = ji39 := hji39
   have H' := Aside0.mk H
   clear H
   have hnb40 := NB310_304.out
   have hnc40 := NB304_310.out
   have hnb41 := NB310_305.out
   have hnc41 := NB305_310.out
   have hnb42 := NB310_311.out
   have hnc42 := NB311_310.out
   have hcz43_0 : w16.cell? ⟨gb310, 0, none⟩ = some (.int .i8 0) := (blk_cell BK310.out 0).trans rfl
   have hcz43_1 : w16.cell? ⟨gb310, 1, none⟩ = some (.int .i8 0) := (blk_cell BK310.out 1).trans rfl
   have hfz43_0 := blk_frozen BK310.out 0
   have hfz43_1 := blk_frozen BK310.out 1
   have hnb44 := NB311_304.out
   have hnc44 := NB304_311.out
   have hnb45 := NB311_305.out
   have hnc45 := NB305_311.out
   have hcz46_0 : w16.cell? ⟨gb311, 0, none⟩ = some (.int .i8 0) := (blk_cell BK311.out 0).trans rfl
   have hcz46_1 : w16.cell? ⟨gb311, 1, none⟩ = some (.int .i8 0) := (blk_cell BK311.out 1).trans rfl
   have hfz46_0 := blk_frozen BK311.out 0
   have hfz46_1 := blk_frozen BK311.out 1
   go_wp2
   go_meet
   case rel => exact ⟨_, (decide ((ji7) ≤ (ji39))), (by first | rfl | (simp; done) | (simp only [← hji7, ← hji39] <;> (first | rfl | simp)) | (simp [*]; done)), H', ⟨by first | omega | exact Nat.le_refl _⟩, ⟨by (with_reducible repeat first | apply bN | apply bD | apply bA); refine blk_far ?_ NB304_311.out _; (with_reducible repeat first | apply bN | apply bD | apply bA); refine blk_far ?_ NB304_311.out _; (with_reducible repeat first | apply bN | apply bD | apply bA); refine blk_far ?_ NB304_310.out _; (with_reducible repeat first | apply bN | apply bD | apply bA); refine blk_far ?_ NB304_310.out _; (with_reducible repeat first | apply bN | apply bD | apply bA); exact BK304.out⟩, ⟨by (with_reducible repeat first | apply bN | apply bD | apply bA); refine blk_far ?_ NB305_311.out _; (with_reducible repeat first | apply bN | apply bD | apply bA); refine blk_far ?_ NB305_311.out _; (with_reducible repeat first | apply bN | apply bD | apply bA); refine blk_far ?_ NB305_310.out _; (with_reducible repeat first | apply bN | apply bD | apply bA); refine blk_far ?_ NB305_310.out _; (with_reducible repeat first | apply bN | apply bD | apply bA); exact BK305.out⟩, ⟨by (with_reducible repeat first | apply bN | apply bD | apply bA); refine blk_far ?_ NB310_311.out _; (with_reducible repeat first | apply bN | apply bD | apply bA); refine blk_far ?_ NB310_311.out _; (with_reducible repeat first | apply bN | apply bD | apply bA); refine blk_put (cs := #[.int .i8 t306, .int .i8 0]) ?_ 1 _ rfl; (with_reducible repeat first | apply bN | apply bD | apply bA); refine blk_put (cs := #[.int .i8 0, .int .i8 0]) ?_ 0 _ rfl; (with_reducible repeat first | apply bN | apply bD | apply bA); exact BK310.out⟩, ⟨by (with_reducible repeat first | apply bN | apply bD | apply bA); refine blk_put (cs := #[.int .i8 t308, .int .i8 0]) ?_ 1 _ rfl; (with_reducible repeat first | apply bN | apply bD | apply bA); refine blk_put (cs := #[.int .i8 0, .int .i8 0]) ?_ 0 _ rfl; (with_reducible repeat first | apply bN | apply bD | apply bA); refine blk_far ?_ NB311_310.out _; (with_reducible repeat first | apply bN | apply bD | apply bA); refine blk_far ?_ NB311_310.out _; (with_reducible repeat first | apply bN | apply bD | apply bA); exact BK311.out⟩, ⟨by repeat (first | (with_reducible first | exact HB.out | apply below_alloc | apply pw_below_drewN | apply below_drew1 | refine below_set ?_ GE304.out | refine below_set ?_ GE305.out | refine below_set ?_ GE310.out | refine below_set ?_ GE311.out) | exact HB.out)⟩⟩
 case rest =>
  clear HC8
  try clear c2
  try clear p2
  try clear c3
  try clear c4
  try clear c21
  try clear c22
  try clear c23
  try clear c25
  try clear c25b0
  try clear c26
  try clear c26b0
  try clear c27
  try clear c28
  try clear c29
  try clear c32
  try clear c33
  try clear c34
  try clear c36
  try clear c37
  try clear c40
  try clear c41
  try clear c42
  try clear c44
  try clear c45
  try clear hcz24_0
  try clear hcz24_1
  try clear hcz30_0
  try clear hcz30_1
  try clear hcz35_0
  try clear hcz35_1
  try clear hcz38_0
  try clear hcz38_1
  try clear hcz43_0
  try clear hcz43_1
  try clear hcz46_0
  try clear hcz46_1
  try clear hfz24_0
  try clear hfz24_1
  try clear hfz30_0
  try clear hfz30_1
  try clear hfz35_0
  try clear hfz35_1
  try clear hfz38_0
  try clear hfz38_1
  try clear hfz43_0
  try clear hfz43_1
  try clear hfz46_0
  try clear hfz46_1
  obtain ⟨kq, x42_7, rfl, HA, HJ7, BK304, BK305, BK310, BK311, HB⟩ := hcut
  cases kq with
  | zero => exact absurd HA.out (by simp [netlablaw02_StrengthDominance.j0])
  | succ kj7 =>
   have H := HA.out
   clear HA
   simp only [netlablaw02_StrengthDominance.j0] at H
   by_cases c47 : x42_7 = true
   ·subst c47
    have H1 : ((netlablaw02_awake.f kj7).bind fun t312 => (if t312 = true then (some true) else (none))) = some r := by rw [if_pos rfl] at H; exact H
    clear H
    have H := H1
    clear H1
    replace H := Option.bind_eq_some_iff.mp H
    obtain ⟨t312, A480, H⟩ := H
    replace H : (if t312 = true then (some true) else (none)) = some r := H
    have A48 := Aside0.mk A480
    clear A480
    by_cases c49 : t312 = true
    ·subst c49
     have H1 : (some true) = some r := by rw [if_pos rfl] at H; exact H
     clear H
     have H := H1
     clear H1
     obtain rfl := Option.some.inj H
     go_wp2_with (first | ((with_reducible refine gate_callee (f := 17) rfl ?_); refine goesL_ (some 43) rfl rfl Tryd.func17 (by kernel_rfl) rfl #[] rfl (by (try simp only [List.map_toArray, List.map_cons, List.map_nil]); first | done | rfl | (simp only [List.length_drop, List.length_take]; rfl)) ?_; (with_reducible refine (netlablaw02_awake.calls kj7  true _ (Glob.below HG.out (by repeat (first | (with_reducible first | exact HB.out | apply below_alloc | apply pw_below_drewN | apply below_drew1 | refine below_set ?_ GE304.out | refine below_set ?_ GE305.out | refine below_set ?_ GE310.out | refine below_set ?_ GE311.out) | exact HB.out))) A48.out).mono ?_); rintro e w50 ⟨rfl, hb⟩; refine ⟨_, rfl, ?_⟩; have n0_ := Aside0.mk (blk_below (g := gb304) (o := .cells #[.int .i8 a0_0, .int .i8 a0_1] 35 (0, 0)) (by (with_reducible repeat first | apply bN | apply bD | apply bA); exact BK304.out) hb); have n1_ := Aside0.mk (blk_below (g := gb305) (o := .cells #[.int .i8 a1_0, .int .i8 a1_1] 35 (0, 0)) (by (with_reducible repeat first | apply bN | apply bD | apply bA); exact BK305.out) hb); have n2_ := Aside0.mk (blk_below (g := gb310) (o := .cells #[.int .i8 t306, .int .i8 t307] 26 (0, 0)) (by (with_reducible repeat first | apply bN | apply bD | apply bA); exact BK310.out) hb); have n3_ := Aside0.mk (blk_below (g := gb311) (o := .cells #[.int .i8 t308, .int .i8 t309] 26 (0, 0)) (by (with_reducible repeat first | apply bN | apply bD | apply bA); exact BK311.out) hb); have n4_ := Aside0.mk (below_step (by repeat (first | (with_reducible first | exact HB.out | apply below_alloc | apply pw_below_drewN | apply below_drew1 | refine below_set ?_ GE304.out | refine below_set ?_ GE305.out | refine below_set ?_ GE310.out | refine below_set ?_ GE311.out) | exact HB.out)) hb); clear BK304; clear BK305; clear BK310; clear BK311; clear HB; have BK304 := n0_; have BK305 := n1_; have BK310 := n2_; have BK311 := n3_; have HB := n4_; clear n0_ n1_ n2_ n3_ n4_; (try clear hb); (try clear hb2); (try clear hk); (try clear hi)))
     go_ret
     exact ⟨by first | rfl | (simp [errW_none, errW_some] <;> rfl) | (simp only [← hji5, ← hji6, ← hji7]; first | rfl | (simp [errW_none, errW_some] <;> rfl)) | (simp [*, errW_none, errW_some] <;> rfl), by repeat (first | (with_reducible first | exact HB.out | apply below_alloc | apply pw_below_drewN | apply below_drew1 | refine below_set ?_ GE304.out | refine below_set ?_ GE305.out | refine below_set ?_ GE310.out | refine below_set ?_ GE311.out) | exact HB.out)⟩
    ·replace c49 := Bool.eq_false_iff.mpr c49
     subst c49
     have H1 : (none) = some r := by rw [if_neg (show ¬ (false = true) by decide)] at H; exact H
     clear H
     have H := H1
     clear H1
     exact absurd H (by simp)
   ·replace c47 := Bool.eq_false_iff.mpr c47
    subst c47
    have H1 : ((strength_Combine.f kj7 (([(⟨t306, t307⟩ : S26), (⟨t308, t309⟩ : S26)] : List (S26)))).bind fun bt316 => (if (bt316.1 == t306 && (bt316.2 == t307)) = true then ((strength_Combine.f kj7 (([(⟨t308, t309⟩ : S26), (⟨t306, t307⟩ : S26)] : List (S26)))).bind fun bt321 => (if (bt321.1 == t306 && (bt321.2 == t307)) = true then ((netlablaw02_awake.f kj7).bind fun t323 => (if t323 = true then (some true) else (none))) else (none))) else (none))) = some r := by rw [if_neg (show ¬ (false = true) by decide)] at H; exact H
    clear H
    have H := H1
    clear H1
    obtain ⟨y313, hy313⟩ : ∃ y_ : List (S26), y_ = (([(⟨t306, t307⟩ : S26), (⟨t308, t309⟩ : S26)] : List (S26))) := ⟨_, rfl⟩
    replace H : ((strength_Combine.f kj7 y313).bind fun bt316 => (if (bt316.1 == t306 && (bt316.2 == t307)) = true then ((strength_Combine.f kj7 (([(⟨t308, t309⟩ : S26), (⟨t306, t307⟩ : S26)] : List (S26)))).bind fun bt321 => (if (bt321.1 == t306 && (bt321.2 == t307)) = true then ((netlablaw02_awake.f kj7).bind fun t323 => (if t323 = true then (some true) else (none))) else (none))) else (none))) = some r := by first | (rw [hy313]; with_reducible exact H) | (have H2_ := (Option.bind_some _ _).symm.trans H; rw [hy313]; with_reducible exact H2_) | (have H2_ := (Option.bind_some _ _).symm.trans H; with_reducible exact H2_) | with_reducible exact H | (rw [hy313]; exact H) | exact H
    have Ny313 := Aside0.mk hy313
    clear hy313
    replace H := Option.bind_eq_some_iff.mp H
    obtain ⟨⟨t316, t317⟩, A510, H⟩ := H
    replace H : (if (t316 == t306 && (t317 == t307)) = true then ((strength_Combine.f kj7 (([(⟨t308, t309⟩ : S26), (⟨t306, t307⟩ : S26)] : List (S26)))).bind fun bt321 => (if (bt321.1 == t306 && (bt321.2 == t307)) = true then ((netlablaw02_awake.f kj7).bind fun t323 => (if t323 = true then (some true) else (none))) else (none))) else (none)) = some r := H
    have A51 := Aside0.mk A510
    clear A510
    by_cases c52 : (t316 == t306 && (t317 == t307)) = true
    ·rw [if_pos c52] at H
     have c52b0 : (t316 == t306 && (t317 == t307)) = true := c52
     (try (have c52b1 : decide (t316 = t306 && (t317 == t307)) = true := by simpa using c52))
     (try (have c52b2 : (t316 == t306 && (t317 == t307)) = true := by simpa using c52))
     clear c52
     obtain ⟨y318, hy318⟩ : ∃ y_ : List (S26), y_ = (([(⟨t308, t309⟩ : S26), (⟨t306, t307⟩ : S26)] : List (S26))) := ⟨_, rfl⟩
     replace H : ((strength_Combine.f kj7 y318).bind fun bt321 => (if (bt321.1 == t306 && (bt321.2 == t307)) = true then ((netlablaw02_awake.f kj7).bind fun t323 => (if t323 = true then (some true) else (none))) else (none))) = some r := by first | (rw [hy318]; with_reducible exact H) | (have H2_ := (Option.bind_some _ _).symm.trans H; rw [hy318]; with_reducible exact H2_) | (have H2_ := (Option.bind_some _ _).symm.trans H; with_reducible exact H2_) | with_reducible exact H | (rw [hy318]; exact H) | exact H
     have Ny318 := Aside0.mk hy318
     clear hy318
     replace H := Option.bind_eq_some_iff.mp H
     obtain ⟨⟨t321, t322⟩, A530, H⟩ := H
     replace H : (if (t321 == t306 && (t322 == t307)) = true then ((netlablaw02_awake.f kj7).bind fun t323 => (if t323 = true then (some true) else (none))) else (none)) = some r := H
     have A53 := Aside0.mk A530
     clear A530
     by_cases c54 : (t321 == t306 && (t322 == t307)) = true
     ·rw [if_pos c54] at H
      have c54b0 : (t321 == t306 && (t322 == t307)) = true := c54
      (try (have c54b1 : decide (t321 = t306 && (t322 == t307)) = true := by simpa using c54))
      (try (have c54b2 : (t321 == t306 && (t322 == t307)) = true := by simpa using c54))
      clear c54
      replace H := Option.bind_eq_some_iff.mp H
      obtain ⟨t323, A550, H⟩ := H
      replace H : (if t323 = true then (some true) else (none)) = some r := H
      have A55 := Aside0.mk A550
      clear A550
      by_cases c56 : t323 = true
      ·subst c56
       have H1 : (some true) = some r := by rw [if_pos rfl] at H; exact H
       clear H
       have H := H1
       clear H1
       obtain rfl := Option.some.inj H
       try go_wp2
       have n0_ := Aside0.mk (blk_drew BK304.out)
       have n1_ := Aside0.mk (blk_drew BK305.out)
       have n2_ := Aside0.mk (blk_drew BK310.out)
       have n3_ := Aside0.mk (blk_drew BK311.out)
       have n4_ := Aside0.mk (below_drew1 HB.out)
       clear BK304
       clear BK305
       clear BK310
       clear BK311
       clear HB
       have BK304 := n0_
       have BK305 := n1_
       have BK310 := n2_
       have BK311 := n3_
       have HB := n4_
       clear n0_ n1_ n2_ n3_ n4_
       refine start_ (n := 18) (S := fun w' => w'.cell? ⟨gb310, 0, none⟩ = some (.int .i8 t306) ∧ w'.cell? ⟨gb310, 1, none⟩ = some (.int .i8 t307) ∧ w'.cell? ⟨gb311, 0, none⟩ = some (.int .i8 t308) ∧ w'.cell? ⟨gb311, 1, none⟩ = some (.int .i8 t309)) (ds := []) #[false, false, false, false, false, false, false, false, false, false, false, false, false, false, false, false, false, false] (by kernel_rfl) rfl rfl ⟨(blk_cell BK310.out 0).trans rfl, (blk_cell BK310.out 1).trans rfl, (blk_cell BK311.out 0).trans rfl, (blk_cell BK311.out 1).trans rfl⟩ (fun hHeld => ?_); refine with_tabW netlablaw02_StrengthDominance.tab5 netlablaw02_StrengthDominance.bits5 (fun HT_ HW_ => ?_)
       generalize wc.drew = w57 at BK304 BK305 BK310 BK311 HB hHeld ⊢
       refine take_ (i := 0) (N := some 44) (v := ?_) (a' := ?_) #[true, false, false, false, false, false, false, false, false, false, false, false, false, false, false, false, false, false] rfl rfl (take_ofW HT_.out HW_.out (by kernel_rfl)) (fun _ _ _ h => h) (Or.inl ⟨by rfl, ?_⟩) hHeld ?_ ?_
       rotate_left
       ·rintro w' ⟨s0, s1, s2, s3⟩
        go_simp
        with_reducible rfl
       rotate_left
       ·simp only [Act.put, List.setIfInBounds_toArray, List.set_cons_zero, List.set_cons_succ, i64_w, i32_w]
        rfl
       refine take_ (i := 1) (N := some 45) (v := ?_) (a' := ?_) #[true, true, false, false, false, false, false, false, false, false, false, false, false, false, false, false, false, false] rfl rfl (take_ofW HT_.out HW_.out (by kernel_rfl)) (fun _ _ _ h => h) (Or.inl ⟨by rfl, ?_⟩) hHeld ?_ ?_
       rotate_left
       ·rintro w' ⟨s0, s1, s2, s3⟩
        go_simp
        with_reducible rfl
       rotate_left
       ·simp only [Act.put, List.setIfInBounds_toArray, List.set_cons_zero, List.set_cons_succ, i64_w, i32_w]
        rfl
       refine take_ (i := 4) (N := some 48) (v := ?_) (a' := ?_) #[true, true, false, false, true, false, false, false, false, false, false, false, false, false, false, false, false, false] rfl rfl (take_ofW HT_.out HW_.out (by kernel_rfl)) (fun _ _ _ h => h) (Or.inl ⟨by rfl, ?_⟩) hHeld ?_ ?_
       rotate_left
       ·rintro w' ⟨s0, s1, s2, s3⟩
        go_simp
        with_reducible rfl
       rotate_left
       ·simp only [Act.put, List.setIfInBounds_toArray, List.set_cons_zero, List.set_cons_succ, i64_w, i32_w]
        rfl
       refine one_ (i := 2) (N := some 46) #[true, true, true, false, true, false, false, false, false, false, false, false, false, false, false, false, false, false] rfl rfl (one_of HT_.out (by kernel_rfl)) (by decide) (fun K hK => ?_)
       refine Kd.R_lit_step k26 _ 26 ?hg (N := 46) ?hd (xs := ([(⟨t306, t307⟩ : S26), (⟨t308, t309⟩ : S26)] : List (S26))) (inner := [.int .i8 t306, .int .i8 t307, .int .i8 t308, .int .i8 t309]) (ok := fun _ => True) (okp := fun _ => True) ?hr ?hp (fun _ hk => hk) trivial (Below.refl _ _) (Nat.le_refl _) (by simp) ?_; (case hd => rfl); (case hg => rfl); (case hr => first | (go_simp; done) | (go_simp; rfl)); (case hp => exact (Reps.c2 (show Kd.M k26 _ _ _ (⟨t306, t307⟩ : S26) [.int .i8 t306, .int .i8 t307] from (k26_mkM _ _ _ (⟨t306, t307⟩ : S26) )) (Reps.c2 (show Kd.M k26 _ _ _ (⟨t308, t309⟩ : S26) [.int .i8 t308, .int .i8 t309] from (k26_mkM _ _ _ (⟨t308, t309⟩ : S26) )) (Reps.none _ _))))
       intro v314 w58 ho59 hb hg_ hnew_
       clear hg_ hnew_
       (first | rw [← Ny313.out] at ho59 | (simp only [Int.reduceToNat] at ho59; rw [← Ny313.out] at ho59))
       have n0_ := Aside0.mk (Kd.R_lower (Kd.R_newB (Kd.R_newB ho59 (g := gb310) (o := .cells #[.int .i8 t306, .int .i8 t307] 26 (0, 0)) (by (with_reducible repeat first | apply bN | apply bD | apply bA); exact BK310.out)) (g := gb311) (o := .cells #[.int .i8 t308, .int .i8 t309] 26 (0, 0)) (by (with_reducible repeat first | apply bN | apply bD | apply bA); exact BK311.out)) (below_size (by repeat (first | (with_reducible first | exact HB.out | apply below_alloc | apply pw_below_drewN | apply below_drew1 | refine below_set ?_ GE304.out | refine below_set ?_ GE305.out | refine below_set ?_ GE310.out | refine below_set ?_ GE311.out) | exact HB.out))))
       have n1_ := Aside0.mk (blk_below (g := gb304) (o := .cells #[.int .i8 a0_0, .int .i8 a0_1] 35 (0, 0)) (by (with_reducible repeat first | apply bN | apply bD | apply bA); exact BK304.out) hb)
       have n2_ := Aside0.mk (blk_below (g := gb305) (o := .cells #[.int .i8 a1_0, .int .i8 a1_1] 35 (0, 0)) (by (with_reducible repeat first | apply bN | apply bD | apply bA); exact BK305.out) hb)
       have n3_ := Aside0.mk (blk_below (g := gb310) (o := .cells #[.int .i8 t306, .int .i8 t307] 26 (0, 0)) (by (with_reducible repeat first | apply bN | apply bD | apply bA); exact BK310.out) hb)
       have n4_ := Aside0.mk (blk_below (g := gb311) (o := .cells #[.int .i8 t308, .int .i8 t309] 26 (0, 0)) (by (with_reducible repeat first | apply bN | apply bD | apply bA); exact BK311.out) hb)
       have n5_ := Aside0.mk (below_step (by repeat (first | (with_reducible first | exact HB.out | apply below_alloc | apply pw_below_drewN | apply below_drew1 | refine below_set ?_ GE304.out | refine below_set ?_ GE305.out | refine below_set ?_ GE310.out | refine below_set ?_ GE311.out) | exact HB.out)) hb)
       clear BK304
       clear BK305
       clear BK310
       clear BK311
       clear HB
       have HO315 := n0_
       have BK304 := n1_
       have BK305 := n2_
       have BK310 := n3_
       have BK311 := n4_
       have HB := n5_
       clear n0_ n1_ n2_ n3_ n4_ n5_
       clear hb ho59
       obtain ⟨Ao60, co60, eo60⟩ := Kd.R_slice HO315.out
       (first | subst eo60 | (injection eo60 with f1_ f2_ f3_; have f4_ := f1_.symm; have f5_ := f3_.symm; clear f1_ f2_ f3_; subst f4_; subst f5_))
       refine hK.out _ _ ⟨(blk_cell BK310.out 0).trans rfl, (blk_cell BK310.out 1).trans rfl, (blk_cell BK311.out 0).trans rfl, (blk_cell BK311.out 1).trans rfl⟩ (fun hHeld => ?_)
       clear hK K
       refine norm_ (a' := ?_) ?_ ?_
       rotate_left
       ·show Act.put _ (some 46) _ = _
        simp only [Act.put, List.setIfInBounds_toArray, List.set_cons_zero, List.set_cons_succ, i64_w, i32_w]
        rfl
       refine one_ (i := 3) (N := some 47) #[true, true, true, true, true, false, false, false, false, false, false, false, false, false, false, false, false, false] rfl rfl (one_of HT_.out (by kernel_rfl)) (by decide) (fun K hK => ?_)
       refine goes_ Tryd.func20 (by kernel_rfl) rfl #[.slice Ao60 y313.length co60] (by rfl) rfl rfl (by (try simp only [List.map_toArray, List.map_cons, List.map_nil]); first | done | rfl | (simp only [List.length_drop, List.length_take]; rfl)) ?_
       with_reducible refine (strength_Combine.calls kj7 _ _ y313 t316 t317 _ ?side1 ?side2 A51.out).mono ?_
       (case side1 => repeat (first | exact (Kd.R_reads' HO315.out).2.2 | (with_reducible refine Kd.C_alloc ?_ _) | (with_reducible refine Kd.C_drewN ?_ _) | (with_reducible refine Kd.C_drew ?_)))
       (case side2 => exact (Kd.R_reads' HO315.out).2.1)
       rintro e w61 ⟨rfl, hb⟩
       refine ⟨_, rfl, ?_⟩
       have n0_ := Aside0.mk (Kd.R_below (by (with_reducible repeat (first | apply Kd.R_alloc | apply Kd.R_drewN | apply Kd.R_drew)); exact HO315.out) hb)
       have n1_ := Aside0.mk (blk_below (g := gb304) (o := .cells #[.int .i8 a0_0, .int .i8 a0_1] 35 (0, 0)) (by (with_reducible repeat first | apply bN | apply bD | apply bA); exact BK304.out) hb)
       have n2_ := Aside0.mk (blk_below (g := gb305) (o := .cells #[.int .i8 a1_0, .int .i8 a1_1] 35 (0, 0)) (by (with_reducible repeat first | apply bN | apply bD | apply bA); exact BK305.out) hb)
       have n3_ := Aside0.mk (blk_below (g := gb310) (o := .cells #[.int .i8 t306, .int .i8 t307] 26 (0, 0)) (by (with_reducible repeat first | apply bN | apply bD | apply bA); exact BK310.out) hb)
       have n4_ := Aside0.mk (blk_below (g := gb311) (o := .cells #[.int .i8 t308, .int .i8 t309] 26 (0, 0)) (by (with_reducible repeat first | apply bN | apply bD | apply bA); exact BK311.out) hb)
       have n5_ := Aside0.mk (below_step (by repeat (first | (with_reducible first | exact HB.out | apply below_alloc | apply pw_below_drewN | apply below_drew1 | refine below_set ?_ GE304.out | refine below_set ?_ GE305.out | refine below_set ?_ GE310.out | refine below_set ?_ GE311.out) | exact HB.out)) hb)
       clear HO315
       clear BK304
       clear BK305
       clear BK310
       clear BK311
       clear HB
       have HO315 := n0_
       have BK304 := n1_
       have BK305 := n2_
       have BK310 := n3_
       have BK311 := n4_
       have HB := n5_
       clear n0_ n1_ n2_ n3_ n4_ n5_
       (try clear hb)
       (try clear hb2)
       (try clear hk)
       (try clear hi)
       refine hK.out _ _ ⟨(blk_cell BK310.out 0).trans rfl, (blk_cell BK310.out 1).trans rfl, (blk_cell BK311.out 0).trans rfl, (blk_cell BK311.out 1).trans rfl⟩ (fun hHeld => ?_)
       clear hK K
       refine norm_ (a' := ?_) ?_ ?_
       rotate_left
       ·show Act.put _ (some 47) _ = _
        simp only [Act.put, List.setIfInBounds_toArray, List.set_cons_zero, List.set_cons_succ, i64_w, i32_w]
        rfl
       refine pure_ (i := 5) (N := some 49) (v := ?_) (a' := ?_) #[true, true, true, true, true, true, false, false, false, false, false, false, false, false, false, false, false, false] rfl rfl (any_of HT_.out (by kernel_rfl)) (fun _ _ _ h => h) (Or.inl ⟨by rfl, ?_⟩) ?_ ?_
       rotate_left
       ·intro w'
        go_simp
        with_reducible rfl
       rotate_left
       ·simp only [Act.put, List.setIfInBounds_toArray, List.set_cons_zero, List.set_cons_succ, i64_w, i32_w]
        rfl
       refine pure_ (i := 6) (N := some 50) (v := ?_) (a' := ?_) #[true, true, true, true, true, true, true, false, false, false, false, false, false, false, false, false, false, false] rfl rfl (any_of HT_.out (by kernel_rfl)) (fun _ _ _ h => h) (Or.inl ⟨by rfl, ?_⟩) ?_ ?_
       rotate_left
       ·intro w'
        go_simp
        with_reducible rfl
       rotate_left
       ·simp only [Act.put, List.setIfInBounds_toArray, List.set_cons_zero, List.set_cons_succ, i64_w, i32_w]
        rfl
       refine take_ (i := 7) (N := some 51) (v := ?_) (a' := ?_) #[true, true, true, true, true, true, true, true, false, false, false, false, false, false, false, false, false, false] rfl rfl (take_ofW HT_.out HW_.out (by kernel_rfl)) (fun _ _ _ h => h) (Or.inl ⟨by rfl, ?_⟩) hHeld ?_ ?_
       rotate_left
       ·rintro w' ⟨s0, s1, s2, s3⟩
        go_simp
        with_reducible rfl
       rotate_left
       ·simp only [Act.put, List.setIfInBounds_toArray, List.set_cons_zero, List.set_cons_succ, i64_w, i32_w]
        rfl
       refine take_ (i := 8) (N := some 52) (v := ?_) (a' := ?_) #[true, true, true, true, true, true, true, true, true, false, false, false, false, false, false, false, false, false] rfl rfl (take_ofW HT_.out HW_.out (by kernel_rfl)) (fun _ _ _ h => h) (Or.inl ⟨by rfl, ?_⟩) hHeld ?_ ?_
       rotate_left
       ·rintro w' ⟨s0, s1, s2, s3⟩
        go_simp
        with_reducible rfl
       rotate_left
       ·simp only [Act.put, List.setIfInBounds_toArray, List.set_cons_zero, List.set_cons_succ, i64_w, i32_w]
        rfl
       refine take_ (i := 11) (N := some 55) (v := ?_) (a' := ?_) #[true, true, true, true, true, true, true, true, true, false, false, true, false, false, false, false, false, false] rfl rfl (take_ofW HT_.out HW_.out (by kernel_rfl)) (fun _ _ _ h => h) (Or.inl ⟨by rfl, ?_⟩) hHeld ?_ ?_
       rotate_left
       ·rintro w' ⟨s0, s1, s2, s3⟩
        go_simp
        with_reducible rfl
       rotate_left
       ·simp only [Act.put, List.setIfInBounds_toArray, List.set_cons_zero, List.set_cons_succ, i64_w, i32_w]
        rfl
       refine one_ (i := 9) (N := some 53) #[true, true, true, true, true, true, true, true, true, true, false, true, false, false, false, false, false, false] rfl rfl (one_of HT_.out (by kernel_rfl)) (by decide) (fun K hK => ?_)
       refine Kd.R_lit_step k26 _ 26 ?hg (N := 53) ?hd (xs := ([(⟨t308, t309⟩ : S26), (⟨t306, t307⟩ : S26)] : List (S26))) (inner := [.int .i8 t308, .int .i8 t309, .int .i8 t306, .int .i8 t307]) (ok := fun _ => True) (okp := fun _ => True) ?hr ?hp (fun _ hk => hk) trivial (Below.refl _ _) (Nat.le_refl _) (by simp) ?_; (case hd => rfl); (case hg => rfl); (case hr => first | (go_simp; done) | (go_simp; rfl)); (case hp => exact (Reps.c2 (show Kd.M k26 _ _ _ (⟨t308, t309⟩ : S26) [.int .i8 t308, .int .i8 t309] from (k26_mkM _ _ _ (⟨t308, t309⟩ : S26) )) (Reps.c2 (show Kd.M k26 _ _ _ (⟨t306, t307⟩ : S26) [.int .i8 t306, .int .i8 t307] from (k26_mkM _ _ _ (⟨t306, t307⟩ : S26) )) (Reps.none _ _))))
       intro v319 w62 ho63 hb hg_ hnew_
       clear hg_ hnew_
       (first | rw [← Ny318.out] at ho63 | (simp only [Int.reduceToNat] at ho63; rw [← Ny318.out] at ho63))
       have n0_ := Aside0.mk (Kd.R_elder' (by (with_reducible repeat (first | apply Kd.R_alloc | apply Kd.R_drewN | apply Kd.R_drew)); exact HO315.out) (Kd.R_base ho63) hb)
       have n1_ := Aside0.mk (Kd.R_lower (Kd.R_newB (Kd.R_newB (Kd.R_new' ho63 (Kd.R_lt (by (with_reducible repeat (first | apply Kd.R_alloc | apply Kd.R_drewN | apply Kd.R_drew)); exact HO315.out))) (g := gb310) (o := .cells #[.int .i8 t306, .int .i8 t307] 26 (0, 0)) (by (with_reducible repeat first | apply bN | apply bD | apply bA); exact BK310.out)) (g := gb311) (o := .cells #[.int .i8 t308, .int .i8 t309] 26 (0, 0)) (by (with_reducible repeat first | apply bN | apply bD | apply bA); exact BK311.out)) (below_size (by repeat (first | (with_reducible first | exact HB.out | apply below_alloc | apply pw_below_drewN | apply below_drew1 | refine below_set ?_ GE304.out | refine below_set ?_ GE305.out | refine below_set ?_ GE310.out | refine below_set ?_ GE311.out) | exact HB.out))))
       have n2_ := Aside0.mk (blk_below (g := gb304) (o := .cells #[.int .i8 a0_0, .int .i8 a0_1] 35 (0, 0)) (by (with_reducible repeat first | apply bN | apply bD | apply bA); exact BK304.out) hb)
       have n3_ := Aside0.mk (blk_below (g := gb305) (o := .cells #[.int .i8 a1_0, .int .i8 a1_1] 35 (0, 0)) (by (with_reducible repeat first | apply bN | apply bD | apply bA); exact BK305.out) hb)
       have n4_ := Aside0.mk (blk_below (g := gb310) (o := .cells #[.int .i8 t306, .int .i8 t307] 26 (0, 0)) (by (with_reducible repeat first | apply bN | apply bD | apply bA); exact BK310.out) hb)
       have n5_ := Aside0.mk (blk_below (g := gb311) (o := .cells #[.int .i8 t308, .int .i8 t309] 26 (0, 0)) (by (with_reducible repeat first | apply bN | apply bD | apply bA); exact BK311.out) hb)
       have n6_ := Aside0.mk (below_step (by repeat (first | (with_reducible first | exact HB.out | apply below_alloc | apply pw_below_drewN | apply below_drew1 | refine below_set ?_ GE304.out | refine below_set ?_ GE305.out | refine below_set ?_ GE310.out | refine below_set ?_ GE311.out) | exact HB.out)) hb)
       clear HO315
       clear BK304
       clear BK305
       clear BK310
       clear BK311
       clear HB
       have HO315 := n0_
       have HO320 := n1_
       have BK304 := n2_
       have BK305 := n3_
       have BK310 := n4_
       have BK311 := n5_
       have HB := n6_
       clear n0_ n1_ n2_ n3_ n4_ n5_ n6_
       clear hb ho63
       obtain ⟨Ao64, co64, eo64⟩ := Kd.R_slice HO320.out
       (first | subst eo64 | (injection eo64 with f1_ f2_ f3_; have f4_ := f1_.symm; have f5_ := f3_.symm; clear f1_ f2_ f3_; subst f4_; subst f5_))
       refine hK.out _ _ ⟨(blk_cell BK310.out 0).trans rfl, (blk_cell BK310.out 1).trans rfl, (blk_cell BK311.out 0).trans rfl, (blk_cell BK311.out 1).trans rfl⟩ (fun hHeld => ?_)
       clear hK K
       refine norm_ (a' := ?_) ?_ ?_
       rotate_left
       ·show Act.put _ (some 53) _ = _
        simp only [Act.put, List.setIfInBounds_toArray, List.set_cons_zero, List.set_cons_succ, i64_w, i32_w]
        rfl
       refine one_ (i := 10) (N := some 54) #[true, true, true, true, true, true, true, true, true, true, true, true, false, false, false, false, false, false] rfl rfl (one_of HT_.out (by kernel_rfl)) (by decide) (fun K hK => ?_)
       refine goes_ Tryd.func20 (by kernel_rfl) rfl #[.slice Ao64 y318.length co64] (by rfl) rfl rfl (by (try simp only [List.map_toArray, List.map_cons, List.map_nil]); first | done | rfl | (simp only [List.length_drop, List.length_take]; rfl)) ?_
       with_reducible refine (strength_Combine.calls kj7 _ _ y318 t321 t322 _ ?side1 ?side2 A53.out).mono ?_
       (case side1 => repeat (first | exact (Kd.R_reads' HO320.out).2.2 | (with_reducible refine Kd.C_alloc ?_ _) | (with_reducible refine Kd.C_drewN ?_ _) | (with_reducible refine Kd.C_drew ?_)))
       (case side2 => exact (Kd.R_reads' HO320.out).2.1)
       rintro e w65 ⟨rfl, hb⟩
       refine ⟨_, rfl, ?_⟩
       have n0_ := Aside0.mk (Kd.R_below (by (with_reducible repeat (first | apply Kd.R_alloc | apply Kd.R_drewN | apply Kd.R_drew)); exact HO315.out) hb)
       have n1_ := Aside0.mk (Kd.R_below (by (with_reducible repeat (first | apply Kd.R_alloc | apply Kd.R_drewN | apply Kd.R_drew)); exact HO320.out) hb)
       have n2_ := Aside0.mk (blk_below (g := gb304) (o := .cells #[.int .i8 a0_0, .int .i8 a0_1] 35 (0, 0)) (by (with_reducible repeat first | apply bN | apply bD | apply bA); exact BK304.out) hb)
       have n3_ := Aside0.mk (blk_below (g := gb305) (o := .cells #[.int .i8 a1_0, .int .i8 a1_1] 35 (0, 0)) (by (with_reducible repeat first | apply bN | apply bD | apply bA); exact BK305.out) hb)
       have n4_ := Aside0.mk (blk_below (g := gb310) (o := .cells #[.int .i8 t306, .int .i8 t307] 26 (0, 0)) (by (with_reducible repeat first | apply bN | apply bD | apply bA); exact BK310.out) hb)
       have n5_ := Aside0.mk (blk_below (g := gb311) (o := .cells #[.int .i8 t308, .int .i8 t309] 26 (0, 0)) (by (with_reducible repeat first | apply bN | apply bD | apply bA); exact BK311.out) hb)
       have n6_ := Aside0.mk (below_step (by repeat (first | (with_reducible first | exact HB.out | apply below_alloc | apply pw_below_drewN | apply below_drew1 | refine below_set ?_ GE304.out | refine below_set ?_ GE305.out | refine below_set ?_ GE310.out | refine below_set ?_ GE311.out) | exact HB.out)) hb)
       clear HO315
       clear HO320
       clear BK304
       clear BK305
       clear BK310
       clear BK311
       clear HB
       have HO315 := n0_
       have HO320 := n1_
       have BK304 := n2_
       have BK305 := n3_
       have BK310 := n4_
       have BK311 := n5_
       have HB := n6_
       clear n0_ n1_ n2_ n3_ n4_ n5_ n6_
       (try clear hb)
       (try clear hb2)
       (try clear hk)
       (try clear hi)
       refine hK.out _ _ ⟨(blk_cell BK310.out 0).trans rfl, (blk_cell BK310.out 1).trans rfl, (blk_cell BK311.out 0).trans rfl, (blk_cell BK311.out 1).trans rfl⟩ (fun hHeld => ?_)
       clear hK K
       refine norm_ (a' := ?_) ?_ ?_
       rotate_left
       ·show Act.put _ (some 54) _ = _
        simp only [Act.put, List.setIfInBounds_toArray, List.set_cons_zero, List.set_cons_succ, i64_w, i32_w]
        rfl
       refine pure_ (i := 12) (N := some 56) (v := ?_) (a' := ?_) #[true, true, true, true, true, true, true, true, true, true, true, true, true, false, false, false, false, false] rfl rfl (any_of HT_.out (by kernel_rfl)) (fun _ _ _ h => h) (Or.inl ⟨by rfl, ?_⟩) ?_ ?_
       rotate_left
       ·intro w'
        go_simp
        with_reducible rfl
       rotate_left
       ·simp only [Act.put, List.setIfInBounds_toArray, List.set_cons_zero, List.set_cons_succ, i64_w, i32_w]
        rfl
       refine pure_ (i := 13) (N := some 57) (v := ?_) (a' := ?_) #[true, true, true, true, true, true, true, true, true, true, true, true, true, true, false, false, false, false] rfl rfl (any_of HT_.out (by kernel_rfl)) (fun _ _ _ h => h) (Or.inl ⟨by rfl, ?_⟩) ?_ ?_
       rotate_left
       ·intro w'
        go_simp
        with_reducible rfl
       rotate_left
       ·simp only [Act.put, List.setIfInBounds_toArray, List.set_cons_zero, List.set_cons_succ, i64_w, i32_w]
        rfl
       refine pure_ (i := 14) (N := some 58) (v := ?_) (a' := ?_) #[true, true, true, true, true, true, true, true, true, true, true, true, true, true, true, false, false, false] rfl rfl (any_of HT_.out (by kernel_rfl)) (fun _ _ _ h => h) (Or.inl ⟨by rfl, ?_⟩) ?_ ?_
       rotate_left
       ·intro w'
        go_simp
        with_reducible rfl
       rotate_left
       ·simp only [Act.put, List.setIfInBounds_toArray, List.set_cons_zero, List.set_cons_succ, i64_w, i32_w]
        rfl
       refine one_ (i := 15) (N := some 59) #[true, true, true, true, true, true, true, true, true, true, true, true, true, true, true, true, false, false] rfl rfl (one_of HT_.out (by kernel_rfl)) (by decide) (fun K hK => ?_)
       refine goes_ Tryd.func17 (by kernel_rfl) rfl #[] (by rfl) rfl rfl (by (try simp only [List.map_toArray, List.map_cons, List.map_nil]); first | done | rfl | (simp only [List.length_drop, List.length_take]; rfl)) ?_
       with_reducible refine (netlablaw02_awake.calls kj7  true _ (Glob.below HG.out (by repeat (first | (with_reducible first | exact HB.out | apply below_alloc | apply pw_below_drewN | apply below_drew1 | refine below_set ?_ GE304.out | refine below_set ?_ GE305.out | refine below_set ?_ GE310.out | refine below_set ?_ GE311.out) | exact HB.out))) A55.out).mono ?_
       rintro e w66 ⟨rfl, hb⟩
       refine ⟨_, rfl, ?_⟩
       have n0_ := Aside0.mk (Kd.R_below (by (with_reducible repeat (first | apply Kd.R_alloc | apply Kd.R_drewN | apply Kd.R_drew)); exact HO315.out) hb)
       have n1_ := Aside0.mk (Kd.R_below (by (with_reducible repeat (first | apply Kd.R_alloc | apply Kd.R_drewN | apply Kd.R_drew)); exact HO320.out) hb)
       have n2_ := Aside0.mk (blk_below (g := gb304) (o := .cells #[.int .i8 a0_0, .int .i8 a0_1] 35 (0, 0)) (by (with_reducible repeat first | apply bN | apply bD | apply bA); exact BK304.out) hb)
       have n3_ := Aside0.mk (blk_below (g := gb305) (o := .cells #[.int .i8 a1_0, .int .i8 a1_1] 35 (0, 0)) (by (with_reducible repeat first | apply bN | apply bD | apply bA); exact BK305.out) hb)
       have n4_ := Aside0.mk (blk_below (g := gb310) (o := .cells #[.int .i8 t306, .int .i8 t307] 26 (0, 0)) (by (with_reducible repeat first | apply bN | apply bD | apply bA); exact BK310.out) hb)
       have n5_ := Aside0.mk (blk_below (g := gb311) (o := .cells #[.int .i8 t308, .int .i8 t309] 26 (0, 0)) (by (with_reducible repeat first | apply bN | apply bD | apply bA); exact BK311.out) hb)
       have n6_ := Aside0.mk (below_step (by repeat (first | (with_reducible first | exact HB.out | apply below_alloc | apply pw_below_drewN | apply below_drew1 | refine below_set ?_ GE304.out | refine below_set ?_ GE305.out | refine below_set ?_ GE310.out | refine below_set ?_ GE311.out) | exact HB.out)) hb)
       clear HO315
       clear HO320
       clear BK304
       clear BK305
       clear BK310
       clear BK311
       clear HB
       have HO315 := n0_
       have HO320 := n1_
       have BK304 := n2_
       have BK305 := n3_
       have BK310 := n4_
       have BK311 := n5_
       have HB := n6_
       clear n0_ n1_ n2_ n3_ n4_ n5_ n6_
       (try clear hb)
       (try clear hb2)
       (try clear hk)
       (try clear hi)
       refine hK.out _ _ ⟨(blk_cell BK310.out 0).trans rfl, (blk_cell BK310.out 1).trans rfl, (blk_cell BK311.out 0).trans rfl, (blk_cell BK311.out 1).trans rfl⟩ (fun hHeld => ?_)
       clear hK K
       refine norm_ (a' := ?_) ?_ ?_
       rotate_left
       ·show Act.put _ (some 59) _ = _
        simp only [Act.put, List.setIfInBounds_toArray, List.set_cons_zero, List.set_cons_succ, i64_w, i32_w]
        rfl
       refine pure_ (i := 16) (N := some 60) (v := ?_) (a' := ?_) #[true, true, true, true, true, true, true, true, true, true, true, true, true, true, true, true, true, false] rfl rfl (any_of HT_.out (by kernel_rfl)) (fun _ _ _ h => h) (Or.inl ⟨by rfl, ?_⟩) ?_ ?_
       rotate_left
       ·intro w'
        go_simp
        with_reducible rfl
       rotate_left
       ·simp only [Act.put, List.setIfInBounds_toArray, List.set_cons_zero, List.set_cons_succ, i64_w, i32_w]
        rfl
       refine pure_ (i := 17) (N := some 4) (v := ?_) (a' := ?_) #[true, true, true, true, true, true, true, true, true, true, true, true, true, true, true, true, true, true] rfl rfl (any_of HT_.out (by kernel_rfl)) (fun _ _ _ h => h) (Or.inl ⟨by rfl, ?_⟩) ?_ ?_
       rotate_left
       ·intro w'
        go_simp
        with_reducible rfl
       rotate_left
       ·simp only [Act.put, List.setIfInBounds_toArray, List.set_cons_zero, List.set_cons_succ, i64_w, i32_w]
        rfl
       refine done_ (done_of HT_.out (by kernel_rfl)) ?_
       try go_wp2
       go_ret
       exact ⟨by first | rfl | (simp [errW_none, errW_some] <;> rfl) | (simp only [← hji5, ← hji6, ← hji7]; first | rfl | (simp [errW_none, errW_some] <;> rfl)) | (simp [*, errW_none, errW_some] <;> rfl), by repeat (first | (with_reducible first | exact HB.out | apply below_alloc | apply pw_below_drewN | apply below_drew1 | refine below_set ?_ GE304.out | refine below_set ?_ GE305.out | refine below_set ?_ GE310.out | refine below_set ?_ GE311.out) | exact HB.out)⟩
      ·replace c56 := Bool.eq_false_iff.mpr c56
       subst c56
       have H1 : (none) = some r := by rw [if_neg (show ¬ (false = true) by decide)] at H; exact H
       clear H
       have H := H1
       clear H1
       exact absurd H (by simp)
     ·rw [if_neg c54] at H
      have c54b0 : (t321 == t306 && (t322 == t307)) = false := by simpa using c54
      (try (have c54b1 : decide (t321 = t306 && (t322 == t307)) = false := by simpa using c54))
      (try (have c54b2 : (t321 == t306 && (t322 == t307)) = false := by simpa using c54))
      (try (have c54b3 : ¬ (t321 = t306 && (t322 == t307)) := by simpa using c54))
      clear c54
      exact absurd H (by simp)
    ·rw [if_neg c52] at H
     have c52b0 : (t316 == t306 && (t317 == t307)) = false := by simpa using c52
     (try (have c52b1 : decide (t316 = t306 && (t317 == t307)) = false := by simpa using c52))
     (try (have c52b2 : (t316 == t306 && (t317 == t307)) = false := by simpa using c52))
     (try (have c52b3 : ¬ (t316 = t306 && (t317 == t307)) := by simpa using c52))
     clear c52
     exact absurd H (by simp)

end Go.Proofs.YtcgckodhehnpnaaDoor.F
