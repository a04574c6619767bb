-- Written by a program of this session (wip/tools/drive.py) over the kit's print.py.
import Derived.Test.YtcgckodhehnpnaaDoorF0
import Derived.Test.YtcgckodhehnpnaaDoorF2
import Derived.Test.YtcgckodhehnpnaaDoorF3
import Derived.Test.YtcgckodhehnpnaaDoorF7
import Derived.Test.YtcgckodhehnpnaaDoorF8
import Derived.Test.YtcgckodhehnpnaaDoorF9
import Derived.Test.YtcgckodhehnpnaaDoorF18
import Derived.Test.YtcgckodhehnpnaaDoorF22
namespace Go.Proofs.YtcgckodhehnpnaaDoor.F
open Go.RowKit Go.Proofs.YtcgckodhehnpnaaDoorW.PrintWords Go.Proofs.YtcgckodhehnpnaaDoorW.PrintLast Go.Proofs.YtcgckodhehnpnaaDoorW.PrintMore
attribute [local go_sem] max2_int min2_int max_two min_two max_three min_three max_four min_four   -- for this text's walks alone
set_option linter.unusedVariables false
set_option linter.unusedSimpArgs false

attribute [local go_sem high] eqA26
/-! ### netlablaw02_StrengthDrivers: function 11 -/
def netlablaw02_StrengthDrivers.j0 : Nat → Int → Int → Int → Bool → Int → Int → Option (Bool)
 | 0, _, _, _, _, _, _ => none
 | k + 1, x0, x1, x2, x41, x527000, x527001 => if x41 = true then (none) else (if x1 = 0 then ((netlablaw02_awake.f k).bind fun t540 => (if t540 = true then (some true) else (none))) else (if x2 = 0 then ((netlablaw02_awake.f k).bind fun t541 => (if t541 = true then (some true) else (none))) else ((strength_Read.f x527000 x527001).bind fun t542 => ((bit_Same.f t542 x0).bind fun t543 => (if t543 = true then ((netlablaw02_awake.f k).bind fun t544 => (if t544 = true then (some true) else (none))) else (none))))))
def netlablaw02_StrengthDrivers.f (k : Nat) (a0 : Int) (a1 : Int) (a2 : Int) : Option (Bool) := (strength_Drive.f a0 a1 a2).bind fun bt524 => ((strength_Valid.f bt524.1 bt524.2).bind fun t527 => (if t527 = true then ((strength_Drive.f 3 a1 a2).bind fun bt528 => ((netlablaw02_to.f 0 0).bind fun bt530 => (if (!(bt528.1 == bt530.1) || (!(bt528.2 == bt530.2))) = true then (netlablaw02_StrengthDrivers.j0 k a0 a1 a2 true bt524.1 bt524.2) else ((strength_Drive.f 0 a1 a2).bind fun bt532 => ((strength_Drive.f 2 a1 a2).bind fun bt534 => ((netlablaw02_within.f bt532.1 bt532.2 bt534.1 bt534.2).bind fun t536 => (if t536 = true then ((strength_Drive.f 1 a1 a2).bind fun bt537 => ((netlablaw02_within.f bt537.1 bt537.2 bt534.1 bt534.2).bind fun t539 => (netlablaw02_StrengthDrivers.j0 k a0 a1 a2 (!t539) bt524.1 bt524.2))) else (netlablaw02_StrengthDrivers.j0 k a0 a1 a2 true bt524.1 bt524.2)))))))) else (netlablaw02_StrengthDrivers.j0 k a0 a1 a2 true bt524.1 bt524.2)))
theorem netlablaw02_StrengthDrivers.mono_l : ∀ k, (∀ y0 y1 y2 y3 y4 y5, LeO (netlablaw02_StrengthDrivers.j0 k y0 y1 y2 y3 y4 y5) (netlablaw02_StrengthDrivers.j0 (k + 1) y0 y1 y2 y3 y4 y5))
 | 0 => fun _ _ _ _ _ _ r h => by simp [netlablaw02_StrengthDrivers.j0] at h
 | k + 1 => by
  have ih0 := netlablaw02_StrengthDrivers.mono_l k
  ·intro y0 y1 y2 y3 y4 y5
   unfold netlablaw02_StrengthDrivers.j0
   repeat' first
   | (with_reducible exact ih0 _ _ _ _ _ _)
   | (with_reducible exact netlablaw02_awake.mono _)
   | (with_reducible exact LeO.refl _)
   | (with_reducible exact LeO.none _)
   | (with_reducible refine LeO.ite ?_ ?_)
   | (with_reducible refine LeO.bind ?_ (fun _ => ?_))
   | exact ih0 _ _ _ _ _ _
   | exact netlablaw02_awake.mono _
   | exact LeO.none _
   | refine LeO.ite ?_ ?_
   | refine LeO.bind ?_ (fun _ => ?_)
theorem netlablaw02_StrengthDrivers.mono : ∀ a0 a1 a2 k, LeO (netlablaw02_StrengthDrivers.f k a0 a1 a2) (netlablaw02_StrengthDrivers.f (k + 1) a0 a1 a2) := by
 intro a0 a1 a2 k
 have ih0 := netlablaw02_StrengthDrivers.mono_l k
 unfold netlablaw02_StrengthDrivers.f
 repeat' first
   | (with_reducible exact ih0 _ _ _ _ _ _)
   | (with_reducible exact netlablaw02_awake.mono _)
   | (with_reducible exact LeO.refl _)
   | (with_reducible exact LeO.none _)
   | (with_reducible refine LeO.ite ?_ ?_)
   | (with_reducible refine LeO.bind ?_ (fun _ => ?_))
   | exact ih0 _ _ _ _ _ _
   | exact netlablaw02_awake.mono _
   | exact LeO.none _
   | refine LeO.ite ?_ ?_
   | refine LeO.bind ?_ (fun _ => ?_)
set_option maxHeartbeats 8000000 in
set_option maxRecDepth 100000 in
theorem netlablaw02_StrengthDrivers.calls (k : Nat) (a0 : Int) (a1 : Int) (a2 : Int) (r : Bool) (w : World) (hG : Glob w) (h : netlablaw02_StrengthDrivers.f k a0 a1 a2 = some r) :
  Calls Tryd.prog 11 #[.int .u8 a0, .int .u8 a1, .int .u8 a2] w fun e w' => e = .returned (.bool r) ∧ Below w.heap.size w w' := by
 have hu26 := Tryd.underlying26
 have HG := Aside0.mk hG
 clear hG
 have HB := Aside0.mk (Below.refl w.heap.size w)
 have H : ((strength_Drive.f a0 a1 a2).bind fun bt524 => ((strength_Valid.f bt524.1 bt524.2).bind fun t527 => (if t527 = true then ((strength_Drive.f 3 a1 a2).bind fun bt528 => ((netlablaw02_to.f 0 0).bind fun bt530 => (if (!(bt528.1 == bt530.1) || (!(bt528.2 == bt530.2))) = true then (netlablaw02_StrengthDrivers.j0 k a0 a1 a2 true bt524.1 bt524.2) else ((strength_Drive.f 0 a1 a2).bind fun bt532 => ((strength_Drive.f 2 a1 a2).bind fun bt534 => ((netlablaw02_within.f bt532.1 bt532.2 bt534.1 bt534.2).bind fun t536 => (if t536 = true then ((strength_Drive.f 1 a1 a2).bind fun bt537 => ((netlablaw02_within.f bt537.1 bt537.2 bt534.1 bt534.2).bind fun t539 => (netlablaw02_StrengthDrivers.j0 k a0 a1 a2 (!t539) bt524.1 bt524.2))) else (netlablaw02_StrengthDrivers.j0 k a0 a1 a2 true bt524.1 bt524.2)))))))) else (netlablaw02_StrengthDrivers.j0 k a0 a1 a2 true bt524.1 bt524.2)))) = some r := h
 clear h
 replace H := Option.bind_eq_some_iff.mp H
 obtain ⟨⟨t524, t525⟩, A40, H⟩ := H
 replace H : ((strength_Valid.f t524 t525).bind fun t527 => (if t527 = true then ((strength_Drive.f 3 a1 a2).bind fun bt528 => ((netlablaw02_to.f 0 0).bind fun bt530 => (if (!(bt528.1 == bt530.1) || (!(bt528.2 == bt530.2))) = true then (netlablaw02_StrengthDrivers.j0 k a0 a1 a2 true t524 t525) else ((strength_Drive.f 0 a1 a2).bind fun bt532 => ((strength_Drive.f 2 a1 a2).bind fun bt534 => ((netlablaw02_within.f bt532.1 bt532.2 bt534.1 bt534.2).bind fun t536 => (if t536 = true then ((strength_Drive.f 1 a1 a2).bind fun bt537 => ((netlablaw02_within.f bt537.1 bt537.2 bt534.1 bt534.2).bind fun t539 => (netlablaw02_StrengthDrivers.j0 k a0 a1 a2 (!t539) t524 t525))) else (netlablaw02_StrengthDrivers.j0 k a0 a1 a2 true t524 t525)))))))) else (netlablaw02_StrengthDrivers.j0 k a0 a1 a2 true t524 t525))) = some r := H
 have A4 := Aside0.mk A40
 clear A40
 have HC5 := Aside0.mk H
 clear H
 go_enter Tryd.func11, Tryd.ntmps11
 go_upto_region 2 with (first | (go_at_call 13; (with_reducible refine (strength_Drive.calls a0 a1 a2 t524 t525 _ A4.out).mono ?_); rintro e w6 ⟨rfl, hb⟩; have n0_ := Aside0.mk (below_step (by repeat (first | (with_reducible first | exact HB.out | apply below_alloc | apply pw_below_drewN | apply below_drew1) | exact HB.out)) hb); clear HB; have HB := n0_; clear n0_; (try clear hb); (try clear hb2); (try clear hk); (try clear hi)) | ((with_reducible refine gate_dst (N := 7) rfl ?_); refine box_event ?hg (N := 7) ?hd (cs := #[.int .i8 0, .int .i8 0]) (t := 26) ?hr ?_; (case hd => rfl); (case hg => rfl); (case hr => first | (go_simp; done) | (go_simp; rfl)); intro gb526 hg w7 hbox hb; have n0_ := Aside0.mk (below_step (by repeat (first | (with_reducible first | exact HB.out | apply below_alloc | apply pw_below_drewN | apply below_drew1) | exact HB.out)) hb); have n1_ := Aside0.mk (hbox); have n2_ := Aside0.mk ((by rw [hg]; exact (below_size (by repeat (first | (with_reducible first | exact HB.out | apply below_alloc | apply pw_below_drewN | apply below_drew1) | exact HB.out))) : w.heap.size ≤ gb526)); have n3_ := Aside0.mk ((by rw [hg]; exact (below_size (by repeat (first | (with_reducible first | exact HB.out | apply below_alloc | apply pw_below_drewN | apply below_drew1) | exact HB.out))) : w.heap.size ≤ gb526)); clear HB; have HB := n0_; have BK526 := n1_; have GW526 := n2_; have GE526 := n3_; clear n0_ n1_ n2_ n3_; clear hb hbox hg; have hcz8_0 : w7.cell? ⟨gb526, 0, none⟩ = some (.int .i8 0) := (blk_cell BK526.out 0).trans rfl; have hcz8_1 : w7.cell? ⟨gb526, 1, none⟩ = some (.int .i8 0) := (blk_cell BK526.out 1).trans rfl; have hfz8_0 := blk_frozen BK526.out 0; have hfz8_1 := blk_frozen BK526.out 1))
 (try simp only [Act.put, List.setIfInBounds_toArray, List.set_cons_zero, List.set_cons_succ])
 go_cut [41] (fun v41 wc => ∃ (kq : Nat) (x41_4 : Bool), v41 = .bool x41_4 ∧ Aside0 (netlablaw02_StrengthDrivers.j0 kq a0 a1 a2 x41_4 t524 t525 = some r) ∧ Aside0 (kq ≤ k) ∧ Aside0 (wc.heap[gb526]? = some (.cells #[.int .i8 t524, .int .i8 t525] 26 (0, 0))) ∧ Aside0 (Below w.heap.size w wc))
 case first =>
  have H := HC5.out
  clear HC5
  replace H := Option.bind_eq_some_iff.mp H
  obtain ⟨t527, A90, H⟩ := H
  replace H : (if t527 = true then ((strength_Drive.f 3 a1 a2).bind fun bt528 => ((netlablaw02_to.f 0 0).bind fun bt530 => (if (!(bt528.1 == bt530.1) || (!(bt528.2 == bt530.2))) = true then (netlablaw02_StrengthDrivers.j0 k a0 a1 a2 true t524 t525) else ((strength_Drive.f 0 a1 a2).bind fun bt532 => ((strength_Drive.f 2 a1 a2).bind fun bt534 => ((netlablaw02_within.f bt532.1 bt532.2 bt534.1 bt534.2).bind fun t536 => (if t536 = true then ((strength_Drive.f 1 a1 a2).bind fun bt537 => ((netlablaw02_within.f bt537.1 bt537.2 bt534.1 bt534.2).bind fun t539 => (netlablaw02_StrengthDrivers.j0 k a0 a1 a2 (!t539) t524 t525))) else (netlablaw02_StrengthDrivers.j0 k a0 a1 a2 true t524 t525)))))))) else (netlablaw02_StrengthDrivers.j0 k a0 a1 a2 true t524 t525)) = some r := H
  have A9 := Aside0.mk A90
  clear A90
  by_cases c10 : t527 = true
  ·subst c10
   have H1 : ((strength_Drive.f 3 a1 a2).bind fun bt528 => ((netlablaw02_to.f 0 0).bind fun bt530 => (if (!(bt528.1 == bt530.1) || (!(bt528.2 == bt530.2))) = true then (netlablaw02_StrengthDrivers.j0 k a0 a1 a2 true t524 t525) else ((strength_Drive.f 0 a1 a2).bind fun bt532 => ((strength_Drive.f 2 a1 a2).bind fun bt534 => ((netlablaw02_within.f bt532.1 bt532.2 bt534.1 bt534.2).bind fun t536 => (if t536 = true then ((strength_Drive.f 1 a1 a2).bind fun bt537 => ((netlablaw02_within.f bt537.1 bt537.2 bt534.1 bt534.2).bind fun t539 => (netlablaw02_StrengthDrivers.j0 k a0 a1 a2 (!t539) t524 t525))) else (netlablaw02_StrengthDrivers.j0 k a0 a1 a2 true t524 t525)))))))) = some r := by rw [if_pos rfl] at H; exact H
   clear H
   have H := H1
   clear H1
   replace H := Option.bind_eq_some_iff.mp H
   obtain ⟨⟨t528, t529⟩, A110, H⟩ := H
   replace H : ((netlablaw02_to.f 0 0).bind fun bt530 => (if (!(t528 == bt530.1) || (!(t529 == bt530.2))) = true then (netlablaw02_StrengthDrivers.j0 k a0 a1 a2 true t524 t525) else ((strength_Drive.f 0 a1 a2).bind fun bt532 => ((strength_Drive.f 2 a1 a2).bind fun bt534 => ((netlablaw02_within.f bt532.1 bt532.2 bt534.1 bt534.2).bind fun t536 => (if t536 = true then ((strength_Drive.f 1 a1 a2).bind fun bt537 => ((netlablaw02_within.f bt537.1 bt537.2 bt534.1 bt534.2).bind fun t539 => (netlablaw02_StrengthDrivers.j0 k a0 a1 a2 (!t539) t524 t525))) else (netlablaw02_StrengthDrivers.j0 k a0 a1 a2 true t524 t525))))))) = some r := H
   have A11 := Aside0.mk A110
   clear A110
   replace H := Option.bind_eq_some_iff.mp H
   obtain ⟨⟨t530, t531⟩, A120, H⟩ := H
   replace H : (if (!(t528 == t530) || (!(t529 == t531))) = true then (netlablaw02_StrengthDrivers.j0 k a0 a1 a2 true t524 t525) else ((strength_Drive.f 0 a1 a2).bind fun bt532 => ((strength_Drive.f 2 a1 a2).bind fun bt534 => ((netlablaw02_within.f bt532.1 bt532.2 bt534.1 bt534.2).bind fun t536 => (if t536 = true then ((strength_Drive.f 1 a1 a2).bind fun bt537 => ((netlablaw02_within.f bt537.1 bt537.2 bt534.1 bt534.2).bind fun t539 => (netlablaw02_StrengthDrivers.j0 k a0 a1 a2 (!t539) t524 t525))) else (netlablaw02_StrengthDrivers.j0 k a0 a1 a2 true t524 t525)))))) = some r := H
   have A12 := Aside0.mk A120
   clear A120
   by_cases c13 : (!(t528 == t530) || (!(t529 == t531))) = true
   ·rw [if_pos c13] at H
    have c13b0 : (!(t528 == t530) || (!(t529 == t531))) = true := c13
    clear c13
    (first | rw [c13b0] | (simp only [i64_w, i32_w]; rw [c13b0]) | skip)
    have H' := Aside0.mk H
    clear H
    have hcz14_0 : w7.cell? ⟨gb526, 0, none⟩ = some (.int .i8 0) := (blk_cell BK526.out 0).trans rfl
    have hcz14_1 : w7.cell? ⟨gb526, 1, none⟩ = some (.int .i8 0) := (blk_cell BK526.out 1).trans rfl
    have hfz14_0 := blk_frozen BK526.out 0
    have hfz14_1 := blk_frozen BK526.out 1
    go_wp2_with (first | (go_at_call 27; (with_reducible refine (strength_Valid.calls t524 t525 true _ A9.out).mono ?_); rintro e w15 ⟨rfl, hb⟩; have n0_ := Aside0.mk (blk_below (g := gb526) (o := .cells #[.int .i8 t524, .int .i8 t525] 26 (0, 0)) (by (with_reducible repeat first | apply bN | apply bD | apply bA); refine blk_put (cs := #[.int .i8 t524, .int .i8 0]) ?_ 1 _ rfl; (with_reducible repeat first | apply bN | apply bD | apply bA); refine blk_put (cs := #[.int .i8 0, .int .i8 0]) ?_ 0 _ rfl; (with_reducible repeat first | apply bN | apply bD | apply bA); exact BK526.out) hb); have n1_ := Aside0.mk (below_step (by repeat (first | (with_reducible first | exact HB.out | apply below_alloc | apply pw_below_drewN | apply below_drew1 | refine below_set ?_ GE526.out) | exact HB.out)) hb); clear BK526; clear HB; have BK526 := n0_; have HB := n1_; clear n0_ n1_; (try clear hb); (try clear hb2); (try clear hk); (try clear hi)) | (go_at_call 13; (with_reducible refine (strength_Drive.calls 3 a1 a2 t528 t529 _ A11.out).mono ?_); rintro e w16 ⟨rfl, hb⟩; have n0_ := Aside0.mk (blk_below (g := gb526) (o := .cells #[.int .i8 t524, .int .i8 t525] 26 (0, 0)) (by (with_reducible repeat first | apply bN | apply bD | apply bA); exact BK526.out) hb); have n1_ := Aside0.mk (below_step (by repeat (first | (with_reducible first | exact HB.out | apply below_alloc | apply pw_below_drewN | apply below_drew1 | refine below_set ?_ GE526.out) | exact HB.out)) hb); clear BK526; clear HB; have BK526 := n0_; have HB := n1_; clear n0_ n1_; (try clear hb); (try clear hb2); (try clear hk); (try clear hi)) | (go_at_call 21; (with_reducible refine (netlablaw02_to.calls 0 0 t530 t531 _ A12.out).mono ?_); rintro e w17 ⟨rfl, hb⟩; have n0_ := Aside0.mk (blk_below (g := gb526) (o := .cells #[.int .i8 t524, .int .i8 t525] 26 (0, 0)) (by (with_reducible repeat first | apply bN | apply bD | apply bA); exact BK526.out) hb); have n1_ := Aside0.mk (below_step (by repeat (first | (with_reducible first | exact HB.out | apply below_alloc | apply pw_below_drewN | apply below_drew1 | refine below_set ?_ GE526.out) | exact HB.out)) hb); clear BK526; clear HB; have BK526 := n0_; have HB := n1_; clear n0_ n1_; (try clear hb); (try clear hb2); (try clear hk); (try clear hi)))
    go_meet
    case rel => exact ⟨_, (true), (by first | rfl | (simp; done) | (simp [*]; done)), H', ⟨by first | omega | exact Nat.le_refl _⟩, ⟨by (with_reducible repeat first | apply bN | apply bD | apply bA); exact BK526.out⟩, ⟨by repeat (first | (with_reducible first | exact HB.out | apply below_alloc | apply pw_below_drewN | apply below_drew1 | refine below_set ?_ GE526.out) | exact HB.out)⟩⟩
   ·rw [if_neg c13] at H
    have c13b0 : (!(t528 == t530) || (!(t529 == t531))) = false := by simpa using c13
    clear c13
    (first | rw [c13b0] | (simp only [i64_w, i32_w]; rw [c13b0]) | skip)
    replace H := Option.bind_eq_some_iff.mp H
    obtain ⟨⟨t532, t533⟩, A180, H⟩ := H
    replace H : ((strength_Drive.f 2 a1 a2).bind fun bt534 => ((netlablaw02_within.f t532 t533 bt534.1 bt534.2).bind fun t536 => (if t536 = true then ((strength_Drive.f 1 a1 a2).bind fun bt537 => ((netlablaw02_within.f bt537.1 bt537.2 bt534.1 bt534.2).bind fun t539 => (netlablaw02_StrengthDrivers.j0 k a0 a1 a2 (!t539) t524 t525))) else (netlablaw02_StrengthDrivers.j0 k a0 a1 a2 true t524 t525)))) = some r := H
    have A18 := Aside0.mk A180
    clear A180
    replace H := Option.bind_eq_some_iff.mp H
    obtain ⟨⟨t534, t535⟩, A190, H⟩ := H
    replace H : ((netlablaw02_within.f t532 t533 t534 t535).bind fun t536 => (if t536 = true then ((strength_Drive.f 1 a1 a2).bind fun bt537 => ((netlablaw02_within.f bt537.1 bt537.2 t534 t535).bind fun t539 => (netlablaw02_StrengthDrivers.j0 k a0 a1 a2 (!t539) t524 t525))) else (netlablaw02_StrengthDrivers.j0 k a0 a1 a2 true t524 t525))) = some r := H
    have A19 := Aside0.mk A190
    clear A190
    replace H := Option.bind_eq_some_iff.mp H
    obtain ⟨t536, A200, H⟩ := H
    replace H : (if t536 = true then ((strength_Drive.f 1 a1 a2).bind fun bt537 => ((netlablaw02_within.f bt537.1 bt537.2 t534 t535).bind fun t539 => (netlablaw02_StrengthDrivers.j0 k a0 a1 a2 (!t539) t524 t525))) else (netlablaw02_StrengthDrivers.j0 k a0 a1 a2 true t524 t525)) = some r := H
    have A20 := Aside0.mk A200
    clear A200
    by_cases c21 : t536 = true
    ·subst c21
     have H1 : ((strength_Drive.f 1 a1 a2).bind fun bt537 => ((netlablaw02_within.f bt537.1 bt537.2 t534 t535).bind fun t539 => (netlablaw02_StrengthDrivers.j0 k a0 a1 a2 (!t539) t524 t525))) = some r := by rw [if_pos rfl] at H; exact H
     clear H
     have H := H1
     clear H1
     replace H := Option.bind_eq_some_iff.mp H
     obtain ⟨⟨t537, t538⟩, A220, H⟩ := H
     replace H : ((netlablaw02_within.f t537 t538 t534 t535).bind fun t539 => (netlablaw02_StrengthDrivers.j0 k a0 a1 a2 (!t539) t524 t525)) = some r := H
     have A22 := Aside0.mk A220
     clear A220
     replace H := Option.bind_eq_some_iff.mp H
     obtain ⟨t539, A230, H⟩ := H
     replace H : (netlablaw02_StrengthDrivers.j0 k a0 a1 a2 (!t539) t524 t525) = some r := H
     have A23 := Aside0.mk A230
     clear A230
     have H' := Aside0.mk H
     clear H
     have hcz24_0 : w7.cell? ⟨gb526, 0, none⟩ = some (.int .i8 0) := (blk_cell BK526.out 0).trans rfl
     have hcz24_1 : w7.cell? ⟨gb526, 1, none⟩ = some (.int .i8 0) := (blk_cell BK526.out 1).trans rfl
     have hfz24_0 := blk_frozen BK526.out 0
     have hfz24_1 := blk_frozen BK526.out 1
     go_wp2_with (first | (go_at_call 27; (with_reducible refine (strength_Valid.calls t524 t525 true _ A9.out).mono ?_); rintro e w25 ⟨rfl, hb⟩; have n0_ := Aside0.mk (blk_below (g := gb526) (o := .cells #[.int .i8 t524, .int .i8 t525] 26 (0, 0)) (by (with_reducible repeat first | apply bN | apply bD | apply bA); refine blk_put (cs := #[.int .i8 t524, .int .i8 0]) ?_ 1 _ rfl; (with_reducible repeat first | apply bN | apply bD | apply bA); refine blk_put (cs := #[.int .i8 0, .int .i8 0]) ?_ 0 _ rfl; (with_reducible repeat first | apply bN | apply bD | apply bA); exact BK526.out) hb); have n1_ := Aside0.mk (below_step (by repeat (first | (with_reducible first | exact HB.out | apply below_alloc | apply pw_below_drewN | apply below_drew1 | refine below_set ?_ GE526.out) | exact HB.out)) hb); clear BK526; clear HB; have BK526 := n0_; have HB := n1_; clear n0_ n1_; (try clear hb); (try clear hb2); (try clear hk); (try clear hi)) | (go_at_call 13; (with_reducible refine (strength_Drive.calls 3 a1 a2 t528 t529 _ A11.out).mono ?_); rintro e w26 ⟨rfl, hb⟩; have n0_ := Aside0.mk (blk_below (g := gb526) (o := .cells #[.int .i8 t524, .int .i8 t525] 26 (0, 0)) (by (with_reducible repeat first | apply bN | apply bD | apply bA); exact BK526.out) hb); have n1_ := Aside0.mk (below_step (by repeat (first | (with_reducible first | exact HB.out | apply below_alloc | apply pw_below_drewN | apply below_drew1 | refine below_set ?_ GE526.out) | exact HB.out)) hb); clear BK526; clear HB; have BK526 := n0_; have HB := n1_; clear n0_ n1_; (try clear hb); (try clear hb2); (try clear hk); (try clear hi)) | (go_at_call 21; (with_reducible refine (netlablaw02_to.calls 0 0 t530 t531 _ A12.out).mono ?_); rintro e w27 ⟨rfl, hb⟩; have n0_ := Aside0.mk (blk_below (g := gb526) (o := .cells #[.int .i8 t524, .int .i8 t525] 26 (0, 0)) (by (with_reducible repeat first | apply bN | apply bD | apply bA); exact BK526.out) hb); have n1_ := Aside0.mk (below_step (by repeat (first | (with_reducible first | exact HB.out | apply below_alloc | apply pw_below_drewN | apply below_drew1 | refine below_set ?_ GE526.out) | exact HB.out)) hb); clear BK526; clear HB; have BK526 := n0_; have HB := n1_; clear n0_ n1_; (try clear hb); (try clear hb2); (try clear hk); (try clear hi)) | (go_at_call 13; (with_reducible refine (strength_Drive.calls 0 a1 a2 t532 t533 _ A18.out).mono ?_); rintro e w28 ⟨rfl, hb⟩; have n0_ := Aside0.mk (blk_below (g := gb526) (o := .cells #[.int .i8 t524, .int .i8 t525] 26 (0, 0)) (by (with_reducible repeat first | apply bN | apply bD | apply bA); exact BK526.out) hb); have n1_ := Aside0.mk (below_step (by repeat (first | (with_reducible first | exact HB.out | apply below_alloc | apply pw_below_drewN | apply below_drew1 | refine below_set ?_ GE526.out) | exact HB.out)) hb); clear BK526; clear HB; have BK526 := n0_; have HB := n1_; clear n0_ n1_; (try clear hb); (try clear hb2); (try clear hk); (try clear hi)) | (go_at_call 13; (with_reducible refine (strength_Drive.calls 2 a1 a2 t534 t535 _ A19.out).mono ?_); rintro e w29 ⟨rfl, hb⟩; have n0_ := Aside0.mk (blk_below (g := gb526) (o := .cells #[.int .i8 t524, .int .i8 t525] 26 (0, 0)) (by (with_reducible repeat first | apply bN | apply bD | apply bA); exact BK526.out) hb); have n1_ := Aside0.mk (below_step (by repeat (first | (with_reducible first | exact HB.out | apply below_alloc | apply pw_below_drewN | apply below_drew1 | refine below_set ?_ GE526.out) | exact HB.out)) hb); clear BK526; clear HB; have BK526 := n0_; have HB := n1_; clear n0_ n1_; (try clear hb); (try clear hb2); (try clear hk); (try clear hi)) | (go_at_call 33; (with_reducible refine (netlablaw02_within.calls t532 t533 t534 t535 true _ A20.out).mono ?_); rintro e w30 ⟨rfl, hb⟩; have n0_ := Aside0.mk (blk_below (g := gb526) (o := .cells #[.int .i8 t524, .int .i8 t525] 26 (0, 0)) (by (with_reducible repeat first | apply bN | apply bD | apply bA); exact BK526.out) hb); have n1_ := Aside0.mk (below_step (by repeat (first | (with_reducible first | exact HB.out | apply below_alloc | apply pw_below_drewN | apply below_drew1 | refine below_set ?_ GE526.out) | exact HB.out)) hb); clear BK526; clear HB; have BK526 := n0_; have HB := n1_; clear n0_ n1_; (try clear hb); (try clear hb2); (try clear hk); (try clear hi)) | (go_at_call 13; (with_reducible refine (strength_Drive.calls 1 a1 a2 t537 t538 _ A22.out).mono ?_); rintro e w31 ⟨rfl, hb⟩; have n0_ := Aside0.mk (blk_below (g := gb526) (o := .cells #[.int .i8 t524, .int .i8 t525] 26 (0, 0)) (by (with_reducible repeat first | apply bN | apply bD | apply bA); exact BK526.out) hb); have n1_ := Aside0.mk (below_step (by repeat (first | (with_reducible first | exact HB.out | apply below_alloc | apply pw_below_drewN | apply below_drew1 | refine below_set ?_ GE526.out) | exact HB.out)) hb); clear BK526; clear HB; have BK526 := n0_; have HB := n1_; clear n0_ n1_; (try clear hb); (try clear hb2); (try clear hk); (try clear hi)) | (go_at_call 33; (with_reducible refine (netlablaw02_within.calls t537 t538 t534 t535 t539 _ A23.out).mono ?_); rintro e w32 ⟨rfl, hb⟩; have n0_ := Aside0.mk (blk_below (g := gb526) (o := .cells #[.int .i8 t524, .int .i8 t525] 26 (0, 0)) (by (with_reducible repeat first | apply bN | apply bD | apply bA); exact BK526.out) hb); have n1_ := Aside0.mk (below_step (by repeat (first | (with_reducible first | exact HB.out | apply below_alloc | apply pw_below_drewN | apply below_drew1 | refine below_set ?_ GE526.out) | exact HB.out)) hb); clear BK526; clear HB; have BK526 := n0_; have HB := n1_; clear n0_ n1_; (try clear hb); (try clear hb2); (try clear hk); (try clear hi)))
     go_meet
     case rel => exact ⟨_, (!t539), (by first | rfl | (simp; done) | (simp [*]; done)), H', ⟨by first | omega | exact Nat.le_refl _⟩, ⟨by (with_reducible repeat first | apply bN | apply bD | apply bA); exact BK526.out⟩, ⟨by repeat (first | (with_reducible first | exact HB.out | apply below_alloc | apply pw_below_drewN | apply below_drew1 | refine below_set ?_ GE526.out) | exact HB.out)⟩⟩
    ·replace c21 := Bool.eq_false_iff.mpr c21
     subst c21
     have H1 : (netlablaw02_StrengthDrivers.j0 k a0 a1 a2 true t524 t525) = some r := by rw [if_neg (show ¬ (false = true) by decide)] at H; exact H
     clear H
     have H := H1
     clear H1
     have H' := Aside0.mk H
     clear H
     have hcz33_0 : w7.cell? ⟨gb526, 0, none⟩ = some (.int .i8 0) := (blk_cell BK526.out 0).trans rfl
     have hcz33_1 : w7.cell? ⟨gb526, 1, none⟩ = some (.int .i8 0) := (blk_cell BK526.out 1).trans rfl
     have hfz33_0 := blk_frozen BK526.out 0
     have hfz33_1 := blk_frozen BK526.out 1
     go_wp2_with (first | (go_at_call 27; (with_reducible refine (strength_Valid.calls t524 t525 true _ A9.out).mono ?_); rintro e w34 ⟨rfl, hb⟩; have n0_ := Aside0.mk (blk_below (g := gb526) (o := .cells #[.int .i8 t524, .int .i8 t525] 26 (0, 0)) (by (with_reducible repeat first | apply bN | apply bD | apply bA); refine blk_put (cs := #[.int .i8 t524, .int .i8 0]) ?_ 1 _ rfl; (with_reducible repeat first | apply bN | apply bD | apply bA); refine blk_put (cs := #[.int .i8 0, .int .i8 0]) ?_ 0 _ rfl; (with_reducible repeat first | apply bN | apply bD | apply bA); exact BK526.out) hb); have n1_ := Aside0.mk (below_step (by repeat (first | (with_reducible first | exact HB.out | apply below_alloc | apply pw_below_drewN | apply below_drew1 | refine below_set ?_ GE526.out) | exact HB.out)) hb); clear BK526; clear HB; have BK526 := n0_; have HB := n1_; clear n0_ n1_; (try clear hb); (try clear hb2); (try clear hk); (try clear hi)) | (go_at_call 13; (with_reducible refine (strength_Drive.calls 3 a1 a2 t528 t529 _ A11.out).mono ?_); rintro e w35 ⟨rfl, hb⟩; have n0_ := Aside0.mk (blk_below (g := gb526) (o := .cells #[.int .i8 t524, .int .i8 t525] 26 (0, 0)) (by (with_reducible repeat first | apply bN | apply bD | apply bA); exact BK526.out) hb); have n1_ := Aside0.mk (below_step (by repeat (first | (with_reducible first | exact HB.out | apply below_alloc | apply pw_below_drewN | apply below_drew1 | refine below_set ?_ GE526.out) | exact HB.out)) hb); clear BK526; clear HB; have BK526 := n0_; have HB := n1_; clear n0_ n1_; (try clear hb); (try clear hb2); (try clear hk); (try clear hi)) | (go_at_call 21; (with_reducible refine (netlablaw02_to.calls 0 0 t530 t531 _ A12.out).mono ?_); rintro e w36 ⟨rfl, hb⟩; have n0_ := Aside0.mk (blk_below (g := gb526) (o := .cells #[.int .i8 t524, .int .i8 t525] 26 (0, 0)) (by (with_reducible repeat first | apply bN | apply bD | apply bA); exact BK526.out) hb); have n1_ := Aside0.mk (below_step (by repeat (first | (with_reducible first | exact HB.out | apply below_alloc | apply pw_below_drewN | apply below_drew1 | refine below_set ?_ GE526.out) | exact HB.out)) hb); clear BK526; clear HB; have BK526 := n0_; have HB := n1_; clear n0_ n1_; (try clear hb); (try clear hb2); (try clear hk); (try clear hi)) | (go_at_call 13; (with_reducible refine (strength_Drive.calls 0 a1 a2 t532 t533 _ A18.out).mono ?_); rintro e w37 ⟨rfl, hb⟩; have n0_ := Aside0.mk (blk_below (g := gb526) (o := .cells #[.int .i8 t524, .int .i8 t525] 26 (0, 0)) (by (with_reducible repeat first | apply bN | apply bD | apply bA); exact BK526.out) hb); have n1_ := Aside0.mk (below_step (by repeat (first | (with_reducible first | exact HB.out | apply below_alloc | apply pw_below_drewN | apply below_drew1 | refine below_set ?_ GE526.out) | exact HB.out)) hb); clear BK526; clear HB; have BK526 := n0_; have HB := n1_; clear n0_ n1_; (try clear hb); (try clear hb2); (try clear hk); (try clear hi)) | (go_at_call 13; (with_reducible refine (strength_Drive.calls 2 a1 a2 t534 t535 _ A19.out).mono ?_); rintro e w38 ⟨rfl, hb⟩; have n0_ := Aside0.mk (blk_below (g := gb526) (o := .cells #[.int .i8 t524, .int .i8 t525] 26 (0, 0)) (by (with_reducible repeat first | apply bN | apply bD | apply bA); exact BK526.out) hb); have n1_ := Aside0.mk (below_step (by repeat (first | (with_reducible first | exact HB.out | apply below_alloc | apply pw_below_drewN | apply below_drew1 | refine below_set ?_ GE526.out) | exact HB.out)) hb); clear BK526; clear HB; have BK526 := n0_; have HB := n1_; clear n0_ n1_; (try clear hb); (try clear hb2); (try clear hk); (try clear hi)) | (go_at_call 33; (with_reducible refine (netlablaw02_within.calls t532 t533 t534 t535 false _ A20.out).mono ?_); rintro e w39 ⟨rfl, hb⟩; have n0_ := Aside0.mk (blk_below (g := gb526) (o := .cells #[.int .i8 t524, .int .i8 t525] 26 (0, 0)) (by (with_reducible repeat first | apply bN | apply bD | apply bA); exact BK526.out) hb); have n1_ := Aside0.mk (below_step (by repeat (first | (with_reducible first | exact HB.out | apply below_alloc | apply pw_below_drewN | apply below_drew1 | refine below_set ?_ GE526.out) | exact HB.out)) hb); clear BK526; clear HB; have BK526 := n0_; have HB := n1_; clear n0_ n1_; (try clear hb); (try clear hb2); (try clear hk); (try clear hi)))
     go_meet
     case rel => exact ⟨_, (true), (by first | rfl | (simp; done) | (simp [*]; done)), H', ⟨by first | omega | exact Nat.le_refl _⟩, ⟨by (with_reducible repeat first | apply bN | apply bD | apply bA); exact BK526.out⟩, ⟨by repeat (first | (with_reducible first | exact HB.out | apply below_alloc | apply pw_below_drewN | apply below_drew1 | refine below_set ?_ GE526.out) | exact HB.out)⟩⟩
  ·replace c10 := Bool.eq_false_iff.mpr c10
   subst c10
   have H1 : (netlablaw02_StrengthDrivers.j0 k a0 a1 a2 true t524 t525) = some r := by rw [if_neg (show ¬ (false = true) by decide)] at H; exact H
   clear H
   have H := H1
   clear H1
   have H' := Aside0.mk H
   clear H
   have hcz40_0 : w7.cell? ⟨gb526, 0, none⟩ = some (.int .i8 0) := (blk_cell BK526.out 0).trans rfl
   have hcz40_1 : w7.cell? ⟨gb526, 1, none⟩ = some (.int .i8 0) := (blk_cell BK526.out 1).trans rfl
   have hfz40_0 := blk_frozen BK526.out 0
   have hfz40_1 := blk_frozen BK526.out 1
   go_wp2_with (first | (go_at_call 27; (with_reducible refine (strength_Valid.calls t524 t525 false _ A9.out).mono ?_); rintro e w41 ⟨rfl, hb⟩; have n0_ := Aside0.mk (blk_below (g := gb526) (o := .cells #[.int .i8 t524, .int .i8 t525] 26 (0, 0)) (by (with_reducible repeat first | apply bN | apply bD | apply bA); refine blk_put (cs := #[.int .i8 t524, .int .i8 0]) ?_ 1 _ rfl; (with_reducible repeat first | apply bN | apply bD | apply bA); refine blk_put (cs := #[.int .i8 0, .int .i8 0]) ?_ 0 _ rfl; (with_reducible repeat first | apply bN | apply bD | apply bA); exact BK526.out) hb); have n1_ := Aside0.mk (below_step (by repeat (first | (with_reducible first | exact HB.out | apply below_alloc | apply pw_below_drewN | apply below_drew1 | refine below_set ?_ GE526.out) | exact HB.out)) hb); clear BK526; clear HB; have BK526 := n0_; have HB := n1_; clear n0_ n1_; (try clear hb); (try clear hb2); (try clear hk); (try clear hi)))
   go_meet
   case rel => exact ⟨_, (true), (by first | rfl | (simp; done) | (simp [*]; done)), H', ⟨by first | omega | exact Nat.le_refl _⟩, ⟨by (with_reducible repeat first | apply bN | apply bD | apply bA); exact BK526.out⟩, ⟨by repeat (first | (with_reducible first | exact HB.out | apply below_alloc | apply pw_below_drewN | apply below_drew1 | refine below_set ?_ GE526.out) | exact HB.out)⟩⟩
 case rest =>
  clear HC5
  try clear c1
  try clear c2
  try clear p2
  try clear c10
  try clear c11
  try clear c13
  try clear c13b0
  try clear c21
  try clear hcz14_0
  try clear hcz14_1
  try clear hcz24_0
  try clear hcz24_1
  try clear hcz33_0
  try clear hcz33_1
  try clear hcz40_0
  try clear hcz40_1
  try clear hcz8_0
  try clear hcz8_1
  try clear hfz14_0
  try clear hfz14_1
  try clear hfz24_0
  try clear hfz24_1
  try clear hfz33_0
  try clear hfz33_1
  try clear hfz40_0
  try clear hfz40_1
  try clear hfz8_0
  try clear hfz8_1
  obtain ⟨kq, x41_4, rfl, HA, HJ4, BK526, HB⟩ := hcut
  cases kq with
  | zero => exact absurd HA.out (by simp [netlablaw02_StrengthDrivers.j0])
  | succ kj4 =>
   have H := HA.out
   clear HA
   simp only [netlablaw02_StrengthDrivers.j0] at H
   by_cases c42 : x41_4 = true
   ·subst c42
    have H1 : (none) = some r := by rw [if_pos rfl] at H; exact H
    clear H
    have H := H1
    clear H1
    exact absurd H (by simp)
   ·replace c42 := Bool.eq_false_iff.mpr c42
    subst c42
    have H1 : (if a1 = 0 then ((netlablaw02_awake.f kj4).bind fun t540 => (if t540 = true then (some true) else (none))) else (if a2 = 0 then ((netlablaw02_awake.f kj4).bind fun t541 => (if t541 = true then (some true) else (none))) else ((strength_Read.f t524 t525).bind fun t542 => ((bit_Same.f t542 a0).bind fun t543 => (if t543 = true then ((netlablaw02_awake.f kj4).bind fun t544 => (if t544 = true then (some true) else (none))) else (none)))))) = some r := by rw [if_neg (show ¬ (false = true) by decide)] at H; exact H
    clear H
    have H := H1
    clear H1
    by_cases c43 : a1 = 0
    ·rw [if_pos c43] at H
     have c43b0 : (a1 == 0) = true := beq_iff_eq.mpr c43
     have c43b1 : (a1 != 0) = false := bne_eq_false_iff_eq.mpr c43
     clear c43
     replace H := Option.bind_eq_some_iff.mp H
     obtain ⟨t540, A440, H⟩ := H
     replace H : (if t540 = true then (some true) else (none)) = some r := H
     have A44 := Aside0.mk A440
     clear A440
     by_cases c45 : t540 = true
     ·subst c45
      have H1 : (some true) = some r := by rw [if_pos rfl] at H; exact H
      clear H
      have H := H1
      clear H1
      obtain rfl := Option.some.inj H
      go_wp2_with (first | (go_at_call 17; (with_reducible refine (netlablaw02_awake.calls kj4  true _ (Glob.below HG.out (by repeat (first | (with_reducible first | exact HB.out | apply below_alloc | apply pw_below_drewN | apply below_drew1 | refine below_set ?_ GE526.out) | exact HB.out))) A44.out).mono ?_); rintro e w46 ⟨rfl, hb⟩; have n0_ := Aside0.mk (blk_below (g := gb526) (o := .cells #[.int .i8 t524, .int .i8 t525] 26 (0, 0)) (by (with_reducible repeat first | apply bN | apply bD | apply bA); exact BK526.out) hb); have n1_ := Aside0.mk (below_step (by repeat (first | (with_reducible first | exact HB.out | apply below_alloc | apply pw_below_drewN | apply below_drew1 | refine below_set ?_ GE526.out) | exact HB.out)) hb); clear BK526; clear HB; have BK526 := n0_; have HB := n1_; clear n0_ n1_; (try clear hb); (try clear hb2); (try clear hk); (try clear hi)))
      go_ret
      exact ⟨by first | rfl | (simp [errW_none, errW_some] <;> rfl) | (simp [*, errW_none, errW_some] <;> rfl), by repeat (first | (with_reducible first | exact HB.out | apply below_alloc | apply pw_below_drewN | apply below_drew1 | refine below_set ?_ GE526.out) | exact HB.out)⟩
     ·replace c45 := Bool.eq_false_iff.mpr c45
      subst c45
      have H1 : (none) = some r := by rw [if_neg (show ¬ (false = true) by decide)] at H; exact H
      clear H
      have H := H1
      clear H1
      exact absurd H (by simp)
    ·rw [if_neg c43] at H
     have c43b0 : (a1 == 0) = false := beq_eq_false_iff_ne.mpr c43
     have c43b1 : (a1 != 0) = true := bne_iff_ne.mpr c43
     by_cases c47 : a2 = 0
     ·rw [if_pos c47] at H
      have c47b0 : (a2 == 0) = true := beq_iff_eq.mpr c47
      have c47b1 : (a2 != 0) = false := bne_eq_false_iff_eq.mpr c47
      clear c47
      replace H := Option.bind_eq_some_iff.mp H
      obtain ⟨t541, A480, H⟩ := H
      replace H : (if t541 = true then (some true) else (none)) = some r := H
      have A48 := Aside0.mk A480
      clear A480
      by_cases c49 : t541 = true
      ·subst c49
       have H1 : (some true) = some r := by rw [if_pos rfl] at H; exact H
       clear H
       have H := H1
       clear H1
       obtain rfl := Option.some.inj H
       go_wp2_with (first | (go_at_call 17; (with_reducible refine (netlablaw02_awake.calls kj4  true _ (Glob.below HG.out (by repeat (first | (with_reducible first | exact HB.out | apply below_alloc | apply pw_below_drewN | apply below_drew1 | refine below_set ?_ GE526.out) | exact HB.out))) A48.out).mono ?_); rintro e w50 ⟨rfl, hb⟩; have n0_ := Aside0.mk (blk_below (g := gb526) (o := .cells #[.int .i8 t524, .int .i8 t525] 26 (0, 0)) (by (with_reducible repeat first | apply bN | apply bD | apply bA); exact BK526.out) hb); have n1_ := Aside0.mk (below_step (by repeat (first | (with_reducible first | exact HB.out | apply below_alloc | apply pw_below_drewN | apply below_drew1 | refine below_set ?_ GE526.out) | exact HB.out)) hb); clear BK526; clear HB; have BK526 := n0_; have HB := n1_; clear n0_ n1_; (try clear hb); (try clear hb2); (try clear hk); (try clear hi)))
       go_ret
       exact ⟨by first | rfl | (simp [errW_none, errW_some] <;> rfl) | (simp [*, errW_none, errW_some] <;> rfl), by repeat (first | (with_reducible first | exact HB.out | apply below_alloc | apply pw_below_drewN | apply below_drew1 | refine below_set ?_ GE526.out) | exact HB.out)⟩
      ·replace c49 := Bool.eq_false_iff.mpr c49
       subst c49
       have H1 : (none) = some r := by rw [if_neg (show ¬ (false = true) by decide)] at H; exact H
       clear H
       have H := H1
       clear H1
       exact absurd H (by simp)
     ·rw [if_neg c47] at H
      have c47b0 : (a2 == 0) = false := beq_eq_false_iff_ne.mpr c47
      have c47b1 : (a2 != 0) = true := bne_iff_ne.mpr c47
      replace H := Option.bind_eq_some_iff.mp H
      obtain ⟨t542, A510, H⟩ := H
      replace H : ((bit_Same.f t542 a0).bind fun t543 => (if t543 = true then ((netlablaw02_awake.f kj4).bind fun t544 => (if t544 = true then (some true) else (none))) else (none))) = some r := H
      have A51 := Aside0.mk A510
      clear A510
      replace H := Option.bind_eq_some_iff.mp H
      obtain ⟨t543, A520, H⟩ := H
      replace H : (if t543 = true then ((netlablaw02_awake.f kj4).bind fun t544 => (if t544 = true then (some true) else (none))) else (none)) = some r := H
      have A52 := Aside0.mk A520
      clear A520
      by_cases c53 : t543 = true
      ·subst c53
       have H1 : ((netlablaw02_awake.f kj4).bind fun t544 => (if t544 = true then (some true) else (none))) = some r := by rw [if_pos rfl] at H; exact H
       clear H
       have H := H1
       clear H1
       replace H := Option.bind_eq_some_iff.mp H
       obtain ⟨t544, A540, H⟩ := H
       replace H : (if t544 = true then (some true) else (none)) = some r := H
       have A54 := Aside0.mk A540
       clear A540
       by_cases c55 : t544 = true
       ·subst c55
        have H1 : (some true) = some r := by rw [if_pos rfl] at H; exact H
        clear H
        have H := H1
        clear H1
        obtain rfl := Option.some.inj H
        have hcz56_0 : wc.cell? ⟨gb526, 0, none⟩ = some (.int .i8 t524) := (blk_cell BK526.out 0).trans rfl
        have hcz56_1 : wc.cell? ⟨gb526, 1, none⟩ = some (.int .i8 t525) := (blk_cell BK526.out 1).trans rfl
        have hfz56_0 := blk_frozen BK526.out 0
        have hfz56_1 := blk_frozen BK526.out 1
        go_wp2_with (first | (go_at_call 28; (with_reducible refine (strength_Read.calls t524 t525 t542 _ A51.out).mono ?_); rintro e w57 ⟨rfl, hb⟩; have n0_ := Aside0.mk (blk_below (g := gb526) (o := .cells #[.int .i8 t524, .int .i8 t525] 26 (0, 0)) (by (with_reducible repeat first | apply bN | apply bD | apply bA); exact BK526.out) hb); have n1_ := Aside0.mk (below_step (by repeat (first | (with_reducible first | exact HB.out | apply below_alloc | apply pw_below_drewN | apply below_drew1 | refine below_set ?_ GE526.out) | exact HB.out)) hb); clear BK526; clear HB; have BK526 := n0_; have HB := n1_; clear n0_ n1_; (try clear hb); (try clear hb2); (try clear hk); (try clear hi)) | (go_at_call 34; (with_reducible refine (bit_Same.calls t542 a0 true _ A52.out).mono ?_); rintro e w' ⟨rfl, ⟨nd, rfl⟩⟩) | (go_at_call 17; (with_reducible refine (netlablaw02_awake.calls kj4  true _ (Glob.below HG.out (by repeat (first | (with_reducible first | exact HB.out | apply below_alloc | apply pw_below_drewN | apply below_drew1 | refine below_set ?_ GE526.out) | exact HB.out))) A54.out).mono ?_); rintro e w58 ⟨rfl, hb⟩; have n0_ := Aside0.mk (blk_below (g := gb526) (o := .cells #[.int .i8 t524, .int .i8 t525] 26 (0, 0)) (by (with_reducible repeat first | apply bN | apply bD | apply bA); exact BK526.out) hb); have n1_ := Aside0.mk (below_step (by repeat (first | (with_reducible first | exact HB.out | apply below_alloc | apply pw_below_drewN | apply below_drew1 | refine below_set ?_ GE526.out) | exact HB.out)) hb); clear BK526; clear HB; have BK526 := n0_; have HB := n1_; clear n0_ n1_; (try clear hb); (try clear hb2); (try clear hk); (try clear hi)))
        go_ret
        exact ⟨by first | rfl | (simp [errW_none, errW_some] <;> rfl) | (simp [*, errW_none, errW_some] <;> rfl), by repeat (first | (with_reducible first | exact HB.out | apply below_alloc | apply pw_below_drewN | apply below_drew1 | refine below_set ?_ GE526.out) | exact HB.out)⟩
       ·replace c55 := Bool.eq_false_iff.mpr c55
        subst c55
        have H1 : (none) = some r := by rw [if_neg (show ¬ (false = true) by decide)] at H; exact H
        clear H
        have H := H1
        clear H1
        exact absurd H (by simp)
      ·replace c53 := Bool.eq_false_iff.mpr c53
       subst c53
       have H1 : (none) = some r := by rw [if_neg (show ¬ (false = true) by decide)] at H; exact H
       clear H
       have H := H1
       clear H1
       exact absurd H (by simp)

/-! ### bit_Known: function 43 -/
def bit_Known.f (a0 : Int) : Option (Bool) := some (decide (a0 ≤ 1))
set_option maxHeartbeats 8000000 in
set_option maxRecDepth 100000 in
theorem bit_Known.calls (a0 : Int) (r : Bool) (w : World) (h : bit_Known.f a0 = some r) :
  Calls Tryd.prog 43 #[.int .u8 a0] w fun e w' => e = .returned (.bool r) ∧ Drawn0 w w' := by
 have H : (some (decide (a0 ≤ 1))) = some r := h
 clear h
 obtain rfl := Option.some.inj H
 go_enter Tryd.func43, Tryd.ntmps43
 go_wp2
 go_ret
 exact ⟨by first | rfl | (simp; done) | (simp [*]; done), by repeat (first | exact Drawn0.refl _ | apply Drawn0.step)⟩

end Go.Proofs.YtcgckodhehnpnaaDoor.F
