/- StrengthAlgebra: the interpreter answers true. -/
import Derived.Test.YtcgckodhehnpnaaDoorXO
set_option linter.unusedSimpArgs false
set_option linter.unusedVariables false
namespace Go.Proofs.YtcgckodhehnpnaaDoor.X
open Go Go.AL
set_option maxHeartbeats 1600000 in
theorem StrengthAlgebra_run {H : AH} {a0 a1 b0 b1 c0 c1 : Int} (hG : Gl H) : Run (Cx ext0) 5 [.agg ⟨[.int .i8 a0, .int .i8 a1]⟩, .agg ⟨[.int .i8 b0, .int .i8 b1]⟩, .agg ⟨[.int .i8 c0, .int .i8 c1]⟩] H fun r _ => r = .bool true := by
  refine Run.intro (fi := IR.fi5) (ext0_ok 5 (by decide)) (by kernel_rfl) ?_
  unfold IR.fi5
  simp only [envOf_cons, envOf_nil]
  refine Cw.seq ?_
  refine Cw.region ?_
  refine Ow.boxA (v := .agg ⟨[.int .i8 (a0), .int .i8 (a1)]⟩) rfl (by simp only [S0, Nat.reduceEqDiff, Nat.reduceAdd, reduceIte, reduceCtorEq, S1]) rfl ?_
  intro H1 hx1 hl1 bx1
  refine Ow.boxA (v := .agg ⟨[.int .i8 (b0), .int .i8 (b1)]⟩) rfl (by simp only [S0, Nat.reduceEqDiff, Nat.reduceAdd, reduceIte, reduceCtorEq, S1]) rfl ?_
  have ne3 : H1.n ≠ H.n := Nat.ne_of_gt bx1.1
  intro H2 hx2 hl2 bx2
  refine Ow.boxA (v := .agg ⟨[.int .i8 (c0), .int .i8 (c1)]⟩) rfl (by simp only [S0, Nat.reduceEqDiff, Nat.reduceAdd, reduceIte, reduceCtorEq, S1]) rfl ?_
  have bx1_6 := bx1.ext hx2
  have ne5 : H2.n ≠ H.n := Nat.ne_of_gt bx1_6.1
  have ne7 : H2.n ≠ H1.n := Nat.ne_of_gt bx2.1
  intro H4 hx4 hl4 bx4
  (refine Ow.popM rfl ?_; simp only [S0, Nat.reduceEqDiff, Nat.reduceAdd, reduceIte, reduceCtorEq, S1])
  refine Ow.nilM ⟨nofun, ?_⟩
  show Cw _ _ _ _ _
  refine Cw.seq ?_
  refine Cw.region2 ?_
  have hx8 : AL.Ext H4 { H4 with wl := H4.n } := AL.Ext.toMark _
  have bx1_9 := bx1_6.ext hx4
  have bx1_10 := bx1_9.ext hx8
  refine Ow.ldB (off := 0) (v := .agg ⟨[.int .i8 (a0), .int .i8 (a1)]⟩) rfl (by simp only [S0, Nat.reduceEqDiff, Nat.reduceAdd, reduceIte, reduceCtorEq, S1]) bx1_10 rfl ?_
  have bx2_11 := bx2.ext hx4
  have bx2_12 := bx2_11.ext hx8
  refine Ow.ldB (off := 0) (v := .agg ⟨[.int .i8 (b0), .int .i8 (b1)]⟩) rfl (by simp only [S0, Nat.reduceEqDiff, Nat.reduceAdd, reduceIte, reduceCtorEq, S1]) bx2_12 rfl ?_
  have bx4_13 := bx4.ext hx8
  refine Ow.ldB (off := 0) (v := .agg ⟨[.int .i8 (c0), .int .i8 (c1)]⟩) rfl (by simp only [S0, Nat.reduceEqDiff, Nat.reduceAdd, reduceIte, reduceCtorEq, S1]) bx4_13 rfl ?_
  refine Ow.newB rfl ?_
  have ne15 : ({ H4 with wl := H4.n } : AH).n ≠ H.n := Nat.ne_of_gt bx1_10.1
  have ne16 : ({ H4 with wl := H4.n } : AH).n ≠ H1.n := Nat.ne_of_gt bx2_12.1
  have ne17 : ({ H4 with wl := H4.n } : AH).n ≠ H2.n := Nat.ne_of_gt bx4_13.1
  intro H14 hx14 hl14 bx14
  refine Ow.newB rfl ?_
  have bx1_20 := bx1_10.ext hx14
  have ne19 : H14.n ≠ H.n := Nat.ne_of_gt bx1_20.1
  have bx2_22 := bx2_12.ext hx14
  have ne21 : H14.n ≠ H1.n := Nat.ne_of_gt bx2_22.1
  have bx4_24 := bx4_13.ext hx14
  have ne23 : H14.n ≠ H2.n := Nat.ne_of_gt bx4_24.1
  have ne25 : H14.n ≠ ({ H4 with wl := H4.n } : AH).n := Nat.ne_of_gt bx14.1
  intro H18 hx18 hl18 bx18
  refine Ow.newB rfl ?_
  have bx1_28 := bx1_20.ext hx18
  have ne27 : H18.n ≠ H.n := Nat.ne_of_gt bx1_28.1
  have bx2_30 := bx2_22.ext hx18
  have ne29 : H18.n ≠ H1.n := Nat.ne_of_gt bx2_30.1
  have bx4_32 := bx4_24.ext hx18
  have ne31 : H18.n ≠ H2.n := Nat.ne_of_gt bx4_32.1
  have bx14_34 := bx14.ext hx18
  have ne33 : H18.n ≠ ({ H4 with wl := H4.n } : AH).n := Nat.ne_of_gt bx14_34.1
  have ne35 : H18.n ≠ H14.n := Nat.ne_of_gt bx18.1
  intro H26 hx26 hl26 bx26
  have bx14_37 := bx14_34.ext hx26
  refine Ow.stB (H0 := ({ H4 with wl := H4.n } : AH)) (off := 0) (v := .agg ⟨[.int .i8 (a0), .int .i8 (a1)]⟩) (vs' := [.int .i8 (a0), .int .i8 (a1)]) rfl (by simp only [S0, Nat.reduceEqDiff, Nat.reduceAdd, reduceIte, reduceCtorEq, S1]) (by simp only [S0, Nat.reduceEqDiff, Nat.reduceAdd, reduceIte, reduceCtorEq, S1]) bx14_37 rfl rfl ((hx14.trans hx18).trans hx26) (Nat.le_refl _) ?_
  intro H36 hx36 hn36 hk36 bx14_36
  have bx1_38 := bx1_28.ext hx26
  have bx2_39 := bx2_30.ext hx26
  have bx4_40 := bx4_32.ext hx26
  have bx18_41 := bx18.ext hx26
  have ge42 : ({ H4 with wl := H4.n } : AH).n ≤ H14.n := Nat.le_trans (hx14).n (Nat.le_refl _)
  have ge43 : ({ H4 with wl := H4.n } : AH).n ≤ H18.n := Nat.le_trans ((hx14.trans hx18)).n (Nat.le_refl _)
  have bx1_44 := Bx.keep bx1_38 hn36 hk36 ne15.symm
  have bx2_45 := Bx.keep bx2_39 hn36 hk36 ne16.symm
  have bx4_46 := Bx.keep bx4_40 hn36 hk36 ne17.symm
  have bx18_47 := Bx.keep bx18_41 hn36 hk36 ne25
  have bx26_48 := Bx.keep bx26 hn36 hk36 ne33
  refine Ow.stB (H0 := ({ H4 with wl := H4.n } : AH)) (off := 0) (v := .agg ⟨[.int .i8 (b0), .int .i8 (b1)]⟩) (vs' := [.int .i8 (b0), .int .i8 (b1)]) rfl (by simp only [S0, Nat.reduceEqDiff, Nat.reduceAdd, reduceIte, reduceCtorEq, S1]) (by simp only [S0, Nat.reduceEqDiff, Nat.reduceAdd, reduceIte, reduceCtorEq, S1]) bx18_47 rfl rfl hx36 ge42 ?_
  intro H49 hx49 hn49 hk49 bx18_49
  have bx1_50 := Bx.keep bx1_44 hn49 hk49 ne19.symm
  have bx2_51 := Bx.keep bx2_45 hn49 hk49 ne21.symm
  have bx4_52 := Bx.keep bx4_46 hn49 hk49 ne23.symm
  have bx14_53 := Bx.keep bx14_36 hn49 hk49 ne25.symm
  have bx26_54 := Bx.keep bx26_48 hn49 hk49 ne35
  refine Ow.stB (H0 := ({ H4 with wl := H4.n } : AH)) (off := 0) (v := .agg ⟨[.int .i8 (c0), .int .i8 (c1)]⟩) (vs' := [.int .i8 (c0), .int .i8 (c1)]) rfl (by simp only [S0, Nat.reduceEqDiff, Nat.reduceAdd, reduceIte, reduceCtorEq, S1]) (by simp only [S0, Nat.reduceEqDiff, Nat.reduceAdd, reduceIte, reduceCtorEq, S1]) bx26_54 rfl rfl hx49 ge43 ?_
  intro H55 hx55 hn55 hk55 bx26_55
  have bx1_56 := Bx.keep bx1_50 hn55 hk55 ne27.symm
  have bx2_57 := Bx.keep bx2_51 hn55 hk55 ne29.symm
  have bx4_58 := Bx.keep bx4_52 hn55 hk55 ne31.symm
  have bx14_59 := Bx.keep bx14_53 hn55 hk55 ne33.symm
  have bx18_60 := Bx.keep bx18_49 hn55 hk55 ne35.symm
  refine Ow.nilM ⟨⟨AL.Ext.markWl hx55, by (try simp only [AL.mark, AL.oldLoad, S0, Nat.reduceEqDiff, Nat.reduceAdd, reduceIte, reduceCtorEq, eq_self, List.all_cons, List.all_nil, show Nat.blt H.n H4.n = true from Nat.ble_eq_true_of_le (Nat.lt_of_lt_of_le bx1_9.1 (Nat.le_refl _)), show Nat.blt H1.n H4.n = true from Nat.ble_eq_true_of_le (Nat.lt_of_lt_of_le bx2_11.1 (Nat.le_refl _)), show Nat.blt H2.n H4.n = true from Nat.ble_eq_true_of_le (Nat.lt_of_lt_of_le bx4.1 (Nat.le_refl _))]); first | rfl | decide⟩, ?_⟩
  intro y61 hy61
  have hx61 : AL.Ext H4 { H55 with wl := y61 } := AL.Ext.unmark hx55 hy61
  have bx1_62 := bx1_56.wl (x := y61)
  have bx2_63 := bx2_57.wl (x := y61)
  have bx4_64 := bx4_58.wl (x := y61)
  have bx26_65 := bx26_55.wl (x := y61)
  have bx14_66 := bx14_59.wl (x := y61)
  have bx18_67 := bx18_60.wl (x := y61)
  generalize ({ H55 with wl := y61 } : AH) = H61 at hx61 bx1_62 bx2_63 bx4_64 bx26_65 bx14_66 bx18_67 ⊢
  have ge68 : H4.n ≤ ({ H4 with wl := H4.n } : AH).n := Nat.le_trans (hx8).n (Nat.le_refl _)
  have ge69 : H4.n ≤ H14.n := Nat.le_trans (hx8).n ge42
  have ge70 : H4.n ≤ H18.n := Nat.le_trans (hx8).n ge43
  show Cw _ _ _ _ _
  refine Cw.seq ?_
  refine Cw.region ?_
  refine Ow.ldB (off := 0) (v := .agg ⟨[.int .i8 (a0), .int .i8 (a1)]⟩) rfl (by simp only [S0, Nat.reduceEqDiff, Nat.reduceAdd, reduceIte, reduceCtorEq, S1]) bx14_66 rfl ?_
  refine Ow.ldB (off := 0) (v := .agg ⟨[.int .i8 (b0), .int .i8 (b1)]⟩) rfl (by simp only [S0, Nat.reduceEqDiff, Nat.reduceAdd, reduceIte, reduceCtorEq, S1]) bx18_67 rfl ?_
  refine Ow.ldB (off := 0) (v := .agg ⟨[.int .i8 (c0), .int .i8 (c1)]⟩) rfl (by simp only [S0, Nat.reduceEqDiff, Nat.reduceAdd, reduceIte, reduceCtorEq, S1]) bx26_65 rfl ?_
  refine Ow.newA (b := ⟨[.int .i8 (a0), .int .i8 (a1), .int .i8 (b0), .int .i8 (b1), .int .i8 (c0), .int .i8 (c1)], 0⟩) (v := .slice (some ⟨H61.n, 0, none⟩) 3 3) rfl rfl rfl (by simp only [S0, Nat.reduceEqDiff, Nat.reduceAdd, reduceIte, reduceCtorEq, S2, show Nat.ble 2 6 = true from rfl, show Nat.ble 4 6 = true from rfl, show Nat.ble 6 6 = true from rfl, show Nat.beq 2 2 = true from rfl, Nat.reduceAdd, Nat.reduceMul]) ?_
  intro H71 hx71 hl71 hg71
  have hb71 : Bx H71 H61.n (flat [(a0, a1), (b0, b1), (c0, c1)]) := ⟨hl71, hg71⟩
  refine Ow.callA (k := 20) (fs := []) (cs := []) (vs := [.slice (some ⟨H61.n, 0, none⟩) 3 3]) rfl rfl (by simp only [S0, Nat.reduceEqDiff, Nat.reduceAdd, reduceIte, reduceCtorEq, S1]) (combine_any ext0_ok (l := [(a0, a1), (b0, b1), (c0, c1)]) hb71 (by simp)) (fun _ _ _ h => h) ?_
  rintro _ H72 hx72 rfl
  refine Ow.newB rfl ?_
  have bx1_75 := bx1_62.ext hx71
  have bx1_76 := bx1_75.ext hx72
  have ne74 : H72.n ≠ H.n := Nat.ne_of_gt bx1_76.1
  have bx2_78 := bx2_63.ext hx71
  have bx2_79 := bx2_78.ext hx72
  have ne77 : H72.n ≠ H1.n := Nat.ne_of_gt bx2_79.1
  have bx4_81 := bx4_64.ext hx71
  have bx4_82 := bx4_81.ext hx72
  have ne80 : H72.n ≠ H2.n := Nat.ne_of_gt bx4_82.1
  have bx14_84 := bx14_66.ext hx71
  have bx14_85 := bx14_84.ext hx72
  have ne83 : H72.n ≠ ({ H4 with wl := H4.n } : AH).n := Nat.ne_of_gt bx14_85.1
  have bx18_87 := bx18_67.ext hx71
  have bx18_88 := bx18_87.ext hx72
  have ne86 : H72.n ≠ H14.n := Nat.ne_of_gt bx18_88.1
  have bx26_90 := bx26_65.ext hx71
  have bx26_91 := bx26_90.ext hx72
  have ne89 : H72.n ≠ H18.n := Nat.ne_of_gt bx26_91.1
  intro H73 hx73 hl73 bx73
  refine Ow.stB (H0 := H72) (off := 0) (v := .agg ⟨[.int .i8 ((cb [(a0, a1), (b0, b1), (c0, c1)]).1), .int .i8 ((cb [(a0, a1), (b0, b1), (c0, c1)]).2)]⟩) (vs' := [.int .i8 ((cb [(a0, a1), (b0, b1), (c0, c1)]).1), .int .i8 ((cb [(a0, a1), (b0, b1), (c0, c1)]).2)]) rfl (by simp only [S0, Nat.reduceEqDiff, Nat.reduceAdd, reduceIte, reduceCtorEq, S1]) (by simp only [S0, Nat.reduceEqDiff, Nat.reduceAdd, reduceIte, reduceCtorEq, S1]) bx73 rfl rfl hx73 (Nat.le_refl _) ?_
  intro H92 hx92 hn92 hk92 bx73_92
  refine Ow.nilM ⟨nofun, ?_⟩
  show Cw _ _ _ _ _
  refine Cw.seq ?_
  refine Cw.region ?_
  have bx14_93 := bx14_85.ext hx92
  refine Ow.ldB (off := 0) (v := .agg ⟨[.int .i8 (a0), .int .i8 (a1)]⟩) rfl (by simp only [S0, Nat.reduceEqDiff, Nat.reduceAdd, reduceIte, reduceCtorEq, S1]) bx14_93 rfl ?_
  have bx18_94 := bx18_88.ext hx92
  refine Ow.ldB (off := 0) (v := .agg ⟨[.int .i8 (b0), .int .i8 (b1)]⟩) rfl (by simp only [S0, Nat.reduceEqDiff, Nat.reduceAdd, reduceIte, reduceCtorEq, S1]) bx18_94 rfl ?_
  refine Ow.newA (b := ⟨[.int .i8 (a0), .int .i8 (a1), .int .i8 (b0), .int .i8 (b1)], 0⟩) (v := .slice (some ⟨H92.n, 0, none⟩) 2 2) rfl rfl rfl (by simp only [S0, Nat.reduceEqDiff, Nat.reduceAdd, reduceIte, reduceCtorEq, S2, show Nat.ble 2 4 = true from rfl, show Nat.ble 4 4 = true from rfl, show Nat.beq 2 2 = true from rfl, Nat.reduceAdd, Nat.reduceMul]) ?_
  intro H95 hx95 hl95 hg95
  have hb95 : Bx H95 H92.n (flat [(a0, a1), (b0, b1)]) := ⟨hl95, hg95⟩
  refine Ow.callA (k := 20) (fs := []) (cs := []) (vs := [.slice (some ⟨H92.n, 0, none⟩) 2 2]) rfl rfl (by simp only [S0, Nat.reduceEqDiff, Nat.reduceAdd, reduceIte, reduceCtorEq, S1]) (combine_any ext0_ok (l := [(a0, a1), (b0, b1)]) hb95 (by simp)) (fun _ _ _ h => h) ?_
  rintro _ H96 hx96 rfl
  have bx18_97 := bx18_94.ext hx95
  have bx18_98 := bx18_97.ext hx96
  refine Ow.ldB (off := 0) (v := .agg ⟨[.int .i8 (b0), .int .i8 (b1)]⟩) rfl (by simp only [S0, Nat.reduceEqDiff, Nat.reduceAdd, reduceIte, reduceCtorEq, S1]) bx18_98 rfl ?_
  refine Ow.gen (fun E => E.get 7 = some (.pointer (some ⟨({ H4 with wl := H4.n } : AH).n, 0, none⟩)) ∧ E.get 8 = some (.pointer (some ⟨H14.n, 0, none⟩)) ∧ E.get 9 = some (.pointer (some ⟨H18.n, 0, none⟩)) ∧ E.get 10 = some (.pointer (some ⟨H72.n, 0, none⟩)) ∧ E.get 22 = some (.agg ⟨[.int .i8 ((cb [(a0, a1), (b0, b1)]).1), .int .i8 ((cb [(a0, a1), (b0, b1)]).2)]⟩) ∧ E.get 23 = some (.agg ⟨[.int .i8 (b0), .int .i8 (b1)]⟩)) ⟨(by simp only [S0, Nat.reduceEqDiff, Nat.reduceAdd, reduceIte, reduceCtorEq, S1, and_self]), (by simp only [S0, Nat.reduceEqDiff, Nat.reduceAdd, reduceIte, reduceCtorEq, S1, and_self]), (by simp only [S0, Nat.reduceEqDiff, Nat.reduceAdd, reduceIte, reduceCtorEq, S1, and_self]), (by simp only [S0, Nat.reduceEqDiff, Nat.reduceAdd, reduceIte, reduceCtorEq, S1, and_self]), (by simp only [S0, Nat.reduceEqDiff, Nat.reduceAdd, reduceIte, reduceCtorEq, S1, and_self]), (by simp only [S0, Nat.reduceEqDiff, Nat.reduceAdd, reduceIte, reduceCtorEq, S1, and_self])⟩ ?_
  rintro E99 ⟨g99_7, g99_8, g99_9, g99_10, g99_22, g99_23⟩
  have bx14_100 := bx14_93.ext hx95
  have bx14_101 := bx14_100.ext hx96
  refine Ow.ldB (off := 0) (v := .agg ⟨[.int .i8 (a0), .int .i8 (a1)]⟩) rfl (by simp only [S0, Nat.reduceEqDiff, Nat.reduceAdd, reduceIte, reduceCtorEq, S1, g99_7, g99_8, g99_9, g99_10, g99_22, g99_23]) bx14_101 rfl ?_
  refine Ow.newA (b := ⟨[.int .i8 (b0), .int .i8 (b1), .int .i8 (a0), .int .i8 (a1)], 0⟩) (v := .slice (some ⟨H96.n, 0, none⟩) 2 2) rfl rfl rfl (by simp only [S0, Nat.reduceEqDiff, Nat.reduceAdd, reduceIte, reduceCtorEq, S2, show Nat.ble 2 4 = true from rfl, show Nat.ble 4 4 = true from rfl, show Nat.beq 2 2 = true from rfl, Nat.reduceAdd, Nat.reduceMul, g99_7, g99_8, g99_9, g99_10, g99_22, g99_23]) ?_
  intro H102 hx102 hl102 hg102
  have hb102 : Bx H102 H96.n (flat [(b0, b1), (a0, a1)]) := ⟨hl102, hg102⟩
  refine Ow.callA (k := 20) (fs := []) (cs := []) (vs := [.slice (some ⟨H96.n, 0, none⟩) 2 2]) rfl rfl (by simp only [S0, Nat.reduceEqDiff, Nat.reduceAdd, reduceIte, reduceCtorEq, S1, g99_7, g99_8, g99_9, g99_10, g99_22, g99_23]) (combine_any ext0_ok (l := [(b0, b1), (a0, a1)]) hb102 (by simp)) (fun _ _ _ h => h) ?_
  rintro _ H103 hx103 rfl
  have heq104 : ((cb [(a0, a1), (b0, b1)]).1 == (cb [(b0, b1), (a0, a1)]).1 && ((cb [(a0, a1), (b0, b1)]).2 == (cb [(b0, b1), (a0, a1)]).2 && true)) = true := eqv (alg1 (a0, a1) (b0, b1))
  (refine Ow.popM rfl ?_; simp only [S0, Nat.reduceEqDiff, Nat.reduceAdd, reduceIte, reduceCtorEq, S1, g99_7, g99_8, g99_9, g99_10, g99_22, g99_23, heq104])
  (refine Ow.popM rfl ?_; simp only [S0, Nat.reduceEqDiff, Nat.reduceAdd, reduceIte, reduceCtorEq, S1, g99_7, g99_8, g99_9, g99_10, g99_22, g99_23, heq104])
  have bx26_105 := bx26_91.ext hx92
  have bx26_106 := bx26_105.ext hx95
  have bx26_107 := bx26_106.ext hx96
  have bx26_108 := bx26_107.ext hx102
  have bx26_109 := bx26_108.ext hx103
  refine Ow.ldB (off := 0) (v := .agg ⟨[.int .i8 (c0), .int .i8 (c1)]⟩) (by simp only [S0, Nat.reduceEqDiff, Nat.reduceAdd, reduceIte, reduceCtorEq, S1, g99_7, g99_8, g99_9, g99_10, g99_22, g99_23, heq104]) (by simp only [S0, Nat.reduceEqDiff, Nat.reduceAdd, reduceIte, reduceCtorEq, S1, g99_7, g99_8, g99_9, g99_10, g99_22, g99_23, heq104]) bx26_109 rfl ?_
  have bx14_110 := bx14_101.ext hx102
  have bx14_111 := bx14_110.ext hx103
  refine Ow.ldB (off := 0) (v := .agg ⟨[.int .i8 (a0), .int .i8 (a1)]⟩) (by simp only [S0, Nat.reduceEqDiff, Nat.reduceAdd, reduceIte, reduceCtorEq, S1, g99_7, g99_8, g99_9, g99_10, g99_22, g99_23, heq104]) (by simp only [S0, Nat.reduceEqDiff, Nat.reduceAdd, reduceIte, reduceCtorEq, S1, g99_7, g99_8, g99_9, g99_10, g99_22, g99_23, heq104]) bx14_111 rfl ?_
  have bx18_112 := bx18_98.ext hx102
  have bx18_113 := bx18_112.ext hx103
  refine Ow.ldB (off := 0) (v := .agg ⟨[.int .i8 (b0), .int .i8 (b1)]⟩) (by simp only [S0, Nat.reduceEqDiff, Nat.reduceAdd, reduceIte, reduceCtorEq, S1, g99_7, g99_8, g99_9, g99_10, g99_22, g99_23, heq104]) (by simp only [S0, Nat.reduceEqDiff, Nat.reduceAdd, reduceIte, reduceCtorEq, S1, g99_7, g99_8, g99_9, g99_10, g99_22, g99_23, heq104]) bx18_113 rfl ?_
  refine Ow.newA (b := ⟨[.int .i8 (c0), .int .i8 (c1), .int .i8 (a0), .int .i8 (a1), .int .i8 (b0), .int .i8 (b1)], 0⟩) (v := .slice (some ⟨H103.n, 0, none⟩) 3 3) (by simp only [S0, Nat.reduceEqDiff, Nat.reduceAdd, reduceIte, reduceCtorEq, S1, g99_7, g99_8, g99_9, g99_10, g99_22, g99_23, heq104]) rfl rfl (by simp only [S0, Nat.reduceEqDiff, Nat.reduceAdd, reduceIte, reduceCtorEq, S2, show Nat.ble 2 6 = true from rfl, show Nat.ble 4 6 = true from rfl, show Nat.ble 6 6 = true from rfl, show Nat.beq 2 2 = true from rfl, Nat.reduceAdd, Nat.reduceMul, g99_7, g99_8, g99_9, g99_10, g99_22, g99_23, heq104]) ?_
  intro H114 hx114 hl114 hg114
  have hb114 : Bx H114 H103.n (flat [(c0, c1), (a0, a1), (b0, b1)]) := ⟨hl114, hg114⟩
  refine Ow.callA (k := 20) (fs := []) (cs := []) (vs := [.slice (some ⟨H103.n, 0, none⟩) 3 3]) (by simp only [S0, Nat.reduceEqDiff, Nat.reduceAdd, reduceIte, reduceCtorEq, S1, g99_7, g99_8, g99_9, g99_10, g99_22, g99_23, heq104]) rfl (by simp only [S0, Nat.reduceEqDiff, Nat.reduceAdd, reduceIte, reduceCtorEq, S1, g99_7, g99_8, g99_9, g99_10, g99_22, g99_23, heq104]) (combine_any ext0_ok (l := [(c0, c1), (a0, a1), (b0, b1)]) hb114 (by simp)) (fun _ _ _ h => h) ?_
  rintro _ H115 hx115 rfl
  have bx73_116 := bx73_92.ext hx95
  have bx73_117 := bx73_116.ext hx96
  have bx73_118 := bx73_117.ext hx102
  have bx73_119 := bx73_118.ext hx103
  have bx73_120 := bx73_119.ext hx114
  have bx73_121 := bx73_120.ext hx115
  refine Ow.ldB (off := 0) (v := .agg ⟨[.int .i8 ((cb [(a0, a1), (b0, b1), (c0, c1)]).1), .int .i8 ((cb [(a0, a1), (b0, b1), (c0, c1)]).2)]⟩) (by simp only [S0, Nat.reduceEqDiff, Nat.reduceAdd, reduceIte, reduceCtorEq, S1, g99_7, g99_8, g99_9, g99_10, g99_22, g99_23, heq104]) (by simp only [S0, Nat.reduceEqDiff, Nat.reduceAdd, reduceIte, reduceCtorEq, S1, g99_7, g99_8, g99_9, g99_10, g99_22, g99_23, heq104]) bx73_121 rfl ?_
  have heq122 : ((cb [(c0, c1), (a0, a1), (b0, b1)]).1 == (cb [(a0, a1), (b0, b1), (c0, c1)]).1 && ((cb [(c0, c1), (a0, a1), (b0, b1)]).2 == (cb [(a0, a1), (b0, b1), (c0, c1)]).2 && true)) = true := eqv (alg2 (a0, a1) (b0, b1) (c0, c1))
  (refine Ow.popM rfl ?_; simp only [S0, Nat.reduceEqDiff, Nat.reduceAdd, reduceIte, reduceCtorEq, S1, g99_7, g99_8, g99_9, g99_10, g99_22, g99_23, heq104, heq122])
  iterate 2 (refine Ow.popM rfl ?_; simp only [S0, Nat.reduceEqDiff, Nat.reduceAdd, reduceIte, reduceCtorEq, S1, g99_7, g99_8, g99_9, g99_10, g99_22, g99_23, heq104, heq122])
  have bx14_123 := bx14_111.ext hx114
  have bx14_124 := bx14_123.ext hx115
  refine Ow.ldB (off := 0) (v := .agg ⟨[.int .i8 (a0), .int .i8 (a1)]⟩) (by simp only [S0, Nat.reduceEqDiff, Nat.reduceAdd, reduceIte, reduceCtorEq, S1, g99_7, g99_8, g99_9, g99_10, g99_22, g99_23, heq104, heq122]) (by simp only [S0, Nat.reduceEqDiff, Nat.reduceAdd, reduceIte, reduceCtorEq, S1, g99_7, g99_8, g99_9, g99_10, g99_22, g99_23, heq104, heq122]) bx14_124 rfl ?_
  have bx18_125 := bx18_113.ext hx114
  have bx18_126 := bx18_125.ext hx115
  refine Ow.ldB (off := 0) (v := .agg ⟨[.int .i8 (b0), .int .i8 (b1)]⟩) (by simp only [S0, Nat.reduceEqDiff, Nat.reduceAdd, reduceIte, reduceCtorEq, S1, g99_7, g99_8, g99_9, g99_10, g99_22, g99_23, heq104, heq122]) (by simp only [S0, Nat.reduceEqDiff, Nat.reduceAdd, reduceIte, reduceCtorEq, S1, g99_7, g99_8, g99_9, g99_10, g99_22, g99_23, heq104, heq122]) bx18_126 rfl ?_
  refine Ow.newA (b := ⟨[.int .i8 (a0), .int .i8 (a1), .int .i8 (b0), .int .i8 (b1)], 0⟩) (v := .slice (some ⟨H115.n, 0, none⟩) 2 2) (by simp only [S0, Nat.reduceEqDiff, Nat.reduceAdd, reduceIte, reduceCtorEq, S1, g99_7, g99_8, g99_9, g99_10, g99_22, g99_23, heq104, heq122]) rfl rfl (by simp only [S0, Nat.reduceEqDiff, Nat.reduceAdd, reduceIte, reduceCtorEq, S2, show Nat.ble 2 4 = true from rfl, show Nat.ble 4 4 = true from rfl, show Nat.beq 2 2 = true from rfl, Nat.reduceAdd, Nat.reduceMul, g99_7, g99_8, g99_9, g99_10, g99_22, g99_23, heq104, heq122]) ?_
  intro H127 hx127 hl127 hg127
  have hb127 : Bx H127 H115.n (flat [(a0, a1), (b0, b1)]) := ⟨hl127, hg127⟩
  refine Ow.callA (k := 20) (fs := []) (cs := []) (vs := [.slice (some ⟨H115.n, 0, none⟩) 2 2]) (by simp only [S0, Nat.reduceEqDiff, Nat.reduceAdd, reduceIte, reduceCtorEq, S1, g99_7, g99_8, g99_9, g99_10, g99_22, g99_23, heq104, heq122]) rfl (by simp only [S0, Nat.reduceEqDiff, Nat.reduceAdd, reduceIte, reduceCtorEq, S1, g99_7, g99_8, g99_9, g99_10, g99_22, g99_23, heq104, heq122]) (combine_any ext0_ok (l := [(a0, a1), (b0, b1)]) hb127 (by simp)) (fun _ _ _ h => h) ?_
  rintro _ H128 hx128 rfl
  have bx26_129 := bx26_109.ext hx114
  have bx26_130 := bx26_129.ext hx115
  have bx26_131 := bx26_130.ext hx127
  have bx26_132 := bx26_131.ext hx128
  refine Ow.ldB (off := 0) (v := .agg ⟨[.int .i8 (c0), .int .i8 (c1)]⟩) (by simp only [S0, Nat.reduceEqDiff, Nat.reduceAdd, reduceIte, reduceCtorEq, S1, g99_7, g99_8, g99_9, g99_10, g99_22, g99_23, heq104, heq122]) (by simp only [S0, Nat.reduceEqDiff, Nat.reduceAdd, reduceIte, reduceCtorEq, S1, g99_7, g99_8, g99_9, g99_10, g99_22, g99_23, heq104, heq122]) bx26_132 rfl ?_
  refine Ow.newA (b := ⟨[.int .i8 ((cb [(a0, a1), (b0, b1)]).1), .int .i8 ((cb [(a0, a1), (b0, b1)]).2), .int .i8 (c0), .int .i8 (c1)], 0⟩) (v := .slice (some ⟨H128.n, 0, none⟩) 2 2) (by simp only [S0, Nat.reduceEqDiff, Nat.reduceAdd, reduceIte, reduceCtorEq, S1, g99_7, g99_8, g99_9, g99_10, g99_22, g99_23, heq104, heq122]) rfl rfl (by simp only [S0, Nat.reduceEqDiff, Nat.reduceAdd, reduceIte, reduceCtorEq, S2, show Nat.ble 2 4 = true from rfl, show Nat.ble 4 4 = true from rfl, show Nat.beq 2 2 = true from rfl, Nat.reduceAdd, Nat.reduceMul, g99_7, g99_8, g99_9, g99_10, g99_22, g99_23, heq104, heq122]) ?_
  intro H133 hx133 hl133 hg133
  have hb133 : Bx H133 H128.n (flat [((cb [(a0, a1), (b0, b1)]).1, (cb [(a0, a1), (b0, b1)]).2), (c0, c1)]) := ⟨hl133, hg133⟩
  refine Ow.callA (k := 20) (fs := []) (cs := []) (vs := [.slice (some ⟨H128.n, 0, none⟩) 2 2]) (by simp only [S0, Nat.reduceEqDiff, Nat.reduceAdd, reduceIte, reduceCtorEq, S1, g99_7, g99_8, g99_9, g99_10, g99_22, g99_23, heq104, heq122]) rfl (by simp only [S0, Nat.reduceEqDiff, Nat.reduceAdd, reduceIte, reduceCtorEq, S1, g99_7, g99_8, g99_9, g99_10, g99_22, g99_23, heq104, heq122]) (combine_any ext0_ok (l := [((cb [(a0, a1), (b0, b1)]).1, (cb [(a0, a1), (b0, b1)]).2), (c0, c1)]) hb133 (by simp)) (fun _ _ _ h => h) ?_
  rintro _ H134 hx134 rfl
  have bx73_135 := bx73_121.ext hx127
  have bx73_136 := bx73_135.ext hx128
  have bx73_137 := bx73_136.ext hx133
  have bx73_138 := bx73_137.ext hx134
  refine Ow.ldB (off := 0) (v := .agg ⟨[.int .i8 ((cb [(a0, a1), (b0, b1), (c0, c1)]).1), .int .i8 ((cb [(a0, a1), (b0, b1), (c0, c1)]).2)]⟩) (by simp only [S0, Nat.reduceEqDiff, Nat.reduceAdd, reduceIte, reduceCtorEq, S1, g99_7, g99_8, g99_9, g99_10, g99_22, g99_23, heq104, heq122]) (by simp only [S0, Nat.reduceEqDiff, Nat.reduceAdd, reduceIte, reduceCtorEq, S1, g99_7, g99_8, g99_9, g99_10, g99_22, g99_23, heq104, heq122]) bx73_138 rfl ?_
  have heq139 : ((cb [((cb [(a0, a1), (b0, b1)]).1, (cb [(a0, a1), (b0, b1)]).2), (c0, c1)]).1 == (cb [(a0, a1), (b0, b1), (c0, c1)]).1 && ((cb [((cb [(a0, a1), (b0, b1)]).1, (cb [(a0, a1), (b0, b1)]).2), (c0, c1)]).2 == (cb [(a0, a1), (b0, b1), (c0, c1)]).2 && true)) = true := eqv (alg3 (a0, a1) (b0, b1) (c0, c1))
  (refine Ow.popM rfl ?_; simp only [S0, Nat.reduceEqDiff, Nat.reduceAdd, reduceIte, reduceCtorEq, S1, g99_7, g99_8, g99_9, g99_10, g99_22, g99_23, heq104, heq122, heq139])
  iterate 2 (refine Ow.popM rfl ?_; simp only [S0, Nat.reduceEqDiff, Nat.reduceAdd, reduceIte, reduceCtorEq, S1, g99_7, g99_8, g99_9, g99_10, g99_22, g99_23, heq104, heq122, heq139])
  refine Ow.gen (fun E => E.get 7 = some (.pointer (some ⟨({ H4 with wl := H4.n } : AH).n, 0, none⟩)) ∧ E.get 8 = some (.pointer (some ⟨H14.n, 0, none⟩)) ∧ E.get 9 = some (.pointer (some ⟨H18.n, 0, none⟩)) ∧ E.get 10 = some (.pointer (some ⟨H72.n, 0, none⟩)) ∧ E.get 48 = some (.bool true)) ⟨(by simp only [S0, Nat.reduceEqDiff, Nat.reduceAdd, reduceIte, reduceCtorEq, S1, and_self, g99_7, g99_8, g99_9, g99_10, g99_22, g99_23, heq104, heq122, heq139]), (by simp only [S0, Nat.reduceEqDiff, Nat.reduceAdd, reduceIte, reduceCtorEq, S1, and_self, g99_7, g99_8, g99_9, g99_10, g99_22, g99_23, heq104, heq122, heq139]), (by simp only [S0, Nat.reduceEqDiff, Nat.reduceAdd, reduceIte, reduceCtorEq, S1, and_self, g99_7, g99_8, g99_9, g99_10, g99_22, g99_23, heq104, heq122, heq139]), (by simp only [S0, Nat.reduceEqDiff, Nat.reduceAdd, reduceIte, reduceCtorEq, S1, and_self, g99_7, g99_8, g99_9, g99_10, g99_22, g99_23, heq104, heq122, heq139]), (by simp only [S0, Nat.reduceEqDiff, Nat.reduceAdd, reduceIte, reduceCtorEq, S1, and_self, g99_7, g99_8, g99_9, g99_10, g99_22, g99_23, heq104, heq122, heq139])⟩ ?_
  rintro E140 ⟨g140_7, g140_8, g140_9, g140_10, g140_48⟩
  have bx14_141 := bx14_124.ext hx127
  have bx14_142 := bx14_141.ext hx128
  have bx14_143 := bx14_142.ext hx133
  have bx14_144 := bx14_143.ext hx134
  refine Ow.ldB (off := 0) (v := .agg ⟨[.int .i8 (a0), .int .i8 (a1)]⟩) (by simp only [S0, Nat.reduceEqDiff, Nat.reduceAdd, reduceIte, reduceCtorEq, S1, g140_7, g140_8, g140_9, g140_10, g140_48, heq104, heq122, heq139]) (by simp only [S0, Nat.reduceEqDiff, Nat.reduceAdd, reduceIte, reduceCtorEq, S1, g140_7, g140_8, g140_9, g140_10, g140_48, heq104, heq122, heq139]) bx14_144 rfl ?_
  have bx18_145 := bx18_126.ext hx127
  have bx18_146 := bx18_145.ext hx128
  have bx18_147 := bx18_146.ext hx133
  have bx18_148 := bx18_147.ext hx134
  refine Ow.ldB (off := 0) (v := .agg ⟨[.int .i8 (b0), .int .i8 (b1)]⟩) (by simp only [S0, Nat.reduceEqDiff, Nat.reduceAdd, reduceIte, reduceCtorEq, S1, g140_7, g140_8, g140_9, g140_10, g140_48, heq104, heq122, heq139]) (by simp only [S0, Nat.reduceEqDiff, Nat.reduceAdd, reduceIte, reduceCtorEq, S1, g140_7, g140_8, g140_9, g140_10, g140_48, heq104, heq122, heq139]) bx18_148 rfl ?_
  have bx26_149 := bx26_132.ext hx133
  have bx26_150 := bx26_149.ext hx134
  refine Ow.ldB (off := 0) (v := .agg ⟨[.int .i8 (c0), .int .i8 (c1)]⟩) (by simp only [S0, Nat.reduceEqDiff, Nat.reduceAdd, reduceIte, reduceCtorEq, S1, g140_7, g140_8, g140_9, g140_10, g140_48, heq104, heq122, heq139]) (by simp only [S0, Nat.reduceEqDiff, Nat.reduceAdd, reduceIte, reduceCtorEq, S1, g140_7, g140_8, g140_9, g140_10, g140_48, heq104, heq122, heq139]) bx26_150 rfl ?_
  refine Ow.newA (b := ⟨[.int .i8 (b0), .int .i8 (b1), .int .i8 (c0), .int .i8 (c1)], 0⟩) (v := .slice (some ⟨H134.n, 0, none⟩) 2 2) (by simp only [S0, Nat.reduceEqDiff, Nat.reduceAdd, reduceIte, reduceCtorEq, S1, g140_7, g140_8, g140_9, g140_10, g140_48, heq104, heq122, heq139]) rfl rfl (by simp only [S0, Nat.reduceEqDiff, Nat.reduceAdd, reduceIte, reduceCtorEq, S2, show Nat.ble 2 4 = true from rfl, show Nat.ble 4 4 = true from rfl, show Nat.beq 2 2 = true from rfl, Nat.reduceAdd, Nat.reduceMul, g140_7, g140_8, g140_9, g140_10, g140_48, heq104, heq122, heq139]) ?_
  intro H151 hx151 hl151 hg151
  have hb151 : Bx H151 H134.n (flat [(b0, b1), (c0, c1)]) := ⟨hl151, hg151⟩
  refine Ow.callA (k := 20) (fs := []) (cs := []) (vs := [.slice (some ⟨H134.n, 0, none⟩) 2 2]) (by simp only [S0, Nat.reduceEqDiff, Nat.reduceAdd, reduceIte, reduceCtorEq, S1, g140_7, g140_8, g140_9, g140_10, g140_48, heq104, heq122, heq139]) rfl (by simp only [S0, Nat.reduceEqDiff, Nat.reduceAdd, reduceIte, reduceCtorEq, S1, g140_7, g140_8, g140_9, g140_10, g140_48, heq104, heq122, heq139]) (combine_any ext0_ok (l := [(b0, b1), (c0, c1)]) hb151 (by simp)) (fun _ _ _ h => h) ?_
  rintro _ H152 hx152 rfl
  refine Ow.newA (b := ⟨[.int .i8 (a0), .int .i8 (a1), .int .i8 ((cb [(b0, b1), (c0, c1)]).1), .int .i8 ((cb [(b0, b1), (c0, c1)]).2)], 0⟩) (v := .slice (some ⟨H152.n, 0, none⟩) 2 2) (by simp only [S0, Nat.reduceEqDiff, Nat.reduceAdd, reduceIte, reduceCtorEq, S1, g140_7, g140_8, g140_9, g140_10, g140_48, heq104, heq122, heq139]) rfl rfl (by simp only [S0, Nat.reduceEqDiff, Nat.reduceAdd, reduceIte, reduceCtorEq, S2, show Nat.ble 2 4 = true from rfl, show Nat.ble 4 4 = true from rfl, show Nat.beq 2 2 = true from rfl, Nat.reduceAdd, Nat.reduceMul, g140_7, g140_8, g140_9, g140_10, g140_48, heq104, heq122, heq139]) ?_
  intro H153 hx153 hl153 hg153
  have hb153 : Bx H153 H152.n (flat [(a0, a1), ((cb [(b0, b1), (c0, c1)]).1, (cb [(b0, b1), (c0, c1)]).2)]) := ⟨hl153, hg153⟩
  refine Ow.callA (k := 20) (fs := []) (cs := []) (vs := [.slice (some ⟨H152.n, 0, none⟩) 2 2]) (by simp only [S0, Nat.reduceEqDiff, Nat.reduceAdd, reduceIte, reduceCtorEq, S1, g140_7, g140_8, g140_9, g140_10, g140_48, heq104, heq122, heq139]) rfl (by simp only [S0, Nat.reduceEqDiff, Nat.reduceAdd, reduceIte, reduceCtorEq, S1, g140_7, g140_8, g140_9, g140_10, g140_48, heq104, heq122, heq139]) (combine_any ext0_ok (l := [(a0, a1), ((cb [(b0, b1), (c0, c1)]).1, (cb [(b0, b1), (c0, c1)]).2)]) hb153 (by simp)) (fun _ _ _ h => h) ?_
  rintro _ H154 hx154 rfl
  have bx73_155 := bx73_138.ext hx151
  have bx73_156 := bx73_155.ext hx152
  have bx73_157 := bx73_156.ext hx153
  have bx73_158 := bx73_157.ext hx154
  refine Ow.ldB (off := 0) (v := .agg ⟨[.int .i8 ((cb [(a0, a1), (b0, b1), (c0, c1)]).1), .int .i8 ((cb [(a0, a1), (b0, b1), (c0, c1)]).2)]⟩) (by simp only [S0, Nat.reduceEqDiff, Nat.reduceAdd, reduceIte, reduceCtorEq, S1, g140_7, g140_8, g140_9, g140_10, g140_48, heq104, heq122, heq139]) (by simp only [S0, Nat.reduceEqDiff, Nat.reduceAdd, reduceIte, reduceCtorEq, S1, g140_7, g140_8, g140_9, g140_10, g140_48, heq104, heq122, heq139]) bx73_158 rfl ?_
  have heq159 : ((cb [(a0, a1), ((cb [(b0, b1), (c0, c1)]).1, (cb [(b0, b1), (c0, c1)]).2)]).1 == (cb [(a0, a1), (b0, b1), (c0, c1)]).1 && ((cb [(a0, a1), ((cb [(b0, b1), (c0, c1)]).1, (cb [(b0, b1), (c0, c1)]).2)]).2 == (cb [(a0, a1), (b0, b1), (c0, c1)]).2 && true)) = true := eqv (alg4 (a0, a1) (b0, b1) (c0, c1))
  (refine Ow.popM rfl ?_; simp only [S0, Nat.reduceEqDiff, Nat.reduceAdd, reduceIte, reduceCtorEq, S1, g140_7, g140_8, g140_9, g140_10, g140_48, heq104, heq122, heq139, heq159])
  iterate 2 (refine Ow.popM rfl ?_; simp only [S0, Nat.reduceEqDiff, Nat.reduceAdd, reduceIte, reduceCtorEq, S1, g140_7, g140_8, g140_9, g140_10, g140_48, heq104, heq122, heq139, heq159])
  have bx14_160 := bx14_144.ext hx151
  have bx14_161 := bx14_160.ext hx152
  have bx14_162 := bx14_161.ext hx153
  have bx14_163 := bx14_162.ext hx154
  refine Ow.ldB (off := 0) (v := .agg ⟨[.int .i8 (a0), .int .i8 (a1)]⟩) (by simp only [S0, Nat.reduceEqDiff, Nat.reduceAdd, reduceIte, reduceCtorEq, S1, g140_7, g140_8, g140_9, g140_10, g140_48, heq104, heq122, heq139, heq159]) (by simp only [S0, Nat.reduceEqDiff, Nat.reduceAdd, reduceIte, reduceCtorEq, S1, g140_7, g140_8, g140_9, g140_10, g140_48, heq104, heq122, heq139, heq159]) bx14_163 rfl ?_
  refine Ow.callA (k := 21) (fs := []) (cs := []) (vs := [.int .i8 (0), .int .i8 (0)]) (by simp only [S0, Nat.reduceEqDiff, Nat.reduceAdd, reduceIte, reduceCtorEq, S1, g140_7, g140_8, g140_9, g140_10, g140_48, heq104, heq122, heq139, heq159]) rfl (by simp only [S0, Nat.reduceEqDiff, Nat.reduceAdd, reduceIte, reduceCtorEq, S1, g140_7, g140_8, g140_9, g140_10, g140_48, heq104, heq122, heq139, heq159]) (to_any ext0_ok ) (fun _ _ _ h => h) ?_
  rintro _ H164 hx164 rfl
  refine Ow.newA (b := ⟨[.int .i8 (a0), .int .i8 (a1), .int .i8 (0), .int .i8 (0)], 0⟩) (v := .slice (some ⟨H164.n, 0, none⟩) 2 2) (by simp only [S0, Nat.reduceEqDiff, Nat.reduceAdd, reduceIte, reduceCtorEq, S1, g140_7, g140_8, g140_9, g140_10, g140_48, heq104, heq122, heq139, heq159]) rfl rfl (by simp only [S0, Nat.reduceEqDiff, Nat.reduceAdd, reduceIte, reduceCtorEq, S2, show Nat.ble 2 4 = true from rfl, show Nat.ble 4 4 = true from rfl, show Nat.beq 2 2 = true from rfl, Nat.reduceAdd, Nat.reduceMul, g140_7, g140_8, g140_9, g140_10, g140_48, heq104, heq122, heq139, heq159]) ?_
  intro H165 hx165 hl165 hg165
  have hb165 : Bx H165 H164.n (flat [(a0, a1), (0, 0)]) := ⟨hl165, hg165⟩
  refine Ow.callA (k := 20) (fs := []) (cs := []) (vs := [.slice (some ⟨H164.n, 0, none⟩) 2 2]) (by simp only [S0, Nat.reduceEqDiff, Nat.reduceAdd, reduceIte, reduceCtorEq, S1, g140_7, g140_8, g140_9, g140_10, g140_48, heq104, heq122, heq139, heq159]) rfl (by simp only [S0, Nat.reduceEqDiff, Nat.reduceAdd, reduceIte, reduceCtorEq, S1, g140_7, g140_8, g140_9, g140_10, g140_48, heq104, heq122, heq139, heq159]) (combine_any ext0_ok (l := [(a0, a1), (0, 0)]) hb165 (by simp)) (fun _ _ _ h => h) ?_
  rintro _ H166 hx166 rfl
  have bx14_167 := bx14_163.ext hx164
  have bx14_168 := bx14_167.ext hx165
  have bx14_169 := bx14_168.ext hx166
  refine Ow.ldB (off := 0) (v := .agg ⟨[.int .i8 (a0), .int .i8 (a1)]⟩) (by simp only [S0, Nat.reduceEqDiff, Nat.reduceAdd, reduceIte, reduceCtorEq, S1, g140_7, g140_8, g140_9, g140_10, g140_48, heq104, heq122, heq139, heq159]) (by simp only [S0, Nat.reduceEqDiff, Nat.reduceAdd, reduceIte, reduceCtorEq, S1, g140_7, g140_8, g140_9, g140_10, g140_48, heq104, heq122, heq139, heq159]) bx14_169 rfl ?_
  refine Ow.callA (k := 22) (fs := []) (cs := []) (vs := [.agg ⟨[.int .i8 (a0), .int .i8 (a1)]⟩]) (by simp only [S0, Nat.reduceEqDiff, Nat.reduceAdd, reduceIte, reduceCtorEq, S1, g140_7, g140_8, g140_9, g140_10, g140_48, heq104, heq122, heq139, heq159]) rfl (by simp only [S0, Nat.reduceEqDiff, Nat.reduceAdd, reduceIte, reduceCtorEq, S1, g140_7, g140_8, g140_9, g140_10, g140_48, heq104, heq122, heq139, heq159]) (norm_any ext0_ok ) (fun _ _ _ h => h) ?_
  rintro _ H170 hx170 rfl
  have heq171 : ((cb [(a0, a1), (0, 0)]).1 == nl a0 a1 && ((cb [(a0, a1), (0, 0)]).2 == nh a0 a1 && true)) = true := eqv (alg5 (a0, a1))
  (refine Ow.popM rfl ?_; simp only [S0, Nat.reduceEqDiff, Nat.reduceAdd, reduceIte, reduceCtorEq, S1, g140_7, g140_8, g140_9, g140_10, g140_48, heq104, heq122, heq139, heq159, heq171])
  iterate 2 (refine Ow.popM rfl ?_; simp only [S0, Nat.reduceEqDiff, Nat.reduceAdd, reduceIte, reduceCtorEq, S1, g140_7, g140_8, g140_9, g140_10, g140_48, heq104, heq122, heq139, heq159, heq171])
  have bx14_172 := bx14_169.ext hx170
  refine Ow.ldB (off := 0) (v := .agg ⟨[.int .i8 (a0), .int .i8 (a1)]⟩) (by simp only [S0, Nat.reduceEqDiff, Nat.reduceAdd, reduceIte, reduceCtorEq, S1, g140_7, g140_8, g140_9, g140_10, g140_48, heq104, heq122, heq139, heq159, heq171]) (by simp only [S0, Nat.reduceEqDiff, Nat.reduceAdd, reduceIte, reduceCtorEq, S1, g140_7, g140_8, g140_9, g140_10, g140_48, heq104, heq122, heq139, heq159, heq171]) bx14_172 rfl ?_
  refine Ow.newA (b := ⟨[.int .i8 (a0), .int .i8 (a1)], 0⟩) (v := .slice (some ⟨H170.n, 0, none⟩) 1 1) (by simp only [S0, Nat.reduceEqDiff, Nat.reduceAdd, reduceIte, reduceCtorEq, S1, g140_7, g140_8, g140_9, g140_10, g140_48, heq104, heq122, heq139, heq159, heq171]) rfl rfl (by simp only [S0, Nat.reduceEqDiff, Nat.reduceAdd, reduceIte, reduceCtorEq, S2, show Nat.ble 2 2 = true from rfl, show Nat.beq 2 2 = true from rfl, Nat.reduceAdd, Nat.reduceMul, g140_7, g140_8, g140_9, g140_10, g140_48, heq104, heq122, heq139, heq159, heq171]) ?_
  intro H173 hx173 hl173 hg173
  have hb173 : Bx H173 H170.n (flat [(a0, a1)]) := ⟨hl173, hg173⟩
  refine Ow.callA (k := 20) (fs := []) (cs := []) (vs := [.slice (some ⟨H170.n, 0, none⟩) 1 1]) (by simp only [S0, Nat.reduceEqDiff, Nat.reduceAdd, reduceIte, reduceCtorEq, S1, g140_7, g140_8, g140_9, g140_10, g140_48, heq104, heq122, heq139, heq159, heq171]) rfl (by simp only [S0, Nat.reduceEqDiff, Nat.reduceAdd, reduceIte, reduceCtorEq, S1, g140_7, g140_8, g140_9, g140_10, g140_48, heq104, heq122, heq139, heq159, heq171]) (combine_any ext0_ok (l := [(a0, a1)]) hb173 (by simp)) (fun _ _ _ h => h) ?_
  rintro _ H174 hx174 rfl
  have bx14_175 := bx14_172.ext hx173
  have bx14_176 := bx14_175.ext hx174
  refine Ow.ldB (off := 0) (v := .agg ⟨[.int .i8 (a0), .int .i8 (a1)]⟩) (by simp only [S0, Nat.reduceEqDiff, Nat.reduceAdd, reduceIte, reduceCtorEq, S1, g140_7, g140_8, g140_9, g140_10, g140_48, heq104, heq122, heq139, heq159, heq171]) (by simp only [S0, Nat.reduceEqDiff, Nat.reduceAdd, reduceIte, reduceCtorEq, S1, g140_7, g140_8, g140_9, g140_10, g140_48, heq104, heq122, heq139, heq159, heq171]) bx14_176 rfl ?_
  refine Ow.callA (k := 22) (fs := []) (cs := []) (vs := [.agg ⟨[.int .i8 (a0), .int .i8 (a1)]⟩]) (by simp only [S0, Nat.reduceEqDiff, Nat.reduceAdd, reduceIte, reduceCtorEq, S1, g140_7, g140_8, g140_9, g140_10, g140_48, heq104, heq122, heq139, heq159, heq171]) rfl (by simp only [S0, Nat.reduceEqDiff, Nat.reduceAdd, reduceIte, reduceCtorEq, S1, g140_7, g140_8, g140_9, g140_10, g140_48, heq104, heq122, heq139, heq159, heq171]) (norm_any ext0_ok ) (fun _ _ _ h => h) ?_
  rintro _ H177 hx177 rfl
  refine Ow.gen (fun E => E.get 68 = some (.bool true) ∧ E.get 71 = some (.agg ⟨[.int .i8 ((cb [(a0, a1)]).1), .int .i8 ((cb [(a0, a1)]).2)]⟩) ∧ E.get 73 = some (.agg ⟨[.int .i8 (nl a0 a1), .int .i8 (nh a0 a1)]⟩)) ⟨(by simp only [S0, Nat.reduceEqDiff, Nat.reduceAdd, reduceIte, reduceCtorEq, S1, and_self, g140_7, g140_8, g140_9, g140_10, g140_48, heq104, heq122, heq139, heq159, heq171]), (by simp only [S0, Nat.reduceEqDiff, Nat.reduceAdd, reduceIte, reduceCtorEq, S1, and_self, g140_7, g140_8, g140_9, g140_10, g140_48, heq104, heq122, heq139, heq159, heq171]), (by simp only [S0, Nat.reduceEqDiff, Nat.reduceAdd, reduceIte, reduceCtorEq, S1, and_self, g140_7, g140_8, g140_9, g140_10, g140_48, heq104, heq122, heq139, heq159, heq171])⟩ ?_
  rintro E178 ⟨g178_68, g178_71, g178_73⟩
  have heq179 : ((cb [(a0, a1)]).1 == nl a0 a1 && ((cb [(a0, a1)]).2 == nh a0 a1 && true)) = true := eqv (cb1 (a0, a1))
  (refine Ow.popM rfl ?_; simp only [S0, Nat.reduceEqDiff, Nat.reduceAdd, reduceIte, reduceCtorEq, S1, g178_68, g178_71, g178_73, heq104, heq122, heq139, heq159, heq171, heq179])
  iterate 2 (refine Ow.popM rfl ?_; simp only [S0, Nat.reduceEqDiff, Nat.reduceAdd, reduceIte, reduceCtorEq, S1, g178_68, g178_71, g178_73, heq104, heq122, heq139, heq159, heq171, heq179])
  have hG_181 := hG.ext hx1
  have hG_182 := hG_181.ext hx2
  have hG_183 := hG_182.ext hx4
  have hG_184 := hG_183.ext hx61
  have hG_185 := hG_184.ext hx71
  have hG_186 := hG_185.ext hx72
  have hG_187 := hG_186.ext hx92
  have hG_188 := hG_187.ext hx95
  have hG_189 := hG_188.ext hx96
  have hG_190 := hG_189.ext hx102
  have hG_191 := hG_190.ext hx103
  have hG_192 := hG_191.ext hx114
  have hG_193 := hG_192.ext hx115
  have hG_194 := hG_193.ext hx127
  have hG_195 := hG_194.ext hx128
  have hG_196 := hG_195.ext hx133
  have hG_197 := hG_196.ext hx134
  have hG_198 := hG_197.ext hx151
  have hG_199 := hG_198.ext hx152
  have hG_200 := hG_199.ext hx153
  have hG_201 := hG_200.ext hx154
  have hG_202 := hG_201.ext hx164
  have hG_203 := hG_202.ext hx165
  have hG_204 := hG_203.ext hx166
  have hG_205 := hG_204.ext hx170
  have hG_206 := hG_205.ext hx173
  have hG_207 := hG_206.ext hx174
  have hG_208 := hG_207.ext hx177
  refine Ow.callPA (k := 17) (fs := []) (cs := []) (vs := []) (by simp only [S0, Nat.reduceEqDiff, Nat.reduceAdd, reduceIte, reduceCtorEq, S1, g178_68, g178_71, g178_73, heq104, heq122, heq139, heq159, heq171, heq179]) rfl rfl (awake_any hG_208) ?_
  intro H180 hx180
  iterate 2 (refine Ow.popM rfl ?_; simp only [S0, Nat.reduceEqDiff, Nat.reduceAdd, reduceIte, reduceCtorEq, S1, g178_68, g178_71, g178_73, heq104, heq122, heq139, heq159, heq171, heq179])
  refine Ow.nilM ⟨fun _ => by rfl, ?_⟩
  show Cw _ _ _ _ _
  refine Cw.ret ?_
  simp only [Then, InBlock, Rnd, FnPost, resOf, tupled, S0, Nat.reduceEqDiff, Nat.reduceAdd, reduceIte, reduceCtorEq, g178_68, g178_71, g178_73, heq104, heq122, heq139, heq159, heq171, heq179]
theorem StrengthAlgebra_calls (W : World) (a0 a1 b0 b1 c0 c1 : Int) (hG : Glob W) (wa0 : (Lit.int .i8 a0).wf = true) (wa1 : (Lit.int .i8 a1).wf = true) (wb0 : (Lit.int .i8 b0).wf = true) (wb1 : (Lit.int .i8 b1).wf = true) (wc0 : (Lit.int .i8 c0).wf = true) (wc1 : (Lit.int .i8 c1).wf = true) :
    Calls Tryd.prog 5 #[.agg #[.int .i8 a0, .int .i8 a1], .agg #[.int .i8 b0, .int .i8 b1], .agg #[.int .i8 c0, .int .i8 c1]] W fun e W' => e = .returned (.bool true) ∧ Go.RowKit.Below W.heap.size W W' :=
  law2 hG (.cons (.agg (.cons (.int _ _) (.cons (.int _ _) .nil))) (.cons (.agg (.cons (.int _ _) (.cons (.int _ _) .nil))) (.cons (.agg (.cons (.int _ _) (.cons (.int _ _) .nil))) (.nil)))) (StrengthAlgebra_run gl_tabs)
end Go.Proofs.YtcgckodhehnpnaaDoor.X
