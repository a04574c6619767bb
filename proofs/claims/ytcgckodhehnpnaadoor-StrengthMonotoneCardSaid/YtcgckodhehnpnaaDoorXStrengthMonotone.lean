/- StrengthMonotone: the interpreter answers true. -/
import Derived.Test.YtcgckodhehnpnaaDoorXO
set_option linter.unusedSimpArgs false
set_option linter.unusedVariables false
namespace Go.Proofs.YtcgckodhehnpnaaDoor.X
open Go Go.AL
set_option maxHeartbeats 1600000 in
theorem StrengthMonotone_run {H : AH} {a0 a1 b0 b1 c0 c1 d0 d1 : Int} (hG : Gl H) : Run (Cx ext0) 12 [.agg ⟨[.int .i8 a0, .int .i8 a1]⟩, .agg ⟨[.int .i8 b0, .int .i8 b1]⟩, .agg ⟨[.int .i8 c0, .int .i8 c1]⟩, .agg ⟨[.int .i8 d0, .int .i8 d1]⟩] H fun r _ => r = .bool true := by
  refine Run.intro (fi := IR.fi12) (ext0_ok 12 (by decide)) (by kernel_rfl) ?_
  unfold IR.fi12
  simp only [envOf_cons, envOf_nil]
  refine Cw.seq ?_
  refine Cw.region ?_
  refine Ow.boxA (v := .agg ⟨[.int .i8 (a0), .int .i8 (a1)]⟩) rfl (by simp only [S0, Nat.reduceEqDiff, Nat.reduceAdd, reduceIte, reduceCtorEq, S1]) rfl ?_
  intro H1 hx1 hl1 bx1
  refine Ow.boxA (v := .agg ⟨[.int .i8 (b0), .int .i8 (b1)]⟩) rfl (by simp only [S0, Nat.reduceEqDiff, Nat.reduceAdd, reduceIte, reduceCtorEq, S1]) rfl ?_
  have ne3 : H1.n ≠ H.n := Nat.ne_of_gt bx1.1
  intro H2 hx2 hl2 bx2
  refine Ow.boxA (v := .agg ⟨[.int .i8 (c0), .int .i8 (c1)]⟩) rfl (by simp only [S0, Nat.reduceEqDiff, Nat.reduceAdd, reduceIte, reduceCtorEq, S1]) rfl ?_
  have bx1_6 := bx1.ext hx2
  have ne5 : H2.n ≠ H.n := Nat.ne_of_gt bx1_6.1
  have ne7 : H2.n ≠ H1.n := Nat.ne_of_gt bx2.1
  intro H4 hx4 hl4 bx4
  refine Ow.boxA (v := .agg ⟨[.int .i8 (d0), .int .i8 (d1)]⟩) rfl (by simp only [S0, Nat.reduceEqDiff, Nat.reduceAdd, reduceIte, reduceCtorEq, S1]) rfl ?_
  have bx1_10 := bx1_6.ext hx4
  have ne9 : H4.n ≠ H.n := Nat.ne_of_gt bx1_10.1
  have bx2_12 := bx2.ext hx4
  have ne11 : H4.n ≠ H1.n := Nat.ne_of_gt bx2_12.1
  have ne13 : H4.n ≠ H2.n := Nat.ne_of_gt bx4.1
  intro H8 hx8 hl8 bx8
  (refine Ow.popM rfl ?_; simp only [S0, Nat.reduceEqDiff, Nat.reduceAdd, reduceIte, reduceCtorEq, S1])
  refine Ow.nilM ⟨nofun, ?_⟩
  show Cw _ _ _ _ _
  refine Cw.seq ?_
  refine Cw.region ?_
  have bx1_14 := bx1_10.ext hx8
  refine Ow.ldB (off := 0) (v := .agg ⟨[.int .i8 (a0), .int .i8 (a1)]⟩) rfl (by simp only [S0, Nat.reduceEqDiff, Nat.reduceAdd, reduceIte, reduceCtorEq, S1]) bx1_14 rfl ?_
  refine Ow.callA (k := 22) (fs := []) (cs := []) (vs := [.agg ⟨[.int .i8 (a0), .int .i8 (a1)]⟩]) rfl rfl (by simp only [S0, Nat.reduceEqDiff, Nat.reduceAdd, reduceIte, reduceCtorEq, S1]) (norm_any ext0_ok ) (fun _ _ _ h => h) ?_
  rintro _ H15 hx15 rfl
  have bx2_16 := bx2_12.ext hx8
  have bx2_17 := bx2_16.ext hx15
  refine Ow.ldB (off := 0) (v := .agg ⟨[.int .i8 (b0), .int .i8 (b1)]⟩) rfl (by simp only [S0, Nat.reduceEqDiff, Nat.reduceAdd, reduceIte, reduceCtorEq, S1]) bx2_17 rfl ?_
  refine Ow.callA (k := 22) (fs := []) (cs := []) (vs := [.agg ⟨[.int .i8 (b0), .int .i8 (b1)]⟩]) rfl rfl (by simp only [S0, Nat.reduceEqDiff, Nat.reduceAdd, reduceIte, reduceCtorEq, S1]) (norm_any ext0_ok ) (fun _ _ _ h => h) ?_
  rintro _ H18 hx18 rfl
  refine Ow.newB rfl ?_
  have bx1_21 := bx1_14.ext hx15
  have bx1_22 := bx1_21.ext hx18
  have ne20 : H18.n ≠ H.n := Nat.ne_of_gt bx1_22.1
  have bx2_24 := bx2_17.ext hx18
  have ne23 : H18.n ≠ H1.n := Nat.ne_of_gt bx2_24.1
  have bx4_26 := bx4.ext hx8
  have bx4_27 := bx4_26.ext hx15
  have bx4_28 := bx4_27.ext hx18
  have ne25 : H18.n ≠ H2.n := Nat.ne_of_gt bx4_28.1
  have bx8_30 := bx8.ext hx15
  have bx8_31 := bx8_30.ext hx18
  have ne29 : H18.n ≠ H4.n := Nat.ne_of_gt bx8_31.1
  intro H19 hx19 hl19 bx19
  refine Ow.newB rfl ?_
  have bx1_34 := bx1_22.ext hx19
  have ne33 : H19.n ≠ H.n := Nat.ne_of_gt bx1_34.1
  have bx2_36 := bx2_24.ext hx19
  have ne35 : H19.n ≠ H1.n := Nat.ne_of_gt bx2_36.1
  have bx4_38 := bx4_28.ext hx19
  have ne37 : H19.n ≠ H2.n := Nat.ne_of_gt bx4_38.1
  have bx8_40 := bx8_31.ext hx19
  have ne39 : H19.n ≠ H4.n := Nat.ne_of_gt bx8_40.1
  have ne41 : H19.n ≠ H18.n := Nat.ne_of_gt bx19.1
  intro H32 hx32 hl32 bx32
  have bx19_43 := bx19.ext hx32
  refine Ow.stB (H0 := H18) (off := 0) (v := .agg ⟨[.int .i8 (nl a0 a1), .int .i8 (nh a0 a1)]⟩) (vs' := [.int .i8 (nl a0 a1), .int .i8 (nh a0 a1)]) rfl (by simp only [S0, Nat.reduceEqDiff, Nat.reduceAdd, reduceIte, reduceCtorEq, S1]) (by simp only [S0, Nat.reduceEqDiff, Nat.reduceAdd, reduceIte, reduceCtorEq, S1]) bx19_43 rfl rfl (hx19.trans hx32) (Nat.le_refl _) ?_
  intro H42 hx42 hn42 hk42 bx19_42
  have bx1_44 := bx1_34.ext hx32
  have bx2_45 := bx2_36.ext hx32
  have bx4_46 := bx4_38.ext hx32
  have bx8_47 := bx8_40.ext hx32
  have ge48 : H18.n ≤ H19.n := Nat.le_trans (hx19).n (Nat.le_refl _)
  have bx1_49 := Bx.keep bx1_44 hn42 hk42 ne20.symm
  have bx2_50 := Bx.keep bx2_45 hn42 hk42 ne23.symm
  have bx4_51 := Bx.keep bx4_46 hn42 hk42 ne25.symm
  have bx8_52 := Bx.keep bx8_47 hn42 hk42 ne29.symm
  have bx32_53 := Bx.keep bx32 hn42 hk42 ne41
  refine Ow.stB (H0 := H18) (off := 0) (v := .agg ⟨[.int .i8 (nl b0 b1), .int .i8 (nh b0 b1)]⟩) (vs' := [.int .i8 (nl b0 b1), .int .i8 (nh b0 b1)]) rfl (by simp only [S0, Nat.reduceEqDiff, Nat.reduceAdd, reduceIte, reduceCtorEq, S1]) (by simp only [S0, Nat.reduceEqDiff, Nat.reduceAdd, reduceIte, reduceCtorEq, S1]) bx32_53 rfl rfl hx42 ge48 ?_
  intro H54 hx54 hn54 hk54 bx32_54
  have bx1_55 := Bx.keep bx1_49 hn54 hk54 ne33.symm
  have bx2_56 := Bx.keep bx2_50 hn54 hk54 ne35.symm
  have bx4_57 := Bx.keep bx4_51 hn54 hk54 ne37.symm
  have bx8_58 := Bx.keep bx8_52 hn54 hk54 ne39.symm
  have bx19_59 := Bx.keep bx19_42 hn54 hk54 ne41.symm
  refine Ow.nilM ⟨fun _ => by rfl, ?_⟩
  show Cw _ _ _ _ _
  refine Cw.seq ?_
  refine Cw.region ?_
  refine Ow.ldB (off := 0) (v := .agg ⟨[.int .i8 (c0), .int .i8 (c1)]⟩) rfl (by simp only [S0, Nat.reduceEqDiff, Nat.reduceAdd, reduceIte, reduceCtorEq, S1]) bx4_57 rfl ?_
  refine Ow.callA (k := 22) (fs := []) (cs := []) (vs := [.agg ⟨[.int .i8 (c0), .int .i8 (c1)]⟩]) rfl rfl (by simp only [S0, Nat.reduceEqDiff, Nat.reduceAdd, reduceIte, reduceCtorEq, S1]) (norm_any ext0_ok ) (fun _ _ _ h => h) ?_
  rintro _ H60 hx60 rfl
  have bx8_61 := bx8_58.ext hx60
  refine Ow.ldB (off := 0) (v := .agg ⟨[.int .i8 (d0), .int .i8 (d1)]⟩) rfl (by simp only [S0, Nat.reduceEqDiff, Nat.reduceAdd, reduceIte, reduceCtorEq, S1]) bx8_61 rfl ?_
  refine Ow.callA (k := 22) (fs := []) (cs := []) (vs := [.agg ⟨[.int .i8 (d0), .int .i8 (d1)]⟩]) rfl rfl (by simp only [S0, Nat.reduceEqDiff, Nat.reduceAdd, reduceIte, reduceCtorEq, S1]) (norm_any ext0_ok ) (fun _ _ _ h => h) ?_
  rintro _ H62 hx62 rfl
  refine Ow.newB rfl ?_
  have bx1_65 := bx1_55.ext hx60
  have bx1_66 := bx1_65.ext hx62
  have ne64 : H62.n ≠ H.n := Nat.ne_of_gt bx1_66.1
  have bx2_68 := bx2_56.ext hx60
  have bx2_69 := bx2_68.ext hx62
  have ne67 : H62.n ≠ H1.n := Nat.ne_of_gt bx2_69.1
  have bx4_71 := bx4_57.ext hx60
  have bx4_72 := bx4_71.ext hx62
  have ne70 : H62.n ≠ H2.n := Nat.ne_of_gt bx4_72.1
  have bx8_74 := bx8_61.ext hx62
  have ne73 : H62.n ≠ H4.n := Nat.ne_of_gt bx8_74.1
  have bx19_76 := bx19_59.ext hx60
  have bx19_77 := bx19_76.ext hx62
  have ne75 : H62.n ≠ H18.n := Nat.ne_of_gt bx19_77.1
  have bx32_79 := bx32_54.ext hx60
  have bx32_80 := bx32_79.ext hx62
  have ne78 : H62.n ≠ H19.n := Nat.ne_of_gt bx32_80.1
  intro H63 hx63 hl63 bx63
  refine Ow.newB rfl ?_
  have bx1_83 := bx1_66.ext hx63
  have ne82 : H63.n ≠ H.n := Nat.ne_of_gt bx1_83.1
  have bx2_85 := bx2_69.ext hx63
  have ne84 : H63.n ≠ H1.n := Nat.ne_of_gt bx2_85.1
  have bx4_87 := bx4_72.ext hx63
  have ne86 : H63.n ≠ H2.n := Nat.ne_of_gt bx4_87.1
  have bx8_89 := bx8_74.ext hx63
  have ne88 : H63.n ≠ H4.n := Nat.ne_of_gt bx8_89.1
  have bx19_91 := bx19_77.ext hx63
  have ne90 : H63.n ≠ H18.n := Nat.ne_of_gt bx19_91.1
  have bx32_93 := bx32_80.ext hx63
  have ne92 : H63.n ≠ H19.n := Nat.ne_of_gt bx32_93.1
  have ne94 : H63.n ≠ H62.n := Nat.ne_of_gt bx63.1
  intro H81 hx81 hl81 bx81
  have bx63_96 := bx63.ext hx81
  refine Ow.stB (H0 := H62) (off := 0) (v := .agg ⟨[.int .i8 (nl c0 c1), .int .i8 (nh c0 c1)]⟩) (vs' := [.int .i8 (nl c0 c1), .int .i8 (nh c0 c1)]) rfl (by simp only [S0, Nat.reduceEqDiff, Nat.reduceAdd, reduceIte, reduceCtorEq, S1]) (by simp only [S0, Nat.reduceEqDiff, Nat.reduceAdd, reduceIte, reduceCtorEq, S1]) bx63_96 rfl rfl (hx63.trans hx81) (Nat.le_refl _) ?_
  intro H95 hx95 hn95 hk95 bx63_95
  have bx1_97 := bx1_83.ext hx81
  have bx2_98 := bx2_85.ext hx81
  have bx4_99 := bx4_87.ext hx81
  have bx8_100 := bx8_89.ext hx81
  have bx19_101 := bx19_91.ext hx81
  have bx32_102 := bx32_93.ext hx81
  have ge103 : H62.n ≤ H63.n := Nat.le_trans (hx63).n (Nat.le_refl _)
  have bx1_104 := Bx.keep bx1_97 hn95 hk95 ne64.symm
  have bx2_105 := Bx.keep bx2_98 hn95 hk95 ne67.symm
  have bx4_106 := Bx.keep bx4_99 hn95 hk95 ne70.symm
  have bx8_107 := Bx.keep bx8_100 hn95 hk95 ne73.symm
  have bx19_108 := Bx.keep bx19_101 hn95 hk95 ne75.symm
  have bx32_109 := Bx.keep bx32_102 hn95 hk95 ne78.symm
  have bx81_110 := Bx.keep bx81 hn95 hk95 ne94
  refine Ow.stB (H0 := H62) (off := 0) (v := .agg ⟨[.int .i8 (nl d0 d1), .int .i8 (nh d0 d1)]⟩) (vs' := [.int .i8 (nl d0 d1), .int .i8 (nh d0 d1)]) rfl (by simp only [S0, Nat.reduceEqDiff, Nat.reduceAdd, reduceIte, reduceCtorEq, S1]) (by simp only [S0, Nat.reduceEqDiff, Nat.reduceAdd, reduceIte, reduceCtorEq, S1]) bx81_110 rfl rfl hx95 ge103 ?_
  intro H111 hx111 hn111 hk111 bx81_111
  have bx1_112 := Bx.keep bx1_104 hn111 hk111 ne82.symm
  have bx2_113 := Bx.keep bx2_105 hn111 hk111 ne84.symm
  have bx4_114 := Bx.keep bx4_106 hn111 hk111 ne86.symm
  have bx8_115 := Bx.keep bx8_107 hn111 hk111 ne88.symm
  have bx19_116 := Bx.keep bx19_108 hn111 hk111 ne90.symm
  have bx32_117 := Bx.keep bx32_109 hn111 hk111 ne92.symm
  have bx63_118 := Bx.keep bx63_95 hn111 hk111 ne94.symm
  refine Ow.nilM ⟨fun _ => by rfl, ?_⟩
  show Cw _ _ _ _ _
  refine Cw.seq ?_
  refine Cw.seq ?_
  refine Cw.region ?_
  refine Ow.ldB (off := 0) (v := .agg ⟨[.int .i8 (nl c0 c1), .int .i8 (nh c0 c1)]⟩) rfl (by simp only [S0, Nat.reduceEqDiff, Nat.reduceAdd, reduceIte, reduceCtorEq, S1]) bx63_118 rfl ?_
  refine Ow.ldB (off := 0) (v := .agg ⟨[.int .i8 (nl a0 a1), .int .i8 (nh a0 a1)]⟩) rfl (by simp only [S0, Nat.reduceEqDiff, Nat.reduceAdd, reduceIte, reduceCtorEq, S1]) bx19_116 rfl ?_
  refine Ow.callA (k := 33) (fs := []) (cs := []) (vs := [.agg ⟨[.int .i8 (nl c0 c1), .int .i8 (nh c0 c1)]⟩, .agg ⟨[.int .i8 (nl a0 a1), .int .i8 (nh a0 a1)]⟩]) rfl rfl (by simp only [S0, Nat.reduceEqDiff, Nat.reduceAdd, reduceIte, reduceCtorEq, S1]) (within_any ext0_ok) (fun _ _ _ h => h) ?_
  rintro _ H119 hx119 rfl
  (refine Ow.popM rfl ?_; simp only [S0, Nat.reduceEqDiff, Nat.reduceAdd, reduceIte, reduceCtorEq, S1])
  refine Ow.gen (fun E => E.get 9 = some (.pointer (some ⟨H18.n, 0, none⟩)) ∧ E.get 10 = some (.pointer (some ⟨H19.n, 0, none⟩)) ∧ E.get 11 = some (.pointer (some ⟨H62.n, 0, none⟩)) ∧ E.get 12 = some (.pointer (some ⟨H63.n, 0, none⟩)) ∧ E.get 24 = some (.bool (!(decide (nl c0 c1 ≥ nl a0 a1) && decide (nh c0 c1 ≤ nh a0 a1))))) ⟨(by simp only [S0, Nat.reduceEqDiff, Nat.reduceAdd, reduceIte, reduceCtorEq, S1, and_self]), (by simp only [S0, Nat.reduceEqDiff, Nat.reduceAdd, reduceIte, reduceCtorEq, S1, and_self]), (by simp only [S0, Nat.reduceEqDiff, Nat.reduceAdd, reduceIte, reduceCtorEq, S1, and_self]), (by simp only [S0, Nat.reduceEqDiff, Nat.reduceAdd, reduceIte, reduceCtorEq, S1, and_self]), (by simp only [S0, Nat.reduceEqDiff, Nat.reduceAdd, reduceIte, reduceCtorEq, S1, and_self])⟩ ?_
  rintro E120 ⟨g120_9, g120_10, g120_11, g120_12, g120_24⟩
  (refine Ow.popM rfl ?_; simp only [S0, Nat.reduceEqDiff, Nat.reduceAdd, reduceIte, reduceCtorEq, S1, g120_9, g120_10, g120_11, g120_12, g120_24])
  cases hd121 : ((decide (nl c0 c1 ≥ nl a0 a1) && decide (nh c0 c1 ≤ nh a0 a1)))
  · skip
    refine Ow.pass (by simp only [S0, Nat.reduceEqDiff, Nat.reduceAdd, reduceIte, reduceCtorEq, S1, g120_9, g120_10, g120_11, g120_12, g120_24, hd121]) ?_
    refine Ow.pass (by simp only [S0, Nat.reduceEqDiff, Nat.reduceAdd, reduceIte, reduceCtorEq, S1, g120_9, g120_10, g120_11, g120_12, g120_24, hd121]) ?_
    refine Ow.pass (by simp only [S0, Nat.reduceEqDiff, Nat.reduceAdd, reduceIte, reduceCtorEq, S1, g120_9, g120_10, g120_11, g120_12, g120_24, hd121]) ?_
    refine Ow.pass (by simp only [S0, Nat.reduceEqDiff, Nat.reduceAdd, reduceIte, reduceCtorEq, S1, g120_9, g120_10, g120_11, g120_12, g120_24, hd121]) ?_
    (refine Ow.popM rfl ?_; simp only [S0, Nat.reduceEqDiff, Nat.reduceAdd, reduceIte, reduceCtorEq, S1, g120_9, g120_10, g120_11, g120_12, g120_24, hd121])
    refine Ow.nilM ⟨nofun, ?_⟩
    show Cw _ _ _ _ _
    refine Cw.cond (t := true) (by simp only [S0, Nat.reduceEqDiff, Nat.reduceAdd, reduceIte, reduceCtorEq, S1, g120_9, g120_10, g120_11, g120_12, g120_24, hd121]) ?_
    refine Cw.seq ?_
    refine Cw.region ?_
    have hG_123 := hG.ext hx1
    have hG_124 := hG_123.ext hx2
    have hG_125 := hG_124.ext hx4
    have hG_126 := hG_125.ext hx8
    have hG_127 := hG_126.ext hx15
    have hG_128 := hG_127.ext hx18
    have hG_129 := hG_128.ext hx54
    have hG_130 := hG_129.ext hx60
    have hG_131 := hG_130.ext hx62
    have hG_132 := hG_131.ext hx111
    have hG_133 := hG_132.ext hx119
    refine Ow.callPA (k := 17) (fs := []) (cs := []) (vs := []) rfl rfl rfl (awake_any hG_133) ?_
    intro H122 hx122
    (refine Ow.popM rfl ?_; simp only [S0, Nat.reduceEqDiff, Nat.reduceAdd, reduceIte, reduceCtorEq, S1, g120_9, g120_10, g120_11, g120_12, g120_24, hd121])
    refine Ow.nilM ⟨nofun, ?_⟩
    show Cw _ _ _ _ _
    refine Cw.ret ?_
    simp only [Then, InBlock, Rnd, FnPost, resOf, tupled, S0, Nat.reduceEqDiff, Nat.reduceAdd, reduceIte, reduceCtorEq, g120_9, g120_10, g120_11, g120_12, g120_24, hd121]
  · skip
    have bx81_134 := bx81_111.ext hx119
    refine Ow.ldB (off := 0) (v := .agg ⟨[.int .i8 (nl d0 d1), .int .i8 (nh d0 d1)]⟩) (by simp only [S0, Nat.reduceEqDiff, Nat.reduceAdd, reduceIte, reduceCtorEq, S1, g120_9, g120_10, g120_11, g120_12, g120_24, hd121]) (by simp only [S0, Nat.reduceEqDiff, Nat.reduceAdd, reduceIte, reduceCtorEq, S1, g120_9, g120_10, g120_11, g120_12, g120_24, hd121]) bx81_134 rfl ?_
    have bx32_135 := bx32_117.ext hx119
    refine Ow.ldB (off := 0) (v := .agg ⟨[.int .i8 (nl b0 b1), .int .i8 (nh b0 b1)]⟩) (by simp only [S0, Nat.reduceEqDiff, Nat.reduceAdd, reduceIte, reduceCtorEq, S1, g120_9, g120_10, g120_11, g120_12, g120_24, hd121]) (by simp only [S0, Nat.reduceEqDiff, Nat.reduceAdd, reduceIte, reduceCtorEq, S1, g120_9, g120_10, g120_11, g120_12, g120_24, hd121]) bx32_135 rfl ?_
    refine Ow.callA (k := 33) (fs := []) (cs := []) (vs := [.agg ⟨[.int .i8 (nl d0 d1), .int .i8 (nh d0 d1)]⟩, .agg ⟨[.int .i8 (nl b0 b1), .int .i8 (nh b0 b1)]⟩]) (by simp only [S0, Nat.reduceEqDiff, Nat.reduceAdd, reduceIte, reduceCtorEq, S1, g120_9, g120_10, g120_11, g120_12, g120_24, hd121]) rfl (by simp only [S0, Nat.reduceEqDiff, Nat.reduceAdd, reduceIte, reduceCtorEq, S1, g120_9, g120_10, g120_11, g120_12, g120_24, hd121]) (within_any ext0_ok) (fun _ _ _ h => h) ?_
    rintro _ H136 hx136 rfl
    iterate 2 (refine Ow.popM rfl ?_; simp only [S0, Nat.reduceEqDiff, Nat.reduceAdd, reduceIte, reduceCtorEq, S1, g120_9, g120_10, g120_11, g120_12, g120_24, hd121])
    refine Ow.nilM ⟨nofun, ?_⟩
    show Cw _ _ _ _ _
    cases hd137 : ((decide (nl d0 d1 ≥ nl b0 b1) && decide (nh d0 d1 ≤ nh b0 b1)))
    · skip
      refine Cw.cond (t := true) (by simp only [S0, Nat.reduceEqDiff, Nat.reduceAdd, reduceIte, reduceCtorEq, S1, g120_9, g120_10, g120_11, g120_12, g120_24, hd121, hd137]) ?_
      refine Cw.seq ?_
      refine Cw.region ?_
      have hG_139 := hG.ext hx1
      have hG_140 := hG_139.ext hx2
      have hG_141 := hG_140.ext hx4
      have hG_142 := hG_141.ext hx8
      have hG_143 := hG_142.ext hx15
      have hG_144 := hG_143.ext hx18
      have hG_145 := hG_144.ext hx54
      have hG_146 := hG_145.ext hx60
      have hG_147 := hG_146.ext hx62
      have hG_148 := hG_147.ext hx111
      have hG_149 := hG_148.ext hx119
      have hG_150 := hG_149.ext hx136
      refine Ow.callPA (k := 17) (fs := []) (cs := []) (vs := []) rfl rfl rfl (awake_any hG_150) ?_
      intro H138 hx138
      (refine Ow.popM rfl ?_; simp only [S0, Nat.reduceEqDiff, Nat.reduceAdd, reduceIte, reduceCtorEq, S1, g120_9, g120_10, g120_11, g120_12, g120_24, hd121, hd137])
      refine Ow.nilM ⟨nofun, ?_⟩
      show Cw _ _ _ _ _
      refine Cw.ret ?_
      simp only [Then, InBlock, Rnd, FnPost, resOf, tupled, S0, Nat.reduceEqDiff, Nat.reduceAdd, reduceIte, reduceCtorEq, g120_9, g120_10, g120_11, g120_12, g120_24, hd121, hd137]
    · skip
      refine Cw.cond (t := false) (by simp only [S0, Nat.reduceEqDiff, Nat.reduceAdd, reduceIte, reduceCtorEq, S1, g120_9, g120_10, g120_11, g120_12, g120_24, hd121, hd137]) ?_
      refine Cw.skip ?_
      show Cw _ _ _ _ _
      refine Cw.seq ?_
      refine Cw.seq ?_
      refine Cw.region ?_
      have bx63_151 := bx63_118.ext hx119
      have bx63_152 := bx63_151.ext hx136
      refine Ow.ldB (off := 0) (v := .agg ⟨[.int .i8 (nl c0 c1), .int .i8 (nh c0 c1)]⟩) rfl (by simp only [S0, Nat.reduceEqDiff, Nat.reduceAdd, reduceIte, reduceCtorEq, S1, g120_9, g120_10, g120_11, g120_12, g120_24, hd121, hd137]) bx63_152 rfl ?_
      have bx81_153 := bx81_134.ext hx136
      refine Ow.ldB (off := 0) (v := .agg ⟨[.int .i8 (nl d0 d1), .int .i8 (nh d0 d1)]⟩) rfl (by simp only [S0, Nat.reduceEqDiff, Nat.reduceAdd, reduceIte, reduceCtorEq, S1, g120_9, g120_10, g120_11, g120_12, g120_24, hd121, hd137]) bx81_153 rfl ?_
      refine Ow.newA (b := ⟨[.int .i8 (nl c0 c1), .int .i8 (nh c0 c1), .int .i8 (nl d0 d1), .int .i8 (nh d0 d1)], 0⟩) (v := .slice (some ⟨H136.n, 0, none⟩) 2 2) rfl rfl rfl (by simp only [S0, Nat.reduceEqDiff, Nat.reduceAdd, reduceIte, reduceCtorEq, S2, show Nat.ble 2 4 = true from rfl, show Nat.ble 4 4 = true from rfl, show Nat.beq 2 2 = true from rfl, Nat.reduceAdd, Nat.reduceMul, g120_9, g120_10, g120_11, g120_12, g120_24, hd121, hd137]) ?_
      intro H154 hx154 hl154 hg154
      have hb154 : Bx H154 H136.n (flat [(nl c0 c1, nh c0 c1), (nl d0 d1, nh d0 d1)]) := ⟨hl154, hg154⟩
      refine Ow.callA (k := 20) (fs := []) (cs := []) (vs := [.slice (some ⟨H136.n, 0, none⟩) 2 2]) rfl rfl (by simp only [S0, Nat.reduceEqDiff, Nat.reduceAdd, reduceIte, reduceCtorEq, S1, g120_9, g120_10, g120_11, g120_12, g120_24, hd121, hd137]) (combine_any ext0_ok (l := [(nl c0 c1, nh c0 c1), (nl d0 d1, nh d0 d1)]) hb154 (by simp)) (fun _ _ _ h => h) ?_
      rintro _ H155 hx155 rfl
      have bx19_156 := bx19_116.ext hx119
      have bx19_157 := bx19_156.ext hx136
      have bx19_158 := bx19_157.ext hx154
      have bx19_159 := bx19_158.ext hx155
      refine Ow.ldB (off := 0) (v := .agg ⟨[.int .i8 (nl a0 a1), .int .i8 (nh a0 a1)]⟩) rfl (by simp only [S0, Nat.reduceEqDiff, Nat.reduceAdd, reduceIte, reduceCtorEq, S1, g120_9, g120_10, g120_11, g120_12, g120_24, hd121, hd137]) bx19_159 rfl ?_
      have bx32_160 := bx32_135.ext hx136
      have bx32_161 := bx32_160.ext hx154
      have bx32_162 := bx32_161.ext hx155
      refine Ow.ldB (off := 0) (v := .agg ⟨[.int .i8 (nl b0 b1), .int .i8 (nh b0 b1)]⟩) rfl (by simp only [S0, Nat.reduceEqDiff, Nat.reduceAdd, reduceIte, reduceCtorEq, S1, g120_9, g120_10, g120_11, g120_12, g120_24, hd121, hd137]) bx32_162 rfl ?_
      refine Ow.newA (b := ⟨[.int .i8 (nl a0 a1), .int .i8 (nh a0 a1), .int .i8 (nl b0 b1), .int .i8 (nh b0 b1)], 0⟩) (v := .slice (some ⟨H155.n, 0, none⟩) 2 2) rfl rfl rfl (by simp only [S0, Nat.reduceEqDiff, Nat.reduceAdd, reduceIte, reduceCtorEq, S2, show Nat.ble 2 4 = true from rfl, show Nat.ble 4 4 = true from rfl, show Nat.beq 2 2 = true from rfl, Nat.reduceAdd, Nat.reduceMul, g120_9, g120_10, g120_11, g120_12, g120_24, hd121, hd137]) ?_
      intro H163 hx163 hl163 hg163
      have hb163 : Bx H163 H155.n (flat [(nl a0 a1, nh a0 a1), (nl b0 b1, nh b0 b1)]) := ⟨hl163, hg163⟩
      refine Ow.callA (k := 20) (fs := []) (cs := []) (vs := [.slice (some ⟨H155.n, 0, none⟩) 2 2]) rfl rfl (by simp only [S0, Nat.reduceEqDiff, Nat.reduceAdd, reduceIte, reduceCtorEq, S1, g120_9, g120_10, g120_11, g120_12, g120_24, hd121, hd137]) (combine_any ext0_ok (l := [(nl a0 a1, nh a0 a1), (nl b0 b1, nh b0 b1)]) hb163 (by simp)) (fun _ _ _ h => h) ?_
      rintro _ H164 hx164 rfl
      refine Ow.callA (k := 33) (fs := []) (cs := []) (vs := [.agg ⟨[.int .i8 ((cb [(nl c0 c1, nh c0 c1), (nl d0 d1, nh d0 d1)]).1), .int .i8 ((cb [(nl c0 c1, nh c0 c1), (nl d0 d1, nh d0 d1)]).2)]⟩, .agg ⟨[.int .i8 ((cb [(nl a0 a1, nh a0 a1), (nl b0 b1, nh b0 b1)]).1), .int .i8 ((cb [(nl a0 a1, nh a0 a1), (nl b0 b1, nh b0 b1)]).2)]⟩]) rfl rfl (by simp only [S0, Nat.reduceEqDiff, Nat.reduceAdd, reduceIte, reduceCtorEq, S1, g120_9, g120_10, g120_11, g120_12, g120_24, hd121, hd137]) (within_any ext0_ok) (fun _ _ _ h => h) ?_
      rintro _ H165 hx165 rfl
      have hw165 := mono_comb hd121 hd137
      (refine Ow.popM rfl ?_; simp only [S0, Nat.reduceEqDiff, Nat.reduceAdd, reduceIte, reduceCtorEq, S1, g120_9, g120_10, g120_11, g120_12, g120_24, hd121, hd137, hw165])
      refine Ow.nilM ⟨fun _ => by rfl, ?_⟩
      show Cw _ _ _ _ _
      refine Cw.cond (t := false) (by simp only [S0, Nat.reduceEqDiff, Nat.reduceAdd, reduceIte, reduceCtorEq, S1, g120_9, g120_10, g120_11, g120_12, g120_24, hd121, hd137, hw165]) ?_
      refine Cw.skip ?_
      show Cw _ _ _ _ _
      refine Cw.seq ?_
      refine Cw.region ?_
      have bx63_166 := bx63_152.ext hx154
      have bx63_167 := bx63_166.ext hx155
      have bx63_168 := bx63_167.ext hx163
      have bx63_169 := bx63_168.ext hx164
      have bx63_170 := bx63_169.ext hx165
      refine Ow.ldB (off := 0) (v := .agg ⟨[.int .i8 (nl c0 c1), .int .i8 (nh c0 c1)]⟩) rfl (by simp only [S0, Nat.reduceEqDiff, Nat.reduceAdd, reduceIte, reduceCtorEq, S1, g120_9, g120_10, g120_11, g120_12, g120_24, hd121, hd137, hw165]) bx63_170 rfl ?_
      refine Ow.callA (k := 21) (fs := []) (cs := []) (vs := [.int .i8 (0), .int .i8 (0)]) rfl rfl (by simp only [S0, Nat.reduceEqDiff, Nat.reduceAdd, reduceIte, reduceCtorEq, S1, g120_9, g120_10, g120_11, g120_12, g120_24, hd121, hd137, hw165]) (to_any ext0_ok ) (fun _ _ _ h => h) ?_
      rintro _ H171 hx171 rfl
      (refine Ow.popM rfl ?_; simp only [S0, Nat.reduceEqDiff, Nat.reduceAdd, reduceIte, reduceCtorEq, S1, g120_9, g120_10, g120_11, g120_12, g120_24, hd121, hd137, hw165])
      (refine Ow.popM rfl ?_; simp only [S0, Nat.reduceEqDiff, Nat.reduceAdd, reduceIte, reduceCtorEq, S1, g120_9, g120_10, g120_11, g120_12, g120_24, hd121, hd137, hw165])
      cases hd172 : ((nl c0 c1 == 0 && (nh c0 c1 == 0 && true)))
      · skip
        have bx19_173 := bx19_159.ext hx163
        have bx19_174 := bx19_173.ext hx164
        have bx19_175 := bx19_174.ext hx165
        have bx19_176 := bx19_175.ext hx171
        refine Ow.ldB (off := 0) (v := .agg ⟨[.int .i8 (nl a0 a1), .int .i8 (nh a0 a1)]⟩) (by simp only [S0, Nat.reduceEqDiff, Nat.reduceAdd, reduceIte, reduceCtorEq, S1, g120_9, g120_10, g120_11, g120_12, g120_24, hd121, hd137, hw165, hd172]) (by simp only [S0, Nat.reduceEqDiff, Nat.reduceAdd, reduceIte, reduceCtorEq, S1, g120_9, g120_10, g120_11, g120_12, g120_24, hd121, hd137, hw165, hd172]) bx19_176 rfl ?_
        refine Ow.callA (k := 28) (fs := []) (cs := []) (vs := [.agg ⟨[.int .i8 (nl a0 a1), .int .i8 (nh a0 a1)]⟩]) (by simp only [S0, Nat.reduceEqDiff, Nat.reduceAdd, reduceIte, reduceCtorEq, S1, g120_9, g120_10, g120_11, g120_12, g120_24, hd121, hd137, hw165, hd172]) rfl (by simp only [S0, Nat.reduceEqDiff, Nat.reduceAdd, reduceIte, reduceCtorEq, S1, g120_9, g120_10, g120_11, g120_12, g120_24, hd121, hd137, hw165, hd172]) (read_any ext0_ok) (fun _ _ _ h => h) ?_
        rintro _ H177 hx177 rfl
        have bx63_178 := bx63_170.ext hx171
        have bx63_179 := bx63_178.ext hx177
        refine Ow.ldB (off := 0) (v := .agg ⟨[.int .i8 (nl c0 c1), .int .i8 (nh c0 c1)]⟩) (by simp only [S0, Nat.reduceEqDiff, Nat.reduceAdd, reduceIte, reduceCtorEq, S1, g120_9, g120_10, g120_11, g120_12, g120_24, hd121, hd137, hw165, hd172]) (by simp only [S0, Nat.reduceEqDiff, Nat.reduceAdd, reduceIte, reduceCtorEq, S1, g120_9, g120_10, g120_11, g120_12, g120_24, hd121, hd137, hw165, hd172]) bx63_179 rfl ?_
        refine Ow.callA (k := 28) (fs := []) (cs := []) (vs := [.agg ⟨[.int .i8 (nl c0 c1), .int .i8 (nh c0 c1)]⟩]) (by simp only [S0, Nat.reduceEqDiff, Nat.reduceAdd, reduceIte, reduceCtorEq, S1, g120_9, g120_10, g120_11, g120_12, g120_24, hd121, hd137, hw165, hd172]) rfl (by simp only [S0, Nat.reduceEqDiff, Nat.reduceAdd, reduceIte, reduceCtorEq, S1, g120_9, g120_10, g120_11, g120_12, g120_24, hd121, hd137, hw165, hd172]) (read_any ext0_ok) (fun _ _ _ h => h) ?_
        rintro _ H180 hx180 rfl
        refine Ow.callA (k := 35) (fs := []) (cs := []) (vs := [.int .u8 (rdv (nl a0 a1) (nh a0 a1)), .int .u8 (rdv (nl c0 c1) (nh c0 c1))]) (by simp only [S0, Nat.reduceEqDiff, Nat.reduceAdd, reduceIte, reduceCtorEq, S1, g120_9, g120_10, g120_11, g120_12, g120_24, hd121, hd137, hw165, hd172]) rfl (by simp only [S0, Nat.reduceEqDiff, Nat.reduceAdd, reduceIte, reduceCtorEq, S1, g120_9, g120_10, g120_11, g120_12, g120_24, hd121, hd137, hw165, hd172]) (bleq_any ext0_ok (rdv_le _ _) (rdv_le _ _)) (fun _ _ _ h => h) ?_
        rintro _ H181 hx181 rfl
        have hr181 := read_mono hd121 hd172
        refine Ow.gen (fun E => E.get 45 = some (.bool false) ∧ E.get 50 = some (.bool true)) ⟨(by simp only [S0, Nat.reduceEqDiff, Nat.reduceAdd, reduceIte, reduceCtorEq, S1, and_self, g120_9, g120_10, g120_11, g120_12, g120_24, hd121, hd137, hw165, hd172, hr181]), (by simp only [S0, Nat.reduceEqDiff, Nat.reduceAdd, reduceIte, reduceCtorEq, S1, and_self, g120_9, g120_10, g120_11, g120_12, g120_24, hd121, hd137, hw165, hd172, hr181])⟩ ?_
        rintro E182 ⟨g182_45, g182_50⟩
        iterate 2 (refine Ow.popM rfl ?_; simp only [S0, Nat.reduceEqDiff, Nat.reduceAdd, reduceIte, reduceCtorEq, S1, g182_45, g182_50, hd121, hd137, hd172])
        have hG_184 := hG.ext hx1
        have hG_185 := hG_184.ext hx2
        have hG_186 := hG_185.ext hx4
        have hG_187 := hG_186.ext hx8
        have hG_188 := hG_187.ext hx15
        have hG_189 := hG_188.ext hx18
        have hG_190 := hG_189.ext hx54
        have hG_191 := hG_190.ext hx60
        have hG_192 := hG_191.ext hx62
        have hG_193 := hG_192.ext hx111
        have hG_194 := hG_193.ext hx119
        have hG_195 := hG_194.ext hx136
        have hG_196 := hG_195.ext hx154
        have hG_197 := hG_196.ext hx155
        have hG_198 := hG_197.ext hx163
        have hG_199 := hG_198.ext hx164
        have hG_200 := hG_199.ext hx165
        have hG_201 := hG_200.ext hx171
        have hG_202 := hG_201.ext hx177
        have hG_203 := hG_202.ext hx180
        have hG_204 := hG_203.ext hx181
        refine Ow.callPA (k := 17) (fs := []) (cs := []) (vs := []) (by simp only [S0, Nat.reduceEqDiff, Nat.reduceAdd, reduceIte, reduceCtorEq, S1, g182_45, g182_50, hd121, hd137, hd172]) rfl rfl (awake_any hG_204) ?_
        intro H183 hx183
        iterate 2 (refine Ow.popM rfl ?_; simp only [S0, Nat.reduceEqDiff, Nat.reduceAdd, reduceIte, reduceCtorEq, S1, g182_45, g182_50, hd121, hd137, hd172])
        refine Ow.nilM ⟨fun _ => by rfl, ?_⟩
        show Cw _ _ _ _ _
        refine Cw.ret ?_
        simp only [Then, InBlock, Rnd, FnPost, resOf, tupled, S0, Nat.reduceEqDiff, Nat.reduceAdd, reduceIte, reduceCtorEq, g182_45, g182_50, hd121, hd137, hd172]
      · skip
        refine Ow.pass (by simp only [S0, Nat.reduceEqDiff, Nat.reduceAdd, reduceIte, reduceCtorEq, S1, g120_9, g120_10, g120_11, g120_12, g120_24, hd121, hd137, hw165, hd172]) ?_
        refine Ow.pass (by simp only [S0, Nat.reduceEqDiff, Nat.reduceAdd, reduceIte, reduceCtorEq, S1, g120_9, g120_10, g120_11, g120_12, g120_24, hd121, hd137, hw165, hd172]) ?_
        refine Ow.pass (by simp only [S0, Nat.reduceEqDiff, Nat.reduceAdd, reduceIte, reduceCtorEq, S1, g120_9, g120_10, g120_11, g120_12, g120_24, hd121, hd137, hw165, hd172]) ?_
        refine Ow.pass (by simp only [S0, Nat.reduceEqDiff, Nat.reduceAdd, reduceIte, reduceCtorEq, S1, g120_9, g120_10, g120_11, g120_12, g120_24, hd121, hd137, hw165, hd172]) ?_
        refine Ow.pass (by simp only [S0, Nat.reduceEqDiff, Nat.reduceAdd, reduceIte, reduceCtorEq, S1, g120_9, g120_10, g120_11, g120_12, g120_24, hd121, hd137, hw165, hd172]) ?_
        refine Ow.gen (fun E => E.get 45 = some (.bool true) ∧ E.get 50 = some (.tuple ⟨[]⟩)) ⟨(by simp only [S0, Nat.reduceEqDiff, Nat.reduceAdd, reduceIte, reduceCtorEq, S1, and_self, g120_9, g120_10, g120_11, g120_12, g120_24, hd121, hd137, hw165, hd172]), (by simp only [S0, Nat.reduceEqDiff, Nat.reduceAdd, reduceIte, reduceCtorEq, S1, and_self, undefA, g120_9, g120_10, g120_11, g120_12, g120_24, hd121, hd137, hw165, hd172])⟩ ?_
        rintro E205 ⟨g205_45, g205_50⟩
        iterate 2 (refine Ow.popM rfl ?_; simp only [S0, Nat.reduceEqDiff, Nat.reduceAdd, reduceIte, reduceCtorEq, S1, g205_45, g205_50, hd121, hd137, hd172])
        have hG_207 := hG.ext hx1
        have hG_208 := hG_207.ext hx2
        have hG_209 := hG_208.ext hx4
        have hG_210 := hG_209.ext hx8
        have hG_211 := hG_210.ext hx15
        have hG_212 := hG_211.ext hx18
        have hG_213 := hG_212.ext hx54
        have hG_214 := hG_213.ext hx60
        have hG_215 := hG_214.ext hx62
        have hG_216 := hG_215.ext hx111
        have hG_217 := hG_216.ext hx119
        have hG_218 := hG_217.ext hx136
        have hG_219 := hG_218.ext hx154
        have hG_220 := hG_219.ext hx155
        have hG_221 := hG_220.ext hx163
        have hG_222 := hG_221.ext hx164
        have hG_223 := hG_222.ext hx165
        have hG_224 := hG_223.ext hx171
        refine Ow.callPA (k := 17) (fs := []) (cs := []) (vs := []) (by simp only [S0, Nat.reduceEqDiff, Nat.reduceAdd, reduceIte, reduceCtorEq, S1, g205_45, g205_50, hd121, hd137, hd172]) rfl rfl (awake_any hG_224) ?_
        intro H206 hx206
        iterate 2 (refine Ow.popM rfl ?_; simp only [S0, Nat.reduceEqDiff, Nat.reduceAdd, reduceIte, reduceCtorEq, S1, g205_45, g205_50, hd121, hd137, hd172])
        refine Ow.nilM ⟨fun _ => by rfl, ?_⟩
        show Cw _ _ _ _ _
        refine Cw.ret ?_
        simp only [Then, InBlock, Rnd, FnPost, resOf, tupled, S0, Nat.reduceEqDiff, Nat.reduceAdd, reduceIte, reduceCtorEq, g205_45, g205_50, hd121, hd137, hd172]
theorem StrengthMonotone_calls (W : World) (a0 a1 b0 b1 c0 c1 d0 d1 : Int) (hG : Glob W) (wa0 : (Lit.int .i8 a0).wf = true) (wa1 : (Lit.int .i8 a1).wf = true) (wb0 : (Lit.int .i8 b0).wf = true) (wb1 : (Lit.int .i8 b1).wf = true) (wc0 : (Lit.int .i8 c0).wf = true) (wc1 : (Lit.int .i8 c1).wf = true) (wd0 : (Lit.int .i8 d0).wf = true) (wd1 : (Lit.int .i8 d1).wf = true) :
    Calls Tryd.prog 12 #[.agg #[.int .i8 a0, .int .i8 a1], .agg #[.int .i8 b0, .int .i8 b1], .agg #[.int .i8 c0, .int .i8 c1], .agg #[.int .i8 d0, .int .i8 d1]] W fun e W' => e = .returned (.bool true) ∧ Go.RowKit.Below W.heap.size W W' :=
  law2 hG (.cons (.agg (.cons (.int _ _) (.cons (.int _ _) .nil))) (.cons (.agg (.cons (.int _ _) (.cons (.int _ _) .nil))) (.cons (.agg (.cons (.int _ _) (.cons (.int _ _) .nil))) (.cons (.agg (.cons (.int _ _) (.cons (.int _ _) .nil))) (.nil))))) (StrengthMonotone_run gl_tabs)
end Go.Proofs.YtcgckodhehnpnaaDoor.X
