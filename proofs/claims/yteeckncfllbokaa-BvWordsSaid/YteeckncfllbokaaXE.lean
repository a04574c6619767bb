/- The vectors of integers; products. -/
import Derived.Test.YteeckncfllbokaaXB
import Derived.Test.YteeckncfllbokaaXD
set_option linter.unusedSimpArgs false
set_option linter.unusedVariables false
namespace Go.Proofs.Yteeckncfllbokaa.X
open Go Go.AL
variable {ext : Nat → Option (List Value → AH → Option (Value × AH))}
theorem wrap_small {x : Nat} (h : x < 2 ^ 63) : IntKind.wrap .i64 (x : Int) = (x : Int) := by
  have e : (x : Int) % 2 ^ 64 = x := Int.emod_eq_of_lt (by omega) (by omega)
  unfold IntKind.wrap
  simp only [show IntKind.bits .i64 = 64 from rfl, show IntKind.signed .i64 = true from rfl, e, Bool.true_and, decide_eq_true_eq, Nat.reduceSub]
  rw [if_neg (by omega)]
theorem and1 (a : Int) : IntKind.wrap .i64 ((BitVec.ofInt (IntKind.bits .i64) a &&& BitVec.ofInt (IntKind.bits .i64) 1).toNat : Int) = a % 2 := by
  have e : (BitVec.ofInt (IntKind.bits .i64) a &&& BitVec.ofInt (IntKind.bits .i64) 1).toNat = (a % 2).toNat := by
    rw [BitVec.toNat_and, show (BitVec.ofInt (IntKind.bits .i64) 1).toNat = 1 from rfl, Nat.and_one_is_mod]
    show (BitVec.ofInt 64 a).toNat % 2 = _
    rw [BitVec.toNat_ofInt]
    omega
  rw [e, wrap_small (by omega)]
  omega
/-- The lowest n bits of an integer. -/
def ofI (n : Nat) (x : Int) : List Bool := (List.range n).map fun i => x.fdiv (2 ^ i) % 2 == 1
theorem ofI_length (n : Nat) (x : Int) : (ofI n x).length = n := by simp [ofI]
theorem ofI_succ (n : Nat) (x : Int) : ofI (n + 1) x = ofI n x ++ [x.fdiv (2 ^ n) % 2 == 1] := by simp [ofI, List.range_succ]
theorem ofI_nat (n x : Nat) : ofI n (x : Int) = ofN n x := by
  unfold ofI ofN
  refine List.map_congr_left fun i _ => ?_
  rw [Nat.testBit_eq_decide_div_mod_eq]
  have : (x : Int).fdiv (2 ^ i) = ((x / 2 ^ i : Nat) : Int) := by
    rw [Int.fdiv_eq_ediv_of_nonneg _ (Int.le_of_lt (Int.pow_pos (by decide)))]
    push_cast; rfl
  rw [this]
  have h2 : ((x / 2 ^ i : Nat) : Int) % 2 = ((x / 2 ^ i % 2 : Nat) : Int) := by omega
  rw [h2]
  rcases Nat.mod_two_eq_zero_or_one (x / 2 ^ i) with h | h <;> rw [h] <;> rfl
theorem fdiv_succ (x : Int) (k : Nat) : (x.fdiv (2 ^ k)).fdiv 2 = x.fdiv (2 ^ (k + 1)) := by
  rw [Int.fdiv_eq_ediv_of_nonneg _ (by decide), Int.fdiv_eq_ediv_of_nonneg _ (Int.le_of_lt (Int.pow_pos (by decide))), Int.fdiv_eq_ediv_of_nonneg _ (Int.le_of_lt (Int.pow_pos (by decide))), Int.ediv_ediv_of_nonneg (Int.le_of_lt (Int.pow_pos (by decide))), Int.pow_succ]
/-- ref FromInt -/
theorem FromInt_any (hx : Ext0 ext) {H : AH} {x : Int} {n : Nat} (hn : n ≤ 128) :
    Run (Cx ext) 44 [.int .i64 x, .int .i64 n] H fun r H' => AL.Ext H H' ∧ ∃ v, r = .tuple ⟨[v, .int .i64 0]⟩ ∧ IsG H H' v (ofI n x) := by
  refine Run.intro (fi := IR.fi44) (hx 44 (by decide)) (by kernel_rfl) ?_
  unfold IR.fi44
  simp only [envOf_cons, envOf_nil]
  refine Cw.seq (Cw.region ?_)
  iterate 2 (refine Ow.popM rfl ?_; simp only [S0, Nat.reduceEqDiff, Nat.reduceAdd, reduceIte, reduceCtorEq])
  refine Ow.nilM ⟨nofun, ?_⟩
  refine Cw.seq (Cw.seq (Cw.region ?_))
  have c1 : decide ((n : Int) < 0) = false := by simp
  have c2 : decide ((n : Int) > 128) = false := by simp; omega
  iterate 6 (refine Ow.popM rfl ?_; simp only [S0, Nat.reduceEqDiff, Nat.reduceAdd, reduceIte, reduceCtorEq, c1, c2])
  refine Ow.nilM ⟨nofun, ?_⟩
  refine Cw.cond (t := false) (by simp only [S0, Nat.reduceEqDiff, Nat.reduceAdd, reduceIte, reduceCtorEq]) ?_
  refine Cw.skip ?_
  refine Cw.seq (Cw.region ?_)
  (refine Ow.popM rfl ?_; simp only [S0, Nat.reduceEqDiff, Nat.reduceAdd, reduceIte, reduceCtorEq])
  refine Ow.nilM ⟨nofun, ?_⟩
  refine Cw.seq (Cw.seq (Cw.region ?_))
  (refine Ow.popM rfl ?_; simp only [S0, Nat.reduceEqDiff, Nat.reduceAdd, reduceIte, reduceCtorEq])
  refine Ow.nilM ⟨nofun, ?_⟩
  refine Cw.block (Cw.loopI n (fun k E H2 => (E.get 0 = some (.int .i64 (x.fdiv (2 ^ k))) ∧ E.get 1 = some (.int .i64 (n : Int)) ∧ E.get 7 = some (.int .i64 (k : Int))) ∧ AL.Ext H H2 ∧ ∃ u, E.get 6 = some u ∧ IsG H H2 u (ofI k x)) ⟨?_, AL.Ext.refl _, _, by simp only [S0, Nat.reduceEqDiff, Nat.reduceAdd, reduceIte, reduceCtorEq], .inl ⟨rfl, by simp [ofI]⟩⟩ ?_)
  · simp only [S0, Nat.reduceEqDiff, Nat.reduceAdd, reduceIte, reduceCtorEq, Int.pow_zero, Int.fdiv_one]; exact ⟨trivial, trivial, rfl⟩
  rintro k E H2 hk ⟨⟨e0, e1, e7⟩, hxt, u, e6, hu⟩
  refine Cw.seq (Cw.seq (Cw.region ?_))
  by_cases hlt : k < n
  · iterate 3 (refine Ow.popM rfl ?_; simp only [S0, Nat.reduceEqDiff, Nat.reduceAdd, reduceIte, reduceCtorEq, e1, e7, lt_true hlt])
    refine Ow.nilM ⟨nofun, ?_⟩
    refine Cw.cond (t := true) (by simp only [S0, Nat.reduceEqDiff, Nat.reduceAdd, reduceIte, reduceCtorEq]) ?_
    refine Cw.skip ?_
    refine Cw.seq (Cw.block (Cw.seq (Cw.region ?_)))
    iterate 4 (refine Ow.popM rfl ?_; simp only [S0, Nat.reduceEqDiff, Nat.reduceAdd, reduceIte, reduceCtorEq, e0, e6, and1])
    (refine Ow.hopM rfl rfl ?_; simp only [S0, Nat.reduceEqDiff, Nat.reduceAdd, reduceIte, reduceCtorEq, S2, show Nat.ble 1 1 = true from rfl])
    have hx4 : AL.Ext H (H2.new ⟨[.bool (x.fdiv (2 ^ k) % 2 == 1)], 0⟩) := hxt.new _
    have hu4 : IsG H (H2.new ⟨[.bool (x.fdiv (2 ^ k) % 2 == 1)], 0⟩) u (ofI k x) := hu.ext ((AL.Ext.refl _).new _)
    refine Ow.appB (H0 := H) rfl (by simp only [S0, Nat.reduceEqDiff, Nat.reduceAdd, reduceIte, reduceCtorEq]) (by simp only [S0, Nat.reduceEqDiff, Nat.reduceAdd, reduceIte, reduceCtorEq]) hu4 (lit1 _) hx4 (by simp [ofI_length]; omega) ?_
    intro r H4 b hx5 hr
    (refine Ow.popM rfl ?_; simp only [S0, Nat.reduceEqDiff, Nat.reduceAdd, reduceIte, reduceCtorEq])
    refine Ow.nilM ⟨nofun, ?_⟩
    show Cw _ _ _ _ _
    refine Cw.region ?_
    (refine Ow.popM rfl ?_; simp only [S0, Nat.reduceEqDiff, Nat.reduceAdd, reduceIte, reduceCtorEq, e0])
    (refine Ow.popM rfl ?_; simp only [S0, Nat.reduceEqDiff, Nat.reduceAdd, reduceIte, reduceCtorEq, aShift, show ¬ ((1 : Int) < 0) from by decide, show (2 : Int) ^ Nat.min (Int.toNat 1) (IntKind.bits .i64) = 2 from rfl, fdiv_succ])
    (refine Ow.popM rfl ?_; simp only [S0, Nat.reduceEqDiff, Nat.reduceAdd, reduceIte, reduceCtorEq])
    refine Ow.nilM ⟨nofun, ?_⟩
    show Cw _ _ _ _ _
    refine Cw.region ?_
    iterate 3 (refine Ow.popM rfl ?_; simp only [S0, Nat.reduceEqDiff, Nat.reduceAdd, reduceIte, reduceCtorEq, e7, fw_succ (show k < 2 ^ 62 by omega)])
    refine Ow.nilM ⟨nofun, hlt, ?_, hx5, r, ?_, ?_⟩
    · simp only [S0, Nat.reduceEqDiff, Nat.reduceAdd, reduceIte, reduceCtorEq, e1, and_self]
    · simp only [S0, Nat.reduceEqDiff, Nat.reduceAdd, reduceIte, reduceCtorEq]
    · rw [ofI_succ]; exact hr
  · obtain rfl : k = n := by omega
    iterate 3 (refine Ow.popM rfl ?_; simp only [S0, Nat.reduceEqDiff, Nat.reduceAdd, reduceIte, reduceCtorEq, e1, e7, lt_false (Nat.lt_irrefl k)])
    refine Ow.nilM ⟨nofun, ?_⟩
    refine Cw.cond (t := false) (by simp only [S0, Nat.reduceEqDiff, Nat.reduceAdd, reduceIte, reduceCtorEq]) ?_
    refine Cw.exit ?_
    show Cw _ _ _ _ _
    refine Cw.seq (Cw.region ?_)
    iterate 3 (refine Ow.popM rfl ?_; simp only [S0, Nat.reduceEqDiff, Nat.reduceAdd, reduceIte, reduceCtorEq, e6])
    refine Ow.nilM ⟨nofun, ?_⟩
    refine Cw.ret ?_
    simp only [Then, InBlock, Rnd, FnPost, resOf, tupled, S0, Nat.reduceEqDiff, Nat.reduceAdd, reduceIte, reduceCtorEq]
    exact ⟨hxt, _, rfl, hu⟩
/-- of -/
theorem of_any (hx : Ext0 ext) {H : AH} {x : Int} {n : Nat} (hn : n ≤ 128) :
    Run (Cx ext) 29 [.int .i64 x, .int .i64 n] H fun r H' => AL.Ext H H' ∧ IsG H H' r (ofI n x) := by
  refine Run.intro (fi := IR.fi29) (hx 29 (by decide)) (by kernel_rfl) ?_
  unfold IR.fi29
  simp only [envOf_cons, envOf_nil]
  refine Cw.seq (Cw.region ?_)
  (refine Ow.popM rfl ?_; simp only [S0, Nat.reduceEqDiff, Nat.reduceAdd, reduceIte, reduceCtorEq])
  refine Ow.nilM ⟨nofun, ?_⟩
  refine Cw.seq (Cw.region ?_)
  iterate 2 (refine Ow.popM rfl ?_; simp only [S0, Nat.reduceEqDiff, Nat.reduceAdd, reduceIte, reduceCtorEq])
  refine Ow.callE (k := 44) (fs := []) (cs := []) (vs := [.int .i64 x, .int .i64 n]) rfl rfl (by simp only [S0, Nat.reduceEqDiff, Nat.reduceAdd, reduceIte, reduceCtorEq]) (FromInt_any hx hn) ?_
  rintro _ H1 w hx1 ⟨v, rfl, hv⟩
  iterate 5 (refine Ow.popM rfl ?_; simp only [S0, Nat.reduceEqDiff, Nat.reduceAdd, reduceIte, reduceCtorEq, List.getElem?_cons_zero, List.getElem?_cons_succ])
  refine Ow.nilM ⟨nofun, ?_⟩
  refine Cw.seq (Cw.region ?_)
  iterate 2 (refine Ow.popM rfl ?_; simp only [S0, Nat.reduceEqDiff, Nat.reduceAdd, reduceIte, reduceCtorEq])
  refine Ow.nilM ⟨nofun, ?_⟩
  refine Cw.ret ?_
  simp only [Then, InBlock, Rnd, FnPost, resOf, tupled, S0, Nat.reduceEqDiff, Nat.reduceAdd, reduceIte, reduceCtorEq]
  exact ⟨hx1, hv⟩
end Go.Proofs.Yteeckncfllbokaa.X
