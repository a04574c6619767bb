/- own, and the reference's power. -/
import Derived.Test.YteeckncfllbokaaXS
set_option linter.unusedSimpArgs false
set_option linter.unusedVariables false
namespace Go.Proofs.Yteeckncfllbokaa.X
open Go Go.AL
variable {ext : Nat → Option (List Value → AH → Option (Value × AH))}
/-- own -/
theorem own_any (hx : Ext0 ext) {H : AH} {v : Value} {l : List Bool} (hv : IsB H v l) (hl : l.length < 2 ^ 35) : Run (Cx ext) 15 [v] H fun r H' => AL.Ext H H' ∧ IsR H H' r l := by
  refine Run.intro (fi := IR.fi15) (hx 15 (by decide)) (by kernel_rfl) ?_
  unfold IR.fi15
  simp only [envOf_cons, envOf_nil]
  refine Cw.seq (Cw.region ?_)
  (refine Ow.popM rfl ?_; simp only [S0, Nat.reduceEqDiff, Nat.reduceAdd, reduceIte, reduceCtorEq])
  refine Ow.nilM ⟨nofun, ?_⟩
  refine Cw.seq (Cw.region ?_)
  (refine Ow.hopM rfl rfl ?_; simp only [S0, Nat.reduceEqDiff, Nat.reduceAdd, reduceIte, reduceCtorEq, AL.fillParts])
  have hx0 := (AL.Ext.refl H).new (⟨[], 0⟩ : Blk)
  have hM : IsM (H.new ⟨[], 0⟩) (.slice (some ⟨H.n, 0, none⟩) 0 0) [] H.n := ⟨rfl, Nat.lt_succ_self _, T.get_set_self _ _ _⟩
  (refine Ow.popM rfl ?_; simp only [S0, Nat.reduceEqDiff, Nat.reduceAdd, reduceIte, reduceCtorEq])
  refine Ow.appX (H0 := H) rfl (by simp only [S0, Nat.reduceEqDiff, Nat.reduceAdd, reduceIte, reduceCtorEq]) (by simp only [S0, Nat.reduceEqDiff, Nat.reduceAdd, reduceIte, reduceCtorEq]) hM (Nat.le_refl _) (hv.ext hx0) (by simp; omega) ?_
  intro r H1 w1 hx1 hr
  (refine Ow.popM rfl ?_; simp only [S0, Nat.reduceEqDiff, Nat.reduceAdd, reduceIte, reduceCtorEq])
  refine Ow.nilM ⟨nofun, ?_⟩
  refine Cw.ret ?_
  simp only [Then, InBlock, Rnd, FnPost, resOf, tupled, S0, Nat.reduceEqDiff, Nat.reduceAdd, reduceIte, reduceCtorEq]
  exact ⟨hx0.trans hx1, hr⟩
theorem val_power (n : Nat) : val (List.replicate n false ++ [true]) = 2 ^ n := by rw [val_append]; simp [val]
/-- power -/
theorem power_any (hx : Ext0 ext) {H : AH} {n : Nat} (hn : n < 2 ^ 34) : Run (Cx ext) 62 [.int .i64 n] H fun r H' => AL.Ext H H' ∧ IsR H H' r (List.replicate n false ++ [true]) := by
  refine Run.intro (fi := IR.fi62) (hx 62 (by decide)) (by kernel_rfl) ?_
  unfold IR.fi62
  simp only [envOf_cons, envOf_nil]
  refine Cw.seq (Cw.region ?_)
  (refine Ow.popM rfl ?_; simp only [S0, Nat.reduceEqDiff, Nat.reduceAdd, reduceIte, reduceCtorEq])
  refine Ow.nilM ⟨nofun, ?_⟩
  refine Cw.seq (Cw.region ?_)
  (refine Ow.popM rfl ?_; simp only [S0, Nat.reduceEqDiff, Nat.reduceAdd, reduceIte, reduceCtorEq])
  refine Ow.makeB (k := .i64) (n := n) rfl (by simp only [S0, Nat.reduceEqDiff, Nat.reduceAdd, reduceIte, reduceCtorEq]) (by omega) ?_
  have hx0 := (AL.Ext.refl H).new (⟨(List.replicate n false).map .bool, 0⟩ : Blk)
  have hM0 : IsM (H.new ⟨(List.replicate n false).map .bool, 0⟩) (.slice (some ⟨H.n, 0, none⟩) n n) (List.replicate n false) H.n := ⟨by rw [List.length_replicate], Nat.lt_succ_self _, T.get_set_self _ _ _⟩
  generalize hHa : H.new ⟨(List.replicate n false).map .bool, 0⟩ = Ha at *
  (refine Ow.hopM rfl rfl ?_; simp only [S0, Nat.reduceEqDiff, Nat.reduceAdd, reduceIte, reduceCtorEq, S2, show Nat.ble 1 1 = true from rfl])
  have hx1 := (AL.Ext.refl Ha).new (⟨[.bool true], 0⟩ : Blk)
  refine Ow.appX (H0 := H) rfl (by simp only [S0, Nat.reduceEqDiff, Nat.reduceAdd, reduceIte, reduceCtorEq]) (by simp only [S0, Nat.reduceEqDiff, Nat.reduceAdd, reduceIte, reduceCtorEq]) (IsM_ext hM0 hx1) (Nat.le_refl _) (lit1 (H := Ha) true) (by simp; omega) ?_
  intro r H1 w1 hx2 hr
  (refine Ow.popM rfl ?_; simp only [S0, Nat.reduceEqDiff, Nat.reduceAdd, reduceIte, reduceCtorEq])
  refine Ow.nilM ⟨nofun, ?_⟩
  refine Cw.ret ?_
  simp only [Then, InBlock, Rnd, FnPost, resOf, tupled, S0, Nat.reduceEqDiff, Nat.reduceAdd, reduceIte, reduceCtorEq]
  exact ⟨(hx0.trans hx1).trans hx2, hr⟩
end Go.Proofs.Yteeckncfllbokaa.X
