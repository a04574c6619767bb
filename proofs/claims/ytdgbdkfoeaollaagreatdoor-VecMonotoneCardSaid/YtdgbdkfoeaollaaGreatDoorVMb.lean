/- Plain laws: Pow, the shifts, Cond and Truth keep the order; the table of the operators with one operand; Long of six vectors. -/
import Derived.Test.YtdgbdkfoeaollaaGreatDoorVMa
set_option linter.unusedSimpArgs false
set_option linter.unusedVariables false
set_option maxRecDepth 100000
namespace Go.Proofs.YtdgbdkfoeaollaaGreatDoor.V
open Go Go.AL Go.SX
theorem negL_v4 {L : List Int} {g : Bool} (h : NV L) : (negL L g).length = L.length ∧ ∀ x ∈ negL L g, V4 x := by
  unfold negL toL
  rw [nB_id h, nS_id h]
  have := arL_v4 (F := fun x y _ => subF x y) (O := fun _ _ _ => true) (fun x y _ _ => ofN_len _ _) (List.replicate L.length 0) L g g
  refine ⟨?_, this.2⟩
  rw [this.1]
  have hp := List.length_pos_iff.2 h.ne
  have hz : NV (List.replicate L.length (0 : Int)) := nv_rep hp h.len v4_0
  unfold bwd
  rw [nB_id hz, nB_id h, List.length_replicate]
  exact Nat.max_self _
theorem powL_v4 {l m : List Int} {s t : Bool} (hl : NV l) : (powL l s m t).length = l.length ∧ ∀ x ∈ powL l s m t, V4 x := by
  unfold powL
  rw [nB_id hl, nS_id hl]
  split
  · exact ⟨List.length_replicate, rep_v4 v4_2⟩
  · split
    · exact ⟨by rw [intL_len]; show (X.ofN _ _).length = _; rw [ofN_len, boolL_len], intL_v4 _⟩
    · split
      · exact ⟨List.length_replicate, rep_v4 v4_2⟩
      · split
        · exact ⟨rfl, hl.v⟩
        · split
          · exact negL_v4 hl
          · exact ⟨List.length_replicate, rep_v4 v4_0⟩
theorem pow_mn {l l' m m' : List Int} {s t : Bool} (o : Op2 l l' m m') : RB4 (powL l s m t) (powL l' s m' t) := by
  cases h : (kn (nB l) && kn (nB m)) with
  | true =>
    rw [nB_id o.nl, nB_id o.nm] at h
    simp only [Bool.and_eq_true] at h
    rw [rf_known o.rl o.nl o.nl' h.1, rf_known o.rm o.nm o.nm' h.2]
    exact RB4.refl _
  | false =>
    rw [powL_unk h, nB_id o.nl]
    have := powL_v4 (m := m') (s := s) (t := t) o.nl'
    exact RB4.unk (by rw [this.1, o.rl.1]) this.2
theorem shL_v4 {dir : Int} {fr : List Int → Bool → Int} {l m : List Int} {s : Bool} (hl : NV l) (hf : V4 (fr l s)) : (shL dir fr l s m).length = l.length ∧ ∀ x ∈ shL dir fr l s m, V4 x := by
  unfold shL
  rw [nB_id hl, nS_id hl]
  split
  · refine ⟨by simp, fun x hx => ?_⟩
    obtain ⟨i, hi, rfl⟩ := List.mem_map.1 hx
    unfold shF
    split
    · rename_i h2
      obtain ⟨k, hk⟩ : ∃ k : Nat, (i : Int) + dir * ((shN l.length (nB m) : Nat) : Int) = (k : Int) := ⟨((i : Int) + dir * ((shN l.length (nB m) : Nat) : Int)).toNat, by omega⟩
      rw [hk]; exact hl.v _ (gu_mem (by omega))
    · exact hf
  · exact ⟨List.length_replicate, rep_v4 v4_2⟩
theorem sh_mn {dir : Int} {fr : List Int → Bool → Int} {l l' m m' : List Int} {s : Bool} (o : Op2 l l' m m') (hf : V4 (fr l' s)) (hfr : blwF (fr l s) (fr l' s) = true) : RB4 (shL dir fr l s m) (shL dir fr l' s m') := by
  cases h : kn (nB m) with
  | true =>
    rw [nB_id o.nm] at h
    rw [rf_known o.rm o.nm o.nm' h]
    unfold shL
    rw [nB_id o.nl, nB_id o.nl', nB_id o.nm, nS_id o.nl, nS_id o.nl', h, if_pos rfl, if_pos rfl]
    refine ⟨by simp [o.rl.1], fun i hi => ?_⟩
    have hi : i < l.length := by simpa using hi
    rw [shM_get hi, shM_get (by rw [← o.rl.1]; exact hi)]
    unfold shF
    rw [← o.rl.1]
    split
    · rename_i h2
      obtain ⟨k, hk⟩ : ∃ k : Nat, (i : Int) + dir * ((shN l.length m : Nat) : Int) = (k : Int) := ⟨((i : Int) + dir * ((shN l.length m : Nat) : Int)).toNat, by omega⟩
      rw [hk]; exact (o.rl.rb o.nl o.nl').2 k (by omega)
    · exact hfr
  | false =>
    rw [shL_unk h, nB_id o.nl]
    have := shL_v4 (dir := dir) (m := m') o.nl' hf
    exact RB4.unk (by rw [this.1, o.rl.1]) this.2
theorem top_mn {l l' : List Int} (nl : NV l) (nl' : NV l') (h : Rf l l') (s : Bool) : blwF (top l s) (top l' s) = true := bLeq_blw (top_4 nl s) (top_4 nl' s) (h.top nl.ne s)
/-- Bits that are not z. -/
def V3 (x : Int) : Prop := x = 0 ∨ x = 1 ∨ x = 2
theorem bOr_3 {x y : Int} (hx : V4 x) (hy : V4 y) : V3 (bOr x y) := by
  unfold V3
  rcases hx.cases with rfl | rfl | rfl | rfl <;> rcases hy.cases with rfl | rfl | rfl | rfl <;> decide
theorem bBuf_3 {x : Int} (hx : V4 x) : V3 (bBuf x) := by
  unfold V3
  rcases hx.cases with rfl | rfl | rfl | rfl <;> decide
theorem foldOr_3 : ∀ {l : List Int} {a : Int}, V3 a → V4 a → (∀ x ∈ l, V4 x) → V3 (l.foldl bOr a)
  | [], a, h, _, _ => h
  | x :: l, a, h, h4, hl => foldOr_3 (l := l) (bOr_3 h4 (hl x (by simp))) (bOr_44 _ _ h4 (hl x (by simp))) fun y hy => hl y (by simp [hy])
theorem truth_3 {l : List Int} (h : NV l) : V3 (fld bOr l) :=
  foldOr_3 (bBuf_3 (h.v _ (gu_mem (n := 0) (List.length_pos_iff.2 h.ne)))) (bBuf_4 (h.v _ (gu_mem (n := 0) (List.length_pos_iff.2 h.ne))).1) fun y hy => h.v y (List.mem_of_mem_drop hy)
theorem truth_mn {l l' : List Int} (nl : NV l) (nl' : NV l') (h : Rf l l') : blwF (fld bOr l) (fld bOr l') = true := (h.rb nl nl').fld mnOr bOr_44 nl nl'
theorem leq3 {x y : Int} (hx : V3 x) (hy : V3 y) (h : blwF x y = true) : bLeq x y = true := by
  rcases hx with rfl | rfl | rfl <;> rcases hy with rfl | rfl | rfl <;> revert h <;> decide
theorem cond_mn {e e' l l' m m' : List Int} {s t : Bool} (o : Op2 l l' m m') (ne : NV e) (ne' : NV e') (he : Rf e e') : RB4 (condL e l s m t) (condL e' l' s m' t) := by
  have h3 := truth_3 ne
  have h3' := truth_3 ne'
  have hm := truth_mn ne ne' he
  have X1 := bX_nv (s := s) (t := t) (byt_nv o.nl) (byt_nv o.nm)
  have X2 := bX_nv (s := s) (t := t) (byt_nv o.nl') (byt_nv o.nm')
  have Y1 := bY_nv (s := s) (t := t) (byt_nv o.nl) (byt_nv o.nm)
  have Y2 := bY_nv (s := s) (t := t) (byt_nv o.nl') (byt_nv o.nm')
  have rX := o_X (s := s) (t := t) o
  have rY := o_Y (s := s) (t := t) o
  unfold condL
  rw [nB_id ne, nB_id ne']
  generalize fld bOr e = x at *
  generalize fld bOr e' = y at *
  have hz : ∀ i : Nat, i < (bX l s m t).length → V4 (gu (bX l s m t) i) ∧ V4 (gu (bY l s m t) i) ∧ V4 (gu (bX l' s m' t) i) ∧ V4 (gu (bY l' s m' t) i) := fun i hi => by
    have e1 : (bX l s m t).length = (bY l s m t).length := mXY
    have e2 := rX.1
    have e3 := rY.1
    exact ⟨X1.v _ (gu_mem hi), Y1.v _ (gu_mem (by omega)), X2.v _ (gu_mem (by omega)), Y2.v _ (gu_mem (by omega))⟩
  rcases h3 with rfl | rfl | rfl <;> rcases h3' with rfl | rfl | rfl
  all_goals first
    | (exfalso; revert hm; decide)
    | skip
  · rw [if_neg (by decide), if_pos rfl, if_neg (by decide), if_pos rfl]; exact rY
  · rw [if_pos rfl, if_pos rfl]; exact rX
  · rw [if_neg (by decide), if_neg (by decide), if_neg (by decide), if_pos rfl]
    refine ⟨by rw [zipW_len, mXY, rY.1], fun i hi => ?_⟩
    rw [zipW_len] at hi
    obtain ⟨a, b, c, d⟩ := hz i hi
    rw [zipW_get hi]
    exact muxR a b d (rY.2 i (by rw [← mXY]; exact hi))
  · rw [if_neg (by decide), if_neg (by decide), if_pos rfl]
    refine ⟨by rw [zipW_len, rX.1], fun i hi => ?_⟩
    rw [zipW_len] at hi
    obtain ⟨a, b, c, d⟩ := hz i hi
    rw [zipW_get hi]
    exact muxL a b c (rX.2 i hi)
  · rw [if_neg (by decide), if_neg (by decide), if_neg (by decide), if_neg (by decide)]
    exact RB4.zip mnMux X1 X2 Y1 Y2 mXY rX rY
def onesL : List SV := [.n .u8 14, .f 29 [] [], .n .u8 12, .f 49 [] [], .n .u8 13, .f 46 [] [], .n .u8 15, .f 40 [] [], .n .u8 16, .f 41 [] [], .n .u8 17, .f 42 [] [], .n .u8 18, .f 43 [] [], .n .u8 19, .f 44 [] [], .n .u8 20, .f 45 [] []]
theorem ones_ok : FvC CX TB (.f 13 [] []) [] [] (fun r ro => r = .os 0 0 9 2 ∧ ro = [.x onesL]) := by
  refine fn_ok rfl rfl fun B D G hG q hq => ?_
  cbv
  exact hq _ _ ⟨rfl, rfl⟩
theorem long6_ok (a b c d e f : List Int) (s1 s2 s3 s4 s5 s6 : Bool) : FvC CX TB (.f 10 [] []) [.r 2 [.u a, .b s1, .u b, .b s2, .u c, .b s3, .u d, .b s4, .u e, .b s5, .u f, .b s6]] [] (RB (decide (140 < a.length) || decide (140 < b.length) || decide (140 < c.length) || decide (140 < d.length) || decide (140 < e.length) || decide (140 < f.length))) := by
  refine fn_ok rfl rfl fun B D G hG q hq => ?_
  cbv
  refine lp_one hG ?_
  cbv
  refine SX.ite hG (fun h1 => ?_) (fun h1 => ?_)
  · have h1 : 140 < a.length := by have hq_ := h1; simp [hG, std, cmpS, arS, beqS] at hq_; omega
    exact hq _ _ ⟨_, rfl, rfl, by simp [h1]⟩
  have h1 : ¬ 140 < a.length := by have hq_ := h1; simp [hG, std, cmpS, arS, beqS] at hq_; omega
  refine lp_one hG ?_
  cbv
  refine SX.ite hG (fun h2 => ?_) (fun h2 => ?_)
  · have h2 : 140 < b.length := by have hq_ := h2; simp [hG, std, cmpS, arS, beqS] at hq_; omega
    exact hq _ _ ⟨_, rfl, rfl, by simp [h2]⟩
  have h2 : ¬ 140 < b.length := by have hq_ := h2; simp [hG, std, cmpS, arS, beqS] at hq_; omega
  refine lp_one hG ?_
  cbv
  refine SX.ite hG (fun h3 => ?_) (fun h3 => ?_)
  · have h3 : 140 < c.length := by have hq_ := h3; simp [hG, std, cmpS, arS, beqS] at hq_; omega
    exact hq _ _ ⟨_, rfl, rfl, by simp [h3]⟩
  have h3 : ¬ 140 < c.length := by have hq_ := h3; simp [hG, std, cmpS, arS, beqS] at hq_; omega
  refine lp_one hG ?_
  cbv
  refine SX.ite hG (fun h4 => ?_) (fun h4 => ?_)
  · have h4 : 140 < d.length := by have hq_ := h4; simp [hG, std, cmpS, arS, beqS] at hq_; omega
    exact hq _ _ ⟨_, rfl, rfl, by simp [h4]⟩
  have h4 : ¬ 140 < d.length := by have hq_ := h4; simp [hG, std, cmpS, arS, beqS] at hq_; omega
  refine lp_one hG ?_
  cbv
  refine SX.ite hG (fun h5 => ?_) (fun h5 => ?_)
  · have h5 : 140 < e.length := by have hq_ := h5; simp [hG, std, cmpS, arS, beqS] at hq_; omega
    exact hq _ _ ⟨_, rfl, rfl, by simp [h5]⟩
  have h5 : ¬ 140 < e.length := by have hq_ := h5; simp [hG, std, cmpS, arS, beqS] at hq_; omega
  refine lp_one hG ?_
  cbv
  refine SX.ite hG (fun h6 => ?_) (fun h6 => ?_)
  · have h6 : 140 < f.length := by have hq_ := h6; simp [hG, std, cmpS, arS, beqS] at hq_; omega
    exact hq _ _ ⟨_, rfl, rfl, by simp [h6]⟩
  have h6 : ¬ 140 < f.length := by have hq_ := h6; simp [hG, std, cmpS, arS, beqS] at hq_; omega
  refine lp_one hG ?_
  cbv
  exact hq _ _ ⟨_, rfl, rfl, by simp [h1, h2, h3, h4, h5, h6]⟩
end Go.Proofs.YtdgbdkfoeaollaaGreatDoor.V
