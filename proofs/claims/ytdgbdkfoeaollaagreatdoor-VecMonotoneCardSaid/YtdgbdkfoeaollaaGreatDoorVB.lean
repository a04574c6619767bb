/- The bits' functions. -/
import Derived.Test.YtdgbdkfoeaollaaGreatDoorVA
set_option linter.unusedSimpArgs false
set_option linter.unusedVariables false
namespace Go.Proofs.YtdgbdkfoeaollaaGreatDoor.V
open Go Go.AL Go.SX
def bnorm (x : Int) : Int := if x ≤ 3 then x else 2
theorem bnorm_r {x : Int} (h : 0 ≤ x) : 0 ≤ bnorm x ∧ bnorm x ≤ 3 := by unfold bnorm; split <;> omega
def bpair (a b : Int) : Int := 4 * bnorm a + bnorm b
def bAnd (a b : Int) : Int := gu andsL (bpair a b)
def bOr (a b : Int) : Int := gu orsL (bpair a b)
def bXor (a b : Int) : Int := gu xorsL (bpair a b)
def bNot (a : Int) : Int := gu notsL (bnorm a)
def bBuf (a : Int) : Int := bNot (bNot a)
def bEq (a b : Int) : Int := bNot (bXor a b)
def bKn (a : Int) : Bool := decide (a ≤ 1)
def bSame (a b : Int) : Bool := bnorm a == bnorm b
def bLeq (a b : Int) : Bool := bSame a b || (!bKn a && bKn b)
def bMux (s a b : Int) : Int := if s = 1 then bBuf a else if s = 0 then bBuf b else if bEq a b = 1 then a else 2
def ofB (b : Bool) : Int := if b then 1 else 0
/-- A valid bit. -/
def V4 (x : Int) : Prop := 0 ≤ x ∧ x ≤ 3
theorem V4.cases {x : Int} (h : V4 x) : x = 0 ∨ x = 1 ∨ x = 2 ∨ x = 3 := by unfold V4 at h; omega
theorem pair_r {a b : Int} (ha : 0 ≤ a) (hb : 0 ≤ b) : 0 ≤ bpair a b ∧ bpair a b < 16 := by
  have := bnorm_r ha; have := bnorm_r hb; unfold bpair; omega
theorem tab4 {l : List Int} (h : l.all (fun x => decide (0 ≤ x) && decide (x ≤ 3)) = true) {x : Int} (hx : 0 ≤ x ∧ x < l.length) : V4 (gu l x) := by
  have hm := List.mem_of_getElem? (gu_get hx)
  have := List.all_eq_true.1 h _ hm
  simp only [Bool.and_eq_true, decide_eq_true_eq] at this
  exact this
theorem bAnd_4 {a b : Int} (ha : 0 ≤ a) (hb : 0 ≤ b) : V4 (bAnd a b) := tab4 (by decide) (pair_r ha hb)
theorem bOr_4 {a b : Int} (ha : 0 ≤ a) (hb : 0 ≤ b) : V4 (bOr a b) := tab4 (by decide) (pair_r ha hb)
theorem bXor_4 {a b : Int} (ha : 0 ≤ a) (hb : 0 ≤ b) : V4 (bXor a b) := tab4 (by decide) (pair_r ha hb)
theorem bNot_4 {a : Int} (ha : 0 ≤ a) : V4 (bNot a) := tab4 (by decide) (by have := bnorm_r ha; simp [notsL]; omega)
theorem bBuf_4 {a : Int} (ha : 0 ≤ a) : V4 (bBuf a) := bNot_4 (bNot_4 ha).1
theorem bEq_4 {a b : Int} (ha : 0 ≤ a) (hb : 0 ≤ b) : V4 (bEq a b) := bNot_4 (bXor_4 ha hb).1
theorem ofB_4 (b : Bool) : V4 (ofB b) := by cases b <;> simp [ofB, V4]
theorem valid_ok (x : Int) : FvC CX TB (.f 110 [] []) [.i .u8 x] [] (RB (decide (x ≤ 3))) := by
  refine fn_ok rfl rfl fun B D G hG q hq => ?_
  cbv
  subst hG
  exact hq _ _ ⟨_, rfl, rfl, rfl⟩
theorem known_ok (x : Int) : FvC CX TB (.f 94 [] []) [.i .u8 x] [] (RB (bKn x)) := by
  refine fn_ok rfl rfl fun B D G hG q hq => ?_
  cbv
  subst hG
  exact hq _ _ ⟨_, rfl, rfl, rfl⟩
theorem bnorm_ok (x : Int) : FvC CX TB (.f 162 [] []) [.i .u8 x] [] (RI .u8 (bnorm x)) := by
  refine fn_ok rfl rfl fun B D G hG q hq => ?_
  cbv
  refine call hG [] (valid_ok _) ⟨rfl, rfl, rfl⟩ ?_
  rintro _ _ ⟨c, rfl, rfl, hc⟩
  cbv
  refine SX.ite hG (fun h => hq _ _ ⟨_, rfl, rfl, ?_⟩) (fun h => hq _ _ ⟨_, rfl, rfl, ?_⟩) <;> subst hG hc <;> simp [std] at h <;> unfold bnorm <;> simp <;> omega
theorem bpair_ok (a b : Int) (ha : 0 ≤ a) (hb : 0 ≤ b) : FvC CX TB (.f 164 [] []) [.i .u8 a, .i .u8 b] [] (RI .i64 (bpair a b)) := by
  refine fn_ok rfl rfl fun B D G hG q hq => ?_
  cbv
  refine call hG [] (bnorm_ok _) ⟨rfl, rfl, rfl⟩ ?_
  rintro _ _ ⟨x, rfl, rfl, hx⟩
  cbv
  refine call hG [] (bnorm_ok _) ⟨rfl, rfl, rfl⟩ ?_
  rintro _ _ ⟨y, rfl, rfl, hy⟩
  cbv
  subst hG
  have h1 := bnorm_r ha
  have h2 := bnorm_r hb
  rw [← hx] at h1
  rw [← hy] at h2
  refine hq _ _ ⟨_, rfl, rfl, ?_⟩
  simp only [std, arS]
  rw [fwi (x := x) (by omega), fwi (x := y) (by omega)]
  show fwrap .i64 (fwrap .i64 (4 * x) + y) = _
  rw [fwi (x := 4 * x) (by omega), fwi (by omega), hx, hy]
  rfl
theorem bAnd_ok (a b : Int) (ha : 0 ≤ a) (hb : 0 ≤ b) : FvC CX TB (.f 124 [] []) [.i .u8 a, .i .u8 b] [] (RI .u8 (bAnd a b)) := by
  refine fn_ok rfl rfl fun B D G hG q hq => ?_
  cbv
  refine call hG [] (bpair_ok _ _ ha hb) ⟨rfl, rfl, rfl⟩ ?_
  rintro _ _ ⟨x, rfl, rfl, hx⟩
  cbv
  have h1 := pair_r ha hb
  rw [← hx] at h1
  subst hG
  exact ⟨h1, h1, hq _ _ ⟨_, rfl, rfl, by rw [hx]; rfl⟩⟩
theorem bOr_ok (a b : Int) (ha : 0 ≤ a) (hb : 0 ≤ b) : FvC CX TB (.f 97 [] []) [.i .u8 a, .i .u8 b] [] (RI .u8 (bOr a b)) := by
  refine fn_ok rfl rfl fun B D G hG q hq => ?_
  cbv
  refine call hG [] (bpair_ok _ _ ha hb) ⟨rfl, rfl, rfl⟩ ?_
  rintro _ _ ⟨x, rfl, rfl, hx⟩
  cbv
  have h1 := pair_r ha hb
  rw [← hx] at h1
  subst hG
  exact ⟨h1, h1, hq _ _ ⟨_, rfl, rfl, by rw [hx]; rfl⟩⟩
theorem bXor_ok (a b : Int) (ha : 0 ≤ a) (hb : 0 ≤ b) : FvC CX TB (.f 125 [] []) [.i .u8 a, .i .u8 b] [] (RI .u8 (bXor a b)) := by
  refine fn_ok rfl rfl fun B D G hG q hq => ?_
  cbv
  refine call hG [] (bpair_ok _ _ ha hb) ⟨rfl, rfl, rfl⟩ ?_
  rintro _ _ ⟨x, rfl, rfl, hx⟩
  cbv
  have h1 := pair_r ha hb
  rw [← hx] at h1
  subst hG
  exact ⟨h1, h1, hq _ _ ⟨_, rfl, rfl, by rw [hx]; rfl⟩⟩
theorem bNot_ok (a : Int) (ha : 0 ≤ a) : FvC CX TB (.f 111 [] []) [.i .u8 a] [] (RI .u8 (bNot a)) := by
  refine fn_ok rfl rfl fun B D G hG q hq => ?_
  cbv
  refine call hG [] (bnorm_ok _) ⟨rfl, rfl, rfl⟩ ?_
  rintro _ _ ⟨x, rfl, rfl, hx⟩
  cbv
  have h1 := bnorm_r ha
  rw [← hx] at h1
  have h2 : 0 ≤ x ∧ x < 4 := by omega
  subst hG
  exact ⟨h2, h2, hq _ _ ⟨_, rfl, rfl, by rw [hx]; rfl⟩⟩
theorem bBuf_ok (a : Int) (ha : 0 ≤ a) : FvC CX TB (.f 92 [] []) [.i .u8 a] [] (RI .u8 (bBuf a)) := by
  refine fn_ok rfl rfl fun B D G hG q hq => ?_
  cbv
  refine call hG [] (bNot_ok _ ha) ⟨rfl, rfl, rfl⟩ ?_
  rintro _ _ ⟨x, rfl, rfl, hx⟩
  cbv
  refine call hG [] (bNot_ok x (by rw [hx]; exact (bNot_4 ha).1)) ⟨rfl, rfl, rfl⟩ ?_
  rintro _ _ ⟨y, rfl, rfl, hy⟩
  cbv
  exact hq _ _ ⟨_, rfl, rfl, by rw [hy, hx]; rfl⟩
theorem bEq_ok (a b : Int) (ha : 0 ≤ a) (hb : 0 ≤ b) : FvC CX TB (.f 150 [] []) [.i .u8 a, .i .u8 b] [] (RI .u8 (bEq a b)) := by
  refine fn_ok rfl rfl fun B D G hG q hq => ?_
  cbv
  refine call hG [] (bXor_ok _ _ ha hb) ⟨rfl, rfl, rfl⟩ ?_
  rintro _ _ ⟨x, rfl, rfl, hx⟩
  cbv
  refine call hG [] (bNot_ok x (by rw [hx]; exact (bXor_4 ha hb).1)) ⟨rfl, rfl, rfl⟩ ?_
  rintro _ _ ⟨y, rfl, rfl, hy⟩
  cbv
  exact hq _ _ ⟨_, rfl, rfl, by rw [hy, hx]; rfl⟩
theorem bSame_ok (a b : Int) : FvC CX TB (.f 93 [] []) [.i .u8 a, .i .u8 b] [] (RB (bSame a b)) := by
  refine fn_ok rfl rfl fun B D G hG q hq => ?_
  cbv
  refine call hG [] (bnorm_ok _) ⟨rfl, rfl, rfl⟩ ?_
  rintro _ _ ⟨x, rfl, rfl, hx⟩
  cbv
  refine call hG [] (bnorm_ok _) ⟨rfl, rfl, rfl⟩ ?_
  rintro _ _ ⟨y, rfl, rfl, hy⟩
  cbv
  subst hG
  exact hq _ _ ⟨_, rfl, rfl, by rw [hx, hy]; rfl⟩
theorem bLeq_ok (a b : Int) : FvC CX TB (.f 16 [] []) [.i .u8 a, .i .u8 b] [] (RB (bLeq a b)) := by
  refine fn_ok rfl rfl fun B D G hG q hq => ?_
  cbv
  refine call hG [] (bSame_ok _ _) ⟨rfl, rfl, rfl⟩ ?_
  rintro _ _ ⟨x, rfl, rfl, hx⟩
  cbv
  refine SX.ite hG (fun h1 => ?_) (fun h1 => ?_)
  · exact hq _ _ ⟨_, rfl, rfl, by unfold bLeq; rw [← hx, h1]; rfl⟩
  refine call hG [] (known_ok _) ⟨rfl, rfl, rfl⟩ ?_
  rintro _ _ ⟨y, rfl, rfl, hy⟩
  cbv
  refine SX.ite hG (fun h2 => ?_) (fun h2 => ?_)
  · refine call hG [] (known_ok _) ⟨rfl, rfl, rfl⟩ ?_
    rintro _ _ ⟨z, rfl, rfl, hz⟩
    cbv
    exact hq _ _ ⟨_, rfl, rfl, by subst hG; unfold bLeq; rw [← hx, h1, ← hy, ← hz]; simp [std] at h2; simp [h2]⟩
  · exact hq _ _ ⟨_, rfl, rfl, by subst hG; unfold bLeq; rw [← hx, h1, ← hy]; simp [std] at h2; simp [h2]⟩
theorem ofB_ok (b : Bool) : FvC CX TB (.f 86 [] []) [.b b] [] (RI .u8 (ofB b)) := by
  refine fn_ok rfl rfl fun B D G hG q hq => ?_
  cbv
  refine SX.ite hG (fun h => hq _ _ ⟨_, rfl, rfl, ?_⟩) (fun h => hq _ _ ⟨_, rfl, rfl, ?_⟩) <;> rw [h] <;> rfl
theorem bMux_ok (s a b : Int) (ha : 0 ≤ a) (hb : 0 ≤ b) : FvC CX TB (.f 101 [] []) [.i .u8 s, .i .u8 a, .i .u8 b] [] (RI .u8 (bMux s a b)) := by
  refine fn_ok rfl rfl fun B D G hG q hq => ?_
  cbv
  refine SX.ite hG (fun h1 => ?_) (fun h1 => ?_)
  · refine call hG [] (bBuf_ok _ ha) ⟨rfl, rfl, rfl⟩ ?_
    rintro _ _ ⟨x, rfl, rfl, hx⟩
    cbv
    exact hq _ _ ⟨_, rfl, rfl, by subst hG; simp [std, cmpS] at h1; simp [bMux, h1, hx]⟩
  refine SX.ite hG (fun h2 => ?_) (fun h2 => ?_)
  · refine call hG [] (bBuf_ok _ hb) ⟨rfl, rfl, rfl⟩ ?_
    rintro _ _ ⟨x, rfl, rfl, hx⟩
    cbv
    exact hq _ _ ⟨_, rfl, rfl, by subst hG; simp [std, cmpS] at h1 h2; simp [bMux, h1, h2, hx]⟩
  refine call hG [] (bEq_ok _ _ ha hb) ⟨rfl, rfl, rfl⟩ ?_
  rintro _ _ ⟨x, rfl, rfl, hx⟩
  cbv
  refine SX.ite hG (fun h3 => ?_) (fun h3 => ?_)
  · exact hq _ _ ⟨_, rfl, rfl, by subst hG; simp [std, cmpS] at h1 h2 h3; simp [bMux, h1, h2, h3, ← hx]⟩
  · exact hq _ _ ⟨_, rfl, rfl, by subst hG; simp [std, cmpS] at h1 h2 h3; simp [bMux, h1, h2, h3, ← hx]⟩
/-! The reference's, of valid bits. -/
end Go.Proofs.YtdgbdkfoeaollaaGreatDoor.V
