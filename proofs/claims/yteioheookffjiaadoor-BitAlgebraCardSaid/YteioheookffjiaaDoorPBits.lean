/- Plain facts about the printed functions on bits: they treat every bit above 3 as 4. -/
import Derived.Test.YteioheookffjiaaDoorF
import Derived.OpenShut
namespace Go.Proofs.YteioheookffjiaaDoor.Pure
open Go.RowKit Go.Proofs.YteioheookffjiaaDoor.F Go.Proofs.YteioheookffjiaaDoorW.PrintWords Go.Proofs.YteioheookffjiaaDoorW.PrintLast
set_option linter.unusedVariables false
set_option linter.unusedSimpArgs false

def cl (a : Int) : Int := if a ≤ 3 then a else 4
def vz (x : Fin 5) : Int := x.val
theorem cl_vz {a : Int} (h : (Lit.int .u8 a).wf = true) : ∃ x : Fin 5, cl a = vz x := by
  have h0 : 0 ≤ a := (Go.bounds_u8 h).1
  by_cases h3 : a ≤ 3
  · refine ⟨⟨a.toNat, by omega⟩, ?_⟩
    unfold cl vz
    rw [if_pos h3]
    show a = ((a.toNat : Nat) : Int)
    omega
  · exact ⟨4, by unfold cl; rw [if_neg h3]; rfl⟩
theorem cl_lo {a : Int} (h : a ≤ 3) : cl a = a := if_pos h
theorem cl_hi {a : Int} (h : ¬ a ≤ 3) : cl a = 4 := if_neg h
theorem cl_le3 (a : Int) : decide (cl a ≤ 3) = decide (a ≤ 3) := by
  unfold cl; split <;> rename_i h
  · rfl
  · rw [decide_eq_false h]; rfl
theorem cl_Valid (a : Int) : bit_Valid.f (cl a) = bit_Valid.f a := by simp only [bit_Valid.f, cl_le3]
theorem cl_norm (a : Int) : bit_norm.f (cl a) = bit_norm.f a := by
  by_cases h : a ≤ 3
  · rw [cl_lo h]
  · rw [cl_hi h]; simp only [bit_norm.f, bit_Valid.f, decide_eq_false h]; rfl
theorem cl_Known (a : Int) : bit_Known.f (cl a) = bit_Known.f a := by
  by_cases h : a ≤ 3
  · rw [cl_lo h]
  · rw [cl_hi h]; simp only [bit_Known.f, decide_eq_false (show ¬ a ≤ 1 by omega)]; rfl
theorem cl_Same1 (a b : Int) : bit_Same.f (cl a) b = bit_Same.f a b := by simp only [bit_Same.f, cl_norm]
theorem cl_Same2 (a b : Int) : bit_Same.f b (cl a) = bit_Same.f b a := by simp only [bit_Same.f, cl_norm]
theorem cl_Leq1 (a b : Int) : bit_Leq.f (cl a) b = bit_Leq.f a b := by simp only [bit_Leq.f, cl_Same1, cl_Known]
theorem cl_Leq2 (a b : Int) : bit_Leq.f b (cl a) = bit_Leq.f b a := by simp only [bit_Leq.f, cl_Same2, cl_Known]
theorem cl_pair1 (a b : Int) : bit_pair.f (cl a) b = bit_pair.f a b := by simp only [bit_pair.f, cl_norm]
theorem cl_pair2 (a b : Int) : bit_pair.f b (cl a) = bit_pair.f b a := by simp only [bit_pair.f, cl_norm]
theorem cl_And1 (a b : Int) : bit_And.f (cl a) b = bit_And.f a b := by simp only [bit_And.f, cl_pair1]
theorem cl_And2 (a b : Int) : bit_And.f b (cl a) = bit_And.f b a := by simp only [bit_And.f, cl_pair2]
theorem cl_Or1 (a b : Int) : bit_Or.f (cl a) b = bit_Or.f a b := by simp only [bit_Or.f, cl_pair1]
theorem cl_Or2 (a b : Int) : bit_Or.f b (cl a) = bit_Or.f b a := by simp only [bit_Or.f, cl_pair2]
theorem cl_Xor1 (a b : Int) : bit_Xor.f (cl a) b = bit_Xor.f a b := by simp only [bit_Xor.f, cl_pair1]
theorem cl_Xor2 (a b : Int) : bit_Xor.f b (cl a) = bit_Xor.f b a := by simp only [bit_Xor.f, cl_pair2]
theorem cl_Not (a : Int) : bit_Not.f (cl a) = bit_Not.f a := by simp only [bit_Not.f, cl_norm]
theorem cl_Buf (a : Int) : bit_Buf.f (cl a) = bit_Buf.f a := by simp only [bit_Buf.f, cl_Not]
theorem cl_Eq1 (a b : Int) : bit_Eq.f (cl a) b = bit_Eq.f a b := by simp only [bit_Eq.f, cl_Xor1]
theorem cl_Eq2 (a b : Int) : bit_Eq.f b (cl a) = bit_Eq.f b a := by simp only [bit_Eq.f, cl_Xor2]
theorem cl_Char (a : Int) : bit_Char.f (cl a) = bit_Char.f a := by simp only [bit_Char.f, cl_norm]
theorem cl_is0 (a : Int) : (cl a = 0) = (a = 0) := by unfold cl; split <;> simp <;> omega
theorem cl_is1 (a : Int) : (cl a = 1) = (a = 1) := by unfold cl; split <;> simp <;> omega
theorem cl_beq0 (a : Int) : (cl a == 0) = (a == 0) := by rw [Bool.eq_iff_iff, beq_iff_eq, beq_iff_eq, cl_is0]
theorem cl_beq1 (a : Int) : (cl a == 1) = (a == 1) := by rw [Bool.eq_iff_iff, beq_iff_eq, beq_iff_eq, cl_is1]
/-- A bit that equals another one, both known. -/
theorem eq_big {a : Int} (h : ¬ a ≤ 3) {b : Int} (hb : (Lit.int .u8 b).wf = true) : bit_Eq.f a b = some 2 := by
  obtain ⟨x, hx⟩ := cl_vz hb
  rw [← cl_Eq1, ← cl_Eq2 b, hx, cl_hi h]
  clear hx
  revert x
  decide +kernel
theorem cl_Mux0 (s a b : Int) : bit_Mux.f (cl s) a b = bit_Mux.f s a b := by simp only [bit_Mux.f, cl_is0, cl_is1]
theorem cl_Mux1 (s : Int) {a b : Int} (hb : (Lit.int .u8 b).wf = true) : bit_Mux.f s (cl a) b = bit_Mux.f s a b := by
  by_cases h : a ≤ 3
  · rw [cl_lo h]
  · simp only [bit_Mux.f, cl_Buf, cl_Eq1, eq_big h hb]; rfl
theorem cl_Mux2 (s a b : Int) : bit_Mux.f s a (cl b) = bit_Mux.f s a b := by simp only [bit_Mux.f, cl_Buf, cl_Eq2]
theorem wf_cl {a : Int} (h : (Lit.int .u8 a).wf = true) : (Lit.int .u8 (cl a)).wf = true := by
  unfold cl; split
  · exact h
  · rfl
/- the reference -/
theorem cl_rKnown (a : Int) : netlabref01_Known.f (cl a) = netlabref01_Known.f a := by simp only [netlabref01_Known.f, cl_is0, cl_beq1]
theorem cl_rNot (a : Int) : netlabref01_Not.f (cl a) = netlabref01_Not.f a := by simp only [netlabref01_Not.f, cl_is0, cl_is1]
theorem cl_rBuf (a : Int) : netlabref01_Buf.f (cl a) = netlabref01_Buf.f a := by
  by_cases h : a ≤ 3
  · rw [cl_lo h]
  · have hk : netlabref01_Known.f a = some false := by
      unfold netlabref01_Known.f
      rw [if_neg (by omega)]
      simp
      omega
    have hk4 : netlabref01_Known.f 4 = some false := by decide +kernel
    rw [cl_hi h]
    simp only [netlabref01_Buf.f, hk, hk4]
    rfl
theorem cl_rNorm (a : Int) : netlabref01_Norm.f (cl a) = netlabref01_Norm.f a := by
  by_cases h : a ≤ 3
  · rw [cl_lo h]
  · rw [cl_hi h]; unfold netlabref01_Norm.f; rw [if_pos (by omega), if_pos (by omega)]
theorem cl_rChar (a : Int) : netlabref01_Char.f (cl a) = netlabref01_Char.f a := by simp only [netlabref01_Char.f, cl_rNorm]
theorem cl_rAnd1 (k : Nat) (a b : Int) : netlabref01_And.f (k + 1) (cl a) b = netlabref01_And.f (k + 1) a b := by simp only [netlabref01_And.f, netlabref01_And.j0, cl_is0, cl_is1]
theorem cl_rAnd2 (k : Nat) (a b : Int) : netlabref01_And.f (k + 1) b (cl a) = netlabref01_And.f (k + 1) b a := by simp only [netlabref01_And.f, netlabref01_And.j0, cl_beq0, cl_is1]
theorem cl_rOr1 (k : Nat) (a b : Int) : netlabref01_Or.f (k + 1) (cl a) b = netlabref01_Or.f (k + 1) a b := by simp only [netlabref01_Or.f, netlabref01_Or.j0, cl_is0, cl_is1]
theorem cl_rOr2 (k : Nat) (a b : Int) : netlabref01_Or.f (k + 1) b (cl a) = netlabref01_Or.f (k + 1) b a := by simp only [netlabref01_Or.f, netlabref01_Or.j0, cl_is0, cl_beq1]
theorem rKnown_hi {a : Int} (h : ¬ a ≤ 3) : netlabref01_Known.f a = some false := by
  unfold netlabref01_Known.f
  rw [if_neg (by omega)]
  simp
  omega
theorem cl_rXor1 (k : Nat) (a b : Int) : netlabref01_Xor.f (k + 1) (cl a) b = netlabref01_Xor.f (k + 1) a b := by
  by_cases h : a ≤ 3
  · rw [cl_lo h]
  · rw [cl_hi h]; simp only [netlabref01_Xor.f, rKnown_hi h, rKnown_hi (show ¬ (4 : Int) ≤ 3 by decide)]; rfl
theorem cl_rXor2 (k : Nat) (a b : Int) : netlabref01_Xor.f (k + 1) b (cl a) = netlabref01_Xor.f (k + 1) b a := by
  by_cases h : a ≤ 3
  · rw [cl_lo h]
  · rw [cl_hi h]
    simp only [netlabref01_Xor.f, rKnown_hi h, rKnown_hi (show ¬ (4 : Int) ≤ 3 by decide)]
    rfl
theorem cl_rEq1 (k : Nat) (a b : Int) : netlabref01_Eq.f (k + 1) (cl a) b = netlabref01_Eq.f (k + 1) a b := by simp only [netlabref01_Eq.f, cl_rXor1]
theorem cl_rEq2 (k : Nat) (a b : Int) : netlabref01_Eq.f (k + 1) b (cl a) = netlabref01_Eq.f (k + 1) b a := by simp only [netlabref01_Eq.f, cl_rXor2]
theorem cl_rSame1 (a b : Int) : netlabref01_Same.f (cl a) b = netlabref01_Same.f a b := by simp only [netlabref01_Same.f, cl_rNorm]
theorem cl_rSame2 (a b : Int) : netlabref01_Same.f b (cl a) = netlabref01_Same.f b a := by simp only [netlabref01_Same.f, cl_rNorm]
theorem cl_rLeq1 (a b : Int) : netlabref01_Leq.f (cl a) b = netlabref01_Leq.f a b := by simp only [netlabref01_Leq.f, cl_rSame1, cl_rKnown]
theorem cl_rLeq2 (a b : Int) : netlabref01_Leq.f b (cl a) = netlabref01_Leq.f b a := by simp only [netlabref01_Leq.f, cl_rSame2, cl_rKnown]
theorem cl_rMux0 (s a b : Int) : netlabref01_Mux.f (cl s) a b = netlabref01_Mux.f s a b := by simp only [netlabref01_Mux.f, cl_is0, cl_is1]
theorem cl_rMux1 (s a b : Int) : netlabref01_Mux.f s (cl a) b = netlabref01_Mux.f s a b := by
  by_cases h : a ≤ 3
  · rw [cl_lo h]
  · simp only [netlabref01_Mux.f, cl_rBuf, cl_rKnown, rKnown_hi h]; rfl
theorem rKnown_lo {a : Int} (h : netlabref01_Known.f a = some true) : a = 0 ∨ a = 1 := by
  unfold netlabref01_Known.f at h
  by_cases h0 : a = 0
  · exact .inl h0
  · rw [if_neg h0] at h
    simp at h
    exact .inr h
theorem cl_rMux2 (s a b : Int) : netlabref01_Mux.f s a (cl b) = netlabref01_Mux.f s a b := by
  by_cases h : b ≤ 3
  · rw [cl_lo h]
  · rw [cl_hi h]
    simp only [netlabref01_Mux.f]
    have hb : netlabref01_Buf.f b = netlabref01_Buf.f 4 := by rw [← cl_rBuf, cl_hi h]
    rw [hb]
    cases hk : netlabref01_Known.f a with
    | none => rfl
    | some t =>
      cases t with
      | false => rfl
      | true =>
        rcases rKnown_lo hk with rfl | rfl <;> simp only [Option.bind_some, if_true] <;> rw [if_neg (show ¬ (_ : Int) = 4 by decide), if_neg (show ¬ (_ : Int) = b by omega)]
end Go.Proofs.YteioheookffjiaaDoor.Pure
