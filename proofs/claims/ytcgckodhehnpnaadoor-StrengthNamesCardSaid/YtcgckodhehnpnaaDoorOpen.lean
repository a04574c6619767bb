/- What a row's arguments are, opened: structs of two whole numbers, rows of anything; and their sizes. -/
import Derived.SizedLaws
import Derived.ChangeSlices
import Derived.ChangeSame
import Derived.RowKit
import Derived.ChangeMaps5
import Derived.Lib.LaidTab
import Derived.Test.YtcgckodhehnpnaaDoorWWords
namespace Go.Proofs.YtcgckodhehnpnaaDoor.Open
open Go.ChangeShapes Go.WideShapes Go.Proofs.YtcgckodhehnpnaaDoorW.PrintWords
variable {H : Type} {enc : TypeId × Value → H} {P : Program} {w : World} {base : Nat} {sp : Nat → Bool} {held : Bool}
theorem open_st2 {t : TypeId} {f0 f1 : Field} {k0 k1 : IntKind} {fuel : Nat} {cs : List Value} {x : DataW H × List MemPlace} (ht : P.underlying t = some (.struct #[f0, f1])) (h0 : P.underlying f0.type = some (.int k0)) (h1 : P.underlying f1.type = some (.int k1))
    (o0 : f0.offset = 0) (o1 : f1.offset = 1) (c0 : P.cellsOf f0.type = 1) (c1 : P.cellsOf f1.type = 1) (ct : P.cellsOf t = 2) (h : DataW.trod enc P w base sp held fuel t cs = some x) :
    ∃ a b, cs = [.int k0 a, .int k1 b] ∧ x = (.agg [.lit (.int k0 a), .lit (.int k1 b)], []) ∧ (Lit.int k0 a).wf = true ∧ (Lit.int k1 b).wf = true := by
  obtain ⟨y0, y1, n, rfl, hl, e0, e1⟩ := trod_struct2 ht h
  rw [ct] at hl
  match cs, hl with
  | [u, v], _ =>
    rw [o0, c0] at e0
    rw [o1, c1] at e1
    simp only [List.drop_zero, List.take_succ_cons, List.take_zero, List.drop_succ_cons, List.take_nil] at e0 e1
    obtain ⟨a, ha, rfl, wa⟩ := DataW.trod_int h0 e0
    obtain ⟨b, hb, rfl, wb⟩ := DataW.trod_int h1 e1
    simp only [List.cons.injEq, and_true] at ha hb
    subst ha hb
    exact ⟨a, b, rfl, rfl, wa, wb⟩
theorem open_st2_arg {t : TypeId} {f0 f1 : Field} {k0 k1 : IntKind} {r : Reach} {b0 : Nat} {v : Value} {d : DataW H} {ps : List MemPlace} (ht : P.underlying t = some (.struct #[f0, f1])) (h0 : P.underlying f0.type = some (.int k0)) (h1 : P.underlying f1.type = some (.int k1))
    (o0 : f0.offset = 0) (o1 : f1.offset = 1) (c0 : P.cellsOf f0.type = 1) (c1 : P.cellsOf f1.type = 1) (ct : P.cellsOf t = 2) (hval : Value.okWide P w r b0 t v) (hd : DataW.Trod enc P w base sp held t v d ps) :
    ∃ a b, v = .agg #[.int k0 a, .int k1 b] ∧ d = .agg [.lit (.int k0 a), .lit (.int k1 b)] ∧ ps = [] ∧ (Lit.int k0 a).wf = true ∧ (Lit.int k1 b).wf = true := by
  obtain ⟨cs, rfl, _⟩ := okWide_struct ht hval
  obtain ⟨fuel, hf⟩ := hd
  obtain ⟨a, b, hcs, hx, wa, wb⟩ := open_st2 ht h0 h1 o0 o1 c0 c1 ct hf
  obtain ⟨rfl, rfl⟩ := Prod.mk.inj hx
  refine ⟨a, b, ?_, rfl, rfl, wa, wb⟩
  have : cs.toList = [.int k0 a, .int k1 b] := by simpa [Value.cells] using hcs
  rw [show cs = #[.int k0 a, .int k1 b] from by apply Array.toList_inj.1; simpa using this]
theorem shut_st2 {t : TypeId} {f0 f1 : Field} {k0 k1 : IntKind} {a b : Int} (ht : P.underlying t = some (.struct #[f0, f1])) (h0 : P.underlying f0.type = some (.int k0)) (h1 : P.underlying f1.type = some (.int k1))
    (o0 : f0.offset = 0) (o1 : f1.offset = 1) (c0 : P.cellsOf f0.type = 1) (c1 : P.cellsOf f1.type = 1) (ct : P.cellsOf t = 2) (wa : (Lit.int k0 a).wf = true) (wb : (Lit.int k1 b).wf = true) :
    DataW.Trod enc P w base sp held t (.agg #[.int k0 a, .int k1 b]) (.agg [.lit (.int k0 a), .lit (.int k1 b)]) [] := by
  refine ⟨2, ?_⟩
  have := trod_struct2_mk (enc := enc) (w := w) (base := base) (spare := sp) (held := held) (n := 1) (cs := [.int k0 a, .int k1 b]) (y0 := (.lit (.int k0 a), [])) (y1 := (.lit (.int k1 b), [])) ht (by rw [ct]; rfl)
    (by rw [o0, c0]; exact trod_int_mk 0 h0 wa) (by rw [o1, c1]; exact trod_int_mk 0 h1 wb)
  simpa [Value.cells] using this
/-- A row: each element reads as something. -/
theorem open_rowR {α : Type} {R : α → List Value → Prop} {G : α → Prop} {t e : TypeId} {A : Option Addr} {len cap size : Nat} {d : DataW H} {ps : List MemPlace} (ht : P.underlying t = some (.slice e)) (hs : P.cellsOf e = size)
    (hE : ∀ n cs y, DataW.trod enc P w base sp held n e cs = some y → ∃ x, R x cs ∧ G x) (h : DataW.Trod enc P w base sp held t (.slice A len cap) d ps) :
    ∃ xs : List α, xs.length = len ∧ len ≤ cap ∧ ReadsRow R size w A len xs ∧ ∀ x ∈ xs, G x := by
  obtain ⟨fuel, hf⟩ := h
  rcases DataW.trod_slice ht hf with ⟨hcs, _⟩ | ⟨a, l, c, elems, rest, n, _, hcs, hx, _, hl, hm, hlen, hel, _⟩
  · simp [Value.cells] at hcs
    obtain ⟨rfl, rfl, rfl⟩ := hcs
    exact ⟨[], rfl, Nat.le_refl _, ⟨rfl, by decide, fun h => absurd h (by decide)⟩, by simp⟩
  · simp [Value.cells] at hcs
    obtain ⟨rfl, rfl, rfl⟩ := hcs
    have one : ∀ i, i < len → ∃ x cs, R x cs ∧ G x ∧ cs.length = size ∧ ∀ j u, cs[j]? = some u → w.cell? (a.add (i * size + j)) = some u := by
      intro i hi
      have hE1 := hel i hi
      have hy : i < elems.length := by omega
      rw [List.getElem?_eq_getElem hy, Option.bind_eq_some_iff] at hE1
      obtain ⟨cs, hc, ht1⟩ := hE1
      obtain ⟨x, hR, hG⟩ := hE _ _ _ ht1
      unfold World.cells? at hc
      split at hc
      · have hlc := Lib.mapM_length hc
        simp only [List.length_range, hs] at hlc
        refine ⟨x, cs, hR, hG, hlc, fun j u hj => ?_⟩
        have hjl : j < size := by rw [← hlc]; exact (List.getElem?_eq_some_iff.1 hj).1
        obtain ⟨b, hb, hcell⟩ := Lib.mapM_at hc j j (by rw [hs]; simp [hjl])
        rw [hj] at hb
        obtain rfl := Option.some.inj hb
        rw [hs] at hcell
        have : (a.add (i * size)).add j = a.add (i * size + j) := by
          unfold Addr.add
          by_cases h1 : i * size = 0 <;> by_cases h2 : j = 0 <;> simp [h1, h2, Nat.add_assoc]
        rw [← this]; exact hcell
      · cases hc
    classical
    refine ⟨(List.range len).attach.map fun i => Classical.choose (one i.1 (List.mem_range.1 i.2)), by simp, hl, ⟨by simp, by simp only [maxLen] at hm; omega, fun _ => ⟨a, rfl, fun j p hp => ?_⟩⟩, fun x hx => ?_⟩
    · have hj : j < len := by simpa using (List.getElem?_eq_some_iff.1 hp).1
      have := Classical.choose_spec (one j hj)
      rw [List.getElem?_map, Option.map_eq_some_iff] at hp
      obtain ⟨i, hi, rfl⟩ := hp
      have hij : i.1 = j := by
        have h8 : ((List.range len).attach.map Subtype.val)[j]? = some i.1 := by rw [List.getElem?_map, hi]; rfl
        rw [List.attach_map_subtype_val, List.getElem?_range hj] at h8
        exact (Option.some.inj h8).symm
      obtain ⟨i, hmem⟩ := i
      subst hij
      obtain ⟨cs, h1, _, h3, h4⟩ := Classical.choose_spec (one i hj)
      exact ⟨cs, h3, h1, h4⟩
    · obtain ⟨i, _, rfl⟩ := List.mem_map.1 hx
      obtain ⟨cs, _, h2, _⟩ := Classical.choose_spec (one i.1 (List.mem_range.1 i.2))
      exact h2
theorem sized_row {t e : TypeId} {a : Option Addr} {len cap : Nat} {d : DataW H} {ps : List MemPlace} {ts : List TypeId} {ds : List (DataW H)} {j : Nat}
    (hsz : (DataW.weightsEach P ts ds).all (· ≤ reachBytes) = true) (ht : ts[j]? = some t) (hd : ds[j]? = some d) (hu : P.underlying t = some (.slice e)) {B : Nat} (hB : P.bytesOf e = B)
    (h : DataW.Trod enc P w base sp held t (.slice a len cap) d ps) : len * B ≤ 140737488351232 := by
  obtain ⟨fuel, hf⟩ := h
  rcases DataW.trod_slice hu hf with ⟨hcs, _⟩ | ⟨x, l, c, elems, rest, n, _, hcs, hx, _, hl, hm, hlen, _, _⟩
  · simp [Value.cells] at hcs
    obtain ⟨rfl, rfl, rfl⟩ := hcs
    simp
  · simp [Value.cells] at hcs
    obtain ⟨rfl, rfl, rfl⟩ := hcs
    obtain ⟨hx, _⟩ := Prod.mk.inj hx
    subst hx
    have z := sized_slice hsz ht hd hu
    rw [hB] at z
    simp only [List.length_map] at z
    exact Nat.le_trans (Nat.mul_le_mul_right _ (by omega)) z
end Go.Proofs.YtcgckodhehnpnaaDoor.Open
