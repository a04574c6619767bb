/- What a law's slices of bools are, opened; and their sizes. -/
import Derived.SizedLaws
import Derived.ChangeSlices
import Derived.ChangeSame
import Derived.RowKit
import Derived.ChangeArms
import Derived.ChangeMaps5
import Derived.Lib.LaidTab
import Derived.Test.YtdgbdkfoeaollaaGreatDoorALc
namespace Go.Proofs.YtdgbdkfoeaollaaGreatDoor.Args
open Go.ChangeShapes Go.WideShapes
variable {H : Type} {enc : TypeId × Value → H} {P : Program} {w : World} {base : Nat} {sp : Nat → Bool} {held : Bool}
theorem open_bools {t e : TypeId} {A : Option Addr} {len cap : Nat} {d : DataW H} {ps : List MemPlace} (ht : P.underlying t = some (.slice e)) (he : P.underlying e = some .bool) (hs : P.cellsOf e = 1)
    (h : DataW.Trod enc P w base sp held t (.slice A len cap) d ps) : ∃ l : List Bool, l.length = len ∧ AL.RowAt w A len cap (l.map .bool) := by
  have plain : ∀ l : List Bool, (l.map Value.bool).all AL.plainS = true := by
    intro l
    rw [List.all_eq_true]
    intro c hc
    obtain ⟨b, _, rfl⟩ := List.mem_map.1 hc
    rfl
  obtain ⟨fuel, hf⟩ := h
  rcases DataW.trod_slice ht hf with ⟨hcs, _⟩ | ⟨a, l, c, elems, rest, n, _, hcs, hx, _, hl, hm, hlen, hel, _⟩
  · simp [Value.cells] at hcs
    obtain ⟨rfl, rfl, rfl⟩ := hcs
    exact ⟨[], rfl, ⟨fun _ => ⟨rfl, rfl⟩, by simp, Nat.le_refl _, by decide, rfl, fun h => absurd rfl h⟩⟩
  · simp [Value.cells] at hcs
    obtain ⟨rfl, rfl, rfl⟩ := hcs
    have one : ∀ i, i < len → ∃ b : Bool, w.cell? (a.add i) = some (.bool b) := by
      intro i hi
      have hE1 := hel i hi
      have hy : i < elems.length := by omega
      rw [List.getElem?_eq_getElem hy, Option.bind_eq_some_iff] at hE1
      obtain ⟨cs, hc, ht1⟩ := hE1
      obtain ⟨b, rfl, _⟩ := DataW.trod_bool he ht1
      refine ⟨b, ?_⟩
      unfold World.cells? at hc
      split at hc
      · rw [hs] at hc
        have := Lib.mapM_at hc 0 0 (by simp)
        obtain ⟨u, hu, hcell⟩ := this
        simp at hu
        subst hu
        rw [Nat.mul_one] at hcell
        simpa [Addr.add] using hcell
      · cases hc
    classical
    refine ⟨(List.range len).attach.map fun i => Classical.choose (one i.1 (List.mem_range.1 i.2)), by simp, ⟨(fun h => by cases h), by simp, hl, by simp only [maxLen] at hm; unfold AL.UC; omega, plain _, fun hne => ⟨a, rfl, ?_⟩⟩⟩
    have cell : ∀ i (v : Value), (((List.range len).attach.map fun i => Classical.choose (one i.1 (List.mem_range.1 i.2))).map Value.bool)[i]? = some v → w.cell? (a.add i) = some v := by
      intro i v hv
      rw [List.getElem?_map, Option.map_eq_some_iff] at hv
      obtain ⟨b, hb, rfl⟩ := hv
      rw [List.getElem?_map, Option.map_eq_some_iff] at hb
      obtain ⟨j, hj, rfl⟩ := hb
      have hij : j.1 = i := by
        have hi : i < len := by simpa using (List.getElem?_eq_some_iff.1 hj).1
        have h8 : ((List.range len).attach.map Subtype.val)[i]? = some j.1 := by rw [List.getElem?_map, hj]; rfl
        rw [List.attach_map_subtype_val, List.getElem?_range hi] at h8
        exact (Option.some.inj h8).symm
      obtain ⟨j, hmem⟩ := j
      subst hij
      exact Classical.choose_spec (one j (List.mem_range.1 hmem))
    obtain ⟨b0, h0⟩ := one 0 (by omega)
    have a0 : a.add 0 = a := by unfold Addr.add; simp
    rw [a0] at h0
    unfold World.cell? at h0
    split at h0
    · rename_i arr el fz hw
      split at h0
      · cases h0
      · rename_i hsp
        have hspn : a.spot = none := by
          cases hh : a.spot with
          | none => rfl
          | some x => rw [hh] at hsp; exact absurd rfl hsp
        refine ⟨hspn, arr, el, fz, hw, fun i v hv => ?_⟩
        have h1 := cell i v hv
        have ea : (a.add i).block = a.block ∧ (a.add i).off = a.off + i ∧ (a.add i).spot = a.spot := by
          unfold Addr.add
          by_cases hi : i = 0
          · subst hi; simp
          · simp [hi, hspn]
        unfold World.cell? at h1
        rw [ea.1, hw] at h1
        simp only [ea.2.1, ea.2.2, hspn, Option.isSome_none, Bool.false_eq_true, if_false] at h1
        exact h1
    · cases h0
theorem sized_row {t e : TypeId} {a : Option Addr} {len cap : Nat} {d : DataW H} {ps : List MemPlace} {ts : List TypeId} {ds : List (DataW H)} {j : Nat}
    (hsz : (DataW.weightsEach P ts ds).all (· ≤ reachBytes) = true) (ht : ts[j]? = some t) (hd : ds[j]? = some d) (hu : P.underlying t = some (.slice e)) {B : Nat} (hB : P.bytesOf e = B)
    (h : DataW.Trod enc P w base sp held t (.slice a len cap) d ps) : len * B ≤ 140737488351232 := by
  obtain ⟨fuel, hf⟩ := h
  rcases DataW.trod_slice hu hf with ⟨hcs, _⟩ | ⟨x, l, c, elems, rest, n, _, hcs, hx, _, hl, hm, hlen, _, _⟩
  · simp [Value.cells] at hcs
    obtain ⟨rfl, rfl, rfl⟩ := hcs
    simp
  · simp [Value.cells] at hcs
    obtain ⟨rfl, rfl, rfl⟩ := hcs
    obtain ⟨hx, _⟩ := Prod.mk.inj hx
    subst hx
    have z := sized_slice hsz ht hd hu
    rw [hB] at z
    simp only [List.length_map] at z
    exact Nat.le_trans (Nat.mul_le_mul_right _ (by omega)) z
theorem open_st2 {t : TypeId} {f0 f1 : Field} {k0 k1 : IntKind} {fuel : Nat} {cs : List Value} {x : DataW H × List MemPlace} (ht : P.underlying t = some (.struct #[f0, f1])) (h0 : P.underlying f0.type = some (.int k0)) (h1 : P.underlying f1.type = some (.int k1))
    (o0 : f0.offset = 0) (o1 : f1.offset = 1) (c0 : P.cellsOf f0.type = 1) (c1 : P.cellsOf f1.type = 1) (ct : P.cellsOf t = 2) (h : DataW.trod enc P w base sp held fuel t cs = some x) :
    ∃ a b, cs = [.int k0 a, .int k1 b] ∧ x = (.agg [.lit (.int k0 a), .lit (.int k1 b)], []) ∧ (Lit.int k0 a).wf = true ∧ (Lit.int k1 b).wf = true := by
  obtain ⟨y0, y1, n, rfl, hl, e0, e1⟩ := trod_struct2 ht h
  rw [ct] at hl
  match cs, hl with
  | [u, v], _ =>
    rw [o0, c0] at e0
    rw [o1, c1] at e1
    simp only [List.drop_zero, List.take_succ_cons, List.take_zero, List.drop_succ_cons, List.take_nil] at e0 e1
    obtain ⟨a, ha, rfl, wa⟩ := DataW.trod_int h0 e0
    obtain ⟨b, hb, rfl, wb⟩ := DataW.trod_int h1 e1
    simp only [List.cons.injEq, and_true] at ha hb
    subst ha hb
    exact ⟨a, b, rfl, rfl, wa, wb⟩
theorem open_st2_arg {t : TypeId} {f0 f1 : Field} {k0 k1 : IntKind} {r : Reach} {b0 : Nat} {v : Value} {d : DataW H} {ps : List MemPlace} (ht : P.underlying t = some (.struct #[f0, f1])) (h0 : P.underlying f0.type = some (.int k0)) (h1 : P.underlying f1.type = some (.int k1))
    (o0 : f0.offset = 0) (o1 : f1.offset = 1) (c0 : P.cellsOf f0.type = 1) (c1 : P.cellsOf f1.type = 1) (ct : P.cellsOf t = 2) (hval : Value.okWide P w r b0 t v) (hd : DataW.Trod enc P w base sp held t v d ps) :
    ∃ a b, v = .agg #[.int k0 a, .int k1 b] ∧ d = .agg [.lit (.int k0 a), .lit (.int k1 b)] ∧ ps = [] ∧ (Lit.int k0 a).wf = true ∧ (Lit.int k1 b).wf = true := by
  obtain ⟨cs, rfl, _⟩ := okWide_struct ht hval
  obtain ⟨fuel, hf⟩ := hd
  obtain ⟨a, b, hcs, hx, wa, wb⟩ := open_st2 ht h0 h1 o0 o1 c0 c1 ct hf
  obtain ⟨rfl, rfl⟩ := Prod.mk.inj hx
  refine ⟨a, b, ?_, rfl, rfl, wa, wb⟩
  have : cs.toList = [.int k0 a, .int k1 b] := by simpa [Value.cells] using hcs
  rw [show cs = #[.int k0 a, .int k1 b] from by apply Array.toList_inj.1; simpa using this]
theorem shut_st2 {t : TypeId} {f0 f1 : Field} {k0 k1 : IntKind} {a b : Int} (ht : P.underlying t = some (.struct #[f0, f1])) (h0 : P.underlying f0.type = some (.int k0)) (h1 : P.underlying f1.type = some (.int k1))
    (o0 : f0.offset = 0) (o1 : f1.offset = 1) (c0 : P.cellsOf f0.type = 1) (c1 : P.cellsOf f1.type = 1) (ct : P.cellsOf t = 2) (wa : (Lit.int k0 a).wf = true) (wb : (Lit.int k1 b).wf = true) :
    DataW.Trod enc P w base sp held t (.agg #[.int k0 a, .int k1 b]) (.agg [.lit (.int k0 a), .lit (.int k1 b)]) [] := by
  refine ⟨2, ?_⟩
  have := trod_struct2_mk (enc := enc) (w := w) (base := base) (spare := sp) (held := held) (n := 1) (cs := [.int k0 a, .int k1 b]) (y0 := (.lit (.int k0 a), [])) (y1 := (.lit (.int k1 b), [])) ht (by rw [ct]; rfl)
    (by rw [o0, c0]; exact trod_int_mk 0 h0 wa) (by rw [o1, c1]; exact trod_int_mk 0 h1 wb)
  simpa [Value.cells] using this
theorem open_u8s {t e : TypeId} {fuel : Nat} {cs : List Value} {x : DataW H × List MemPlace} (ht : P.underlying t = some (.slice e)) (he : P.underlying e = some (.int .u8)) (hs : P.cellsOf e = 1)
    (hf : DataW.trod enc P w base sp held fuel t cs = some x) : ∃ A len cap, ∃ l : List Int, cs = [.slice A len cap] ∧ l.length = len ∧ AL.RowAt w A len cap (l.map (.int .u8)) ∧ ∀ y ∈ l, 0 ≤ y := by
  have plain : ∀ l : List Int, (l.map (Value.int .u8)).all AL.plainS = true := by
    intro l
    rw [List.all_eq_true]
    intro c hc
    obtain ⟨b, _, rfl⟩ := List.mem_map.1 hc
    rfl
  rcases DataW.trod_slice ht hf with ⟨hcs, _⟩ | ⟨a, len, cap, elems, rest, n, _, hcs, hx, _, hl, hm, hlen, hel, _⟩
  · exact ⟨none, 0, 0, [], hcs, rfl, ⟨fun _ => ⟨rfl, rfl⟩, by simp, Nat.le_refl _, by decide, rfl, fun h => absurd rfl h⟩, fun y h => by cases h⟩
  · have one : ∀ i, i < len → ∃ b : Int, w.cell? (a.add i) = some (.int .u8 b) ∧ 0 ≤ b := by
      intro i hi
      have hE1 := hel i hi
      have hy : i < elems.length := by omega
      rw [List.getElem?_eq_getElem hy, Option.bind_eq_some_iff] at hE1
      obtain ⟨cs, hc, ht1⟩ := hE1
      obtain ⟨b, rfl, _, wb⟩ := DataW.trod_int he ht1
      refine ⟨b, ?_, ?_⟩
      · unfold World.cells? at hc
        split at hc
        · rw [hs] at hc
          have := Lib.mapM_at hc 0 0 (by simp)
          obtain ⟨u, hu, hcell⟩ := this
          simp at hu
          subst hu
          rw [Nat.mul_one] at hcell
          simpa [Addr.add] using hcell
        · cases hc
      · have h0 : IntKind.u8.min = 0 := by decide
        revert wb; simp [Lit.wf, h0]; exact fun h _ => h
    classical
    refine ⟨some a, len, cap, (List.range len).attach.map fun i => Classical.choose (one i.1 (List.mem_range.1 i.2)), hcs, by simp, ⟨(fun h => by cases h), by simp, hl, by simp only [maxLen] at hm; unfold AL.UC; omega, plain _, fun hne => ⟨a, rfl, ?_⟩⟩, ?_⟩
    have cell : ∀ i (v : Value), (((List.range len).attach.map fun i => Classical.choose (one i.1 (List.mem_range.1 i.2))).map (Value.int .u8))[i]? = some v → w.cell? (a.add i) = some v := by
      intro i v hv
      rw [List.getElem?_map, Option.map_eq_some_iff] at hv
      obtain ⟨b, hb, rfl⟩ := hv
      rw [List.getElem?_map, Option.map_eq_some_iff] at hb
      obtain ⟨j, hj, rfl⟩ := hb
      have hij : j.1 = i := by
        have hi : i < len := by simpa using (List.getElem?_eq_some_iff.1 hj).1
        have h8 : ((List.range len).attach.map Subtype.val)[i]? = some j.1 := by rw [List.getElem?_map, hj]; rfl
        rw [List.attach_map_subtype_val, List.getElem?_range hi] at h8
        exact (Option.some.inj h8).symm
      obtain ⟨j, hmem⟩ := j
      subst hij
      exact (Classical.choose_spec (one j (List.mem_range.1 hmem))).1
    · obtain ⟨b0, h0, _⟩ := one 0 (by omega)
      have a0 : a.add 0 = a := by unfold Addr.add; simp
      rw [a0] at h0
      unfold World.cell? at h0
      split at h0
      · rename_i arr el fz hw
        split at h0
        · cases h0
        · rename_i hsp
          have hspn : a.spot = none := by
            cases hh : a.spot with
            | none => rfl
            | some x => rw [hh] at hsp; exact absurd rfl hsp
          refine ⟨hspn, arr, el, fz, hw, fun i v hv => ?_⟩
          have h1 := cell i v hv
          have ea : (a.add i).block = a.block ∧ (a.add i).off = a.off + i ∧ (a.add i).spot = a.spot := by
            unfold Addr.add
            by_cases hi : i = 0
            · subst hi; simp
            · simp [hi, hspn]
          unfold World.cell? at h1
          rw [ea.1, hw] at h1
          simp only [ea.2.1, ea.2.2, hspn, Option.isSome_none, Bool.false_eq_true, if_false] at h1
          exact h1
      · cases h0
    · intro y hy
      obtain ⟨j, _, rfl⟩ := List.mem_map.1 hy
      exact (Classical.choose_spec (one j.1 (List.mem_range.1 j.2))).2
theorem open_vecL {t e : TypeId} {f0 f1 : Field} {fuel : Nat} {cs : List Value} {x : DataW H × List MemPlace} (ht : P.underlying t = some (.struct #[f0, f1])) (h0 : P.underlying f0.type = some (.slice e)) (he : P.underlying e = some (.int .u8)) (hs : P.cellsOf e = 1) (h1 : P.underlying f1.type = some .bool)
    (o0 : f0.offset = 0) (o1 : f1.offset = 1) (c0 : P.cellsOf f0.type = 1) (c1 : P.cellsOf f1.type = 1) (ct : P.cellsOf t = 2) (h : DataW.trod enc P w base sp held fuel t cs = some x) :
    ∃ A len cap s, ∃ l : List Int, cs = [.slice A len cap, .bool s] ∧ l.length = len ∧ AL.RowAt w A len cap (l.map (.int .u8)) ∧ ∀ y ∈ l, 0 ≤ y := by
  obtain ⟨y0, y1, n, rfl, hl, e0, e1⟩ := trod_struct2 ht h
  rw [ct] at hl
  match cs, hl with
  | [u, z], _ =>
    rw [o0, c0] at e0
    rw [o1, c1] at e1
    simp only [List.drop_zero, List.take_succ_cons, List.take_zero, List.drop_succ_cons, List.take_nil] at e0 e1
    obtain ⟨A, len, cap, l, hu, k1, k2, k3⟩ := open_u8s h0 he hs e0
    obtain ⟨s, hz, _⟩ := DataW.trod_bool h1 e1
    simp only [List.cons.injEq, and_true] at hu hz
    subst hu hz
    exact ⟨A, len, cap, s, l, rfl, k1, k2, k3⟩
/-- A vector that came in: its bits and its sign. -/
theorem open_vec {t e : TypeId} {f0 f1 : Field} {r : Reach} {b0 : Nat} {v : Value} {d : DataW H} {ps : List MemPlace} (ht : P.underlying t = some (.struct #[f0, f1])) (h0 : P.underlying f0.type = some (.slice e)) (he : P.underlying e = some (.int .u8)) (hs : P.cellsOf e = 1) (h1 : P.underlying f1.type = some .bool)
    (o0 : f0.offset = 0) (o1 : f1.offset = 1) (c0 : P.cellsOf f0.type = 1) (c1 : P.cellsOf f1.type = 1) (ct : P.cellsOf t = 2) (hval : Value.okWide P w r b0 t v) (hd : DataW.Trod enc P w base sp held t v d ps) :
    ∃ A len cap s, ∃ l : List Int, v = .agg #[.slice A len cap, .bool s] ∧ l.length = len ∧ AL.RowAt w A len cap (l.map (.int .u8)) ∧ ∀ y ∈ l, 0 ≤ y := by
  obtain ⟨cs, rfl, _⟩ := okWide_struct ht hval
  obtain ⟨fuel, hf⟩ := hd
  obtain ⟨A, len, cap, s, l, hcs, k1, k2, k3⟩ := open_vecL ht h0 he hs h1 o0 o1 c0 c1 ct hf
  refine ⟨A, len, cap, s, l, ?_, k1, k2, k3⟩
  have : cs.toList = [.slice A len cap, .bool s] := by simpa [Value.cells] using hcs
  rw [show cs = #[.slice A len cap, .bool s] from by apply Array.toList_inj.1; simpa using this]
end Go.Proofs.YtdgbdkfoeaollaaGreatDoor.Args
