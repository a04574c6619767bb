/- What a law's slices of bools are, opened; and their sizes. -/
import Derived.SizedLaws
import Derived.ChangeSlices
import Derived.ChangeSame
import Derived.RowKit
import Derived.ChangeArms
import Derived.ChangeMaps5
import Derived.Lib.LaidTab
import Derived.Test.YtdgbdkfoeaollaaGreatDoorALc
namespace Go.Proofs.YtdgbdkfoeaollaaGreatDoor.Args
open Go.ChangeShapes Go.WideShapes
variable {H : Type} {enc : TypeId × Value → H} {P : Program} {w : World} {base : Nat} {sp : Nat → Bool} {held : Bool}
theorem open_u8s {t e : TypeId} {fuel : Nat} {cs : List Value} {x : DataW H × List MemPlace} (ht : P.underlying t = some (.slice e)) (he : P.underlying e = some (.int .u8)) (hs : P.cellsOf e = 1)
    (hf : DataW.trod enc P w base sp held fuel t cs = some x) : ∃ A len cap, ∃ l : List Int, cs = [.slice A len cap] ∧ l.length = len ∧ AL.RowAt w A len cap (l.map (.int .u8)) ∧ ∀ y ∈ l, 0 ≤ y := by
  have plain : ∀ l : List Int, (l.map (Value.int .u8)).all AL.plainS = true := by
    intro l
    rw [List.all_eq_true]
    intro c hc
    obtain ⟨b, _, rfl⟩ := List.mem_map.1 hc
    rfl
  rcases DataW.trod_slice ht hf with ⟨hcs, _⟩ | ⟨a, len, cap, elems, rest, n, _, hcs, hx, _, hl, hm, hlen, hel, _⟩
  · exact ⟨none, 0, 0, [], hcs, rfl, ⟨fun _ => ⟨rfl, rfl⟩, by simp, Nat.le_refl _, by decide, rfl, fun h => absurd rfl h⟩, fun y h => by cases h⟩
  · have one : ∀ i, i < len → ∃ b : Int, w.cell? (a.add i) = some (.int .u8 b) ∧ 0 ≤ b := by
      intro i hi
      have hE1 := hel i hi
      have hy : i < elems.length := by omega
      rw [List.getElem?_eq_getElem hy, Option.bind_eq_some_iff] at hE1
      obtain ⟨cs, hc, ht1⟩ := hE1
      obtain ⟨b, rfl, _, wb⟩ := DataW.trod_int he ht1
      refine ⟨b, ?_, ?_⟩
      · unfold World.cells? at hc
        split at hc
        · rw [hs] at hc
          have := Lib.mapM_at hc 0 0 (by simp)
          obtain ⟨u, hu, hcell⟩ := this
          simp at hu
          subst hu
          rw [Nat.mul_one] at hcell
          simpa [Addr.add] using hcell
        · cases hc
      · have h0 : IntKind.u8.min = 0 := by decide
        revert wb; simp [Lit.wf, h0]; exact fun h _ => h
    classical
    refine ⟨some a, len, cap, (List.range len).attach.map fun i => Classical.choose (one i.1 (List.mem_range.1 i.2)), hcs, by simp, ⟨(fun h => by cases h), by simp, hl, by simp only [maxLen] at hm; unfold AL.UC; omega, plain _, fun hne => ⟨a, rfl, ?_⟩⟩, ?_⟩
    have cell : ∀ i (v : Value), (((List.range len).attach.map fun i => Classical.choose (one i.1 (List.mem_range.1 i.2))).map (Value.int .u8))[i]? = some v → w.cell? (a.add i) = some v := by
      intro i v hv
      rw [List.getElem?_map, Option.map_eq_some_iff] at hv
      obtain ⟨b, hb, rfl⟩ := hv
      rw [List.getElem?_map, Option.map_eq_some_iff] at hb
      obtain ⟨j, hj, rfl⟩ := hb
      have hij : j.1 = i := by
        have hi : i < len := by simpa using (List.getElem?_eq_some_iff.1 hj).1
        have h8 : ((List.range len).attach.map Subtype.val)[i]? = some j.1 := by rw [List.getElem?_map, hj]; rfl
        rw [List.attach_map_subtype_val, List.getElem?_range hi] at h8
        exact (Option.some.inj h8).symm
      obtain ⟨j, hmem⟩ := j
      subst hij
      exact (Classical.choose_spec (one j (List.mem_range.1 hmem))).1
    · obtain ⟨b0, h0, _⟩ := one 0 (by omega)
      have a0 : a.add 0 = a := by unfold Addr.add; simp
      rw [a0] at h0
      unfold World.cell? at h0
      split at h0
      · rename_i arr el fz hw
        split at h0
        · cases h0
        · rename_i hsp
          have hspn : a.spot = none := by
            cases hh : a.spot with
            | none => rfl
            | some x => rw [hh] at hsp; exact absurd rfl hsp
          refine ⟨hspn, arr, el, fz, hw, fun i v hv => ?_⟩
          have h1 := cell i v hv
          have ea : (a.add i).block = a.block ∧ (a.add i).off = a.off + i ∧ (a.add i).spot = a.spot := by
            unfold Addr.add
            by_cases hi : i = 0
            · subst hi; simp
            · simp [hi, hspn]
          unfold World.cell? at h1
          rw [ea.1, hw] at h1
          simp only [ea.2.1, ea.2.2, hspn, Option.isSome_none, Bool.false_eq_true, if_false] at h1
          exact h1
      · cases h0
    · intro y hy
      obtain ⟨j, _, rfl⟩ := List.mem_map.1 hy
      exact (Classical.choose_spec (one j.1 (List.mem_range.1 j.2))).2
theorem open_vecL {t e : TypeId} {f0 f1 : Field} {fuel : Nat} {cs : List Value} {x : DataW H × List MemPlace} (ht : P.underlying t = some (.struct #[f0, f1])) (h0 : P.underlying f0.type = some (.slice e)) (he : P.underlying e = some (.int .u8)) (hs : P.cellsOf e = 1) (h1 : P.underlying f1.type = some .bool)
    (o0 : f0.offset = 0) (o1 : f1.offset = 1) (c0 : P.cellsOf f0.type = 1) (c1 : P.cellsOf f1.type = 1) (ct : P.cellsOf t = 2) (h : DataW.trod enc P w base sp held fuel t cs = some x) :
    ∃ A len cap s, ∃ l : List Int, cs = [.slice A len cap, .bool s] ∧ l.length = len ∧ AL.RowAt w A len cap (l.map (.int .u8)) ∧ ∀ y ∈ l, 0 ≤ y := by
  obtain ⟨y0, y1, n, rfl, hl, e0, e1⟩ := trod_struct2 ht h
  rw [ct] at hl
  match cs, hl with
  | [u, z], _ =>
    rw [o0, c0] at e0
    rw [o1, c1] at e1
    simp only [List.drop_zero, List.take_succ_cons, List.take_zero, List.drop_succ_cons, List.take_nil] at e0 e1
    obtain ⟨A, len, cap, l, hu, k1, k2, k3⟩ := open_u8s h0 he hs e0
    obtain ⟨s, hz, _⟩ := DataW.trod_bool h1 e1
    simp only [List.cons.injEq, and_true] at hu hz
    subst hu hz
    exact ⟨A, len, cap, s, l, rfl, k1, k2, k3⟩
/-- A vector that came in: its bits and its sign. -/
theorem open_vec {t e : TypeId} {f0 f1 : Field} {r : Reach} {b0 : Nat} {v : Value} {d : DataW H} {ps : List MemPlace} (ht : P.underlying t = some (.struct #[f0, f1])) (h0 : P.underlying f0.type = some (.slice e)) (he : P.underlying e = some (.int .u8)) (hs : P.cellsOf e = 1) (h1 : P.underlying f1.type = some .bool)
    (o0 : f0.offset = 0) (o1 : f1.offset = 1) (c0 : P.cellsOf f0.type = 1) (c1 : P.cellsOf f1.type = 1) (ct : P.cellsOf t = 2) (hval : Value.okWide P w r b0 t v) (hd : DataW.Trod enc P w base sp held t v d ps) :
    ∃ A len cap s, ∃ l : List Int, v = .agg #[.slice A len cap, .bool s] ∧ l.length = len ∧ AL.RowAt w A len cap (l.map (.int .u8)) ∧ ∀ y ∈ l, 0 ≤ y := by
  obtain ⟨cs, rfl, _⟩ := okWide_struct ht hval
  obtain ⟨fuel, hf⟩ := hd
  obtain ⟨A, len, cap, s, l, hcs, k1, k2, k3⟩ := open_vecL ht h0 he hs h1 o0 o1 c0 c1 ct hf
  refine ⟨A, len, cap, s, l, ?_, k1, k2, k3⟩
  have : cs.toList = [.slice A len cap, .bool s] := by simpa [Value.cells] using hcs
  rw [show cs = #[.slice A len cap, .bool s] from by apply Array.toList_inj.1; simpa using this]
end Go.Proofs.YtdgbdkfoeaollaaGreatDoor.Args
