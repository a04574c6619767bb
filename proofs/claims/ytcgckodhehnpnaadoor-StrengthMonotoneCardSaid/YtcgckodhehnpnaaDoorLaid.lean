/- What the listed package variable gives: from the row's condition to the table of names (and: the door's own heap meets the condition). -/
import Derived.Test.YtcgckodhehnpnaaDoorRows
import Derived.Test.YtcgckodhehnpnaaDoorALc
import Derived.ProofKit
import Derived.LaidMore
import Derived.Lib.LaidTab
import Derived.Stop.Joined
import Derived.Stop.LaidErr
namespace Go.Proofs.YtcgckodhehnpnaaDoor
open Go Go.RowKit
/-- The names of the strengths, as the package's table holds them. -/
def namesL : List ByteArray := [(⟨#[104, 105, 103, 104, 122]⟩ : ByteArray), (⟨#[115, 109, 97, 108, 108]⟩ : ByteArray), (⟨#[109, 101, 100, 105, 117, 109]⟩ : ByteArray), (⟨#[119, 101, 97, 107]⟩ : ByteArray), (⟨#[108, 97, 114, 103, 101]⟩ : ByteArray), (⟨#[112, 117, 108, 108]⟩ : ByteArray), (⟨#[115, 116, 114, 111, 110, 103]⟩ : ByteArray), (⟨#[115, 117, 112, 112, 108, 121]⟩ : ByteArray)]
def strs (l : List ByteArray) : List Value := l.map fun n => .string n
/-- What the package's table holds. -/
structure Glob (w : World) : Prop where
  names : AL.TabAt w 0 (strs namesL)
theorem gNames : Tryd.prog.globalNamed "netlab/strength.names" = some 0 := by kernel_rfl
theorem tNames : (Tryd.prog.globals[0]?).map (·.type) = some 61 := by kernel_rfl
theorem cStr : Tryd.prog.cellsOf 9 = 1 := by kernel_rfl
theorem cTab : Tryd.prog.cellsOf 61 = 8 := by kernel_rfl
abbrev LST : List (String × DataW Unit) := [("netlab/strength.names", Rows.laid_netlab_strength_names)]
theorem door_met (os : Os) (args : Array Value) : laidMetH Tryd.prog LST ((World.doorLaid Tryd.prog 400 os).forCall (fun _ _ => 0) ⟨#[], args, []⟩).memory :=
  laidMetH_of_parts3 (fuel := 8) (laidMet_of_run' 8 (by kernel_rfl) (by kernel_rfl)) (by kernel_rfl) (by kernel_rfl)
/-- A table of strings, as a row lists it. -/
def strData {H : Type} (zs : List ByteArray) : DataW H := .agg (zs.map fun z => .lit (.string z.data.toList))
theorem cells_of_strs {H : Type} {enc : TypeId × Value → H} {P : Program} {w : World} {base : Nat} {sp : Nat → Bool} {held : Bool} {fuel : Nat} {t e : TypeId} {n : Nat} {cs : List Value} {zs : List ByteArray} {p : List MemPlace}
    (ht : P.underlying t = some (.array n e)) (he : P.underlying e = some .string) (hce : P.cellsOf e = 1) (hct : P.cellsOf t = n)
    (h : DataW.trod enc P w base sp held fuel t cs = some (strData zs, p)) : cs = zs.map fun z => Value.string z := by
  cases fuel with
  | zero => simp [DataW.trod] at h
  | succ fuel =>
    simp only [DataW.trod, ht, hce, hct, Nat.mul_one] at h
    split at h
    · rename_i hl
      obtain ⟨xs, hm, hx⟩ := Option.map_eq_some_iff.1 h
      have hxs : xs.map (·.1) = zs.map fun z => (DataW.lit (.string z.data.toList) : DataW H) := by
        have := congrArg Prod.fst hx
        simpa [strData] using this
      have hxl : xs.length = n := by simpa using Lib.mapM_length hm
      have hzl : zs.length = n := by
        have := congrArg List.length hxs
        simp at this
        omega
      apply List.ext_getElem?
      intro i
      by_cases hi : i < n
      · obtain ⟨b, hb, hf⟩ := Lib.mapM_at hm i i (by simp [hi])
        obtain ⟨s, hc, rfl, _⟩ := DataW.trod_string he hf
        have h1 : cs[i]? = some (.string s) := by
          have := congrArg (·[0]?) hc
          simpa [List.getElem?_take, List.getElem?_drop] using this
        have h2 : (xs.map (·.1))[i]? = some (DataW.lit (.string s.data.toList) : DataW H) := by simp [hb]
        rw [hxs] at h2
        simp only [List.getElem?_map, Option.map_eq_some_iff, DataW.lit.injEq, Lit.string.injEq] at h2
        obtain ⟨z', hz', hd⟩ := h2
        have : z' = s := by
          cases z'; cases s
          simp only [ByteArray.mk.injEq] at *
          exact Array.toList_inj.1 hd
        subst this
        simp [h1, hz']
      · rw [List.getElem?_eq_none (by omega), List.getElem?_eq_none (by simp; omega)]
    · cases h
theorem glob_of_laid {W : World} (h : laidMetH Tryd.prog LST W) : Glob W := by
  rw [MakeChecks.laidMetH_plain _ _ _ (by kernel_rfl)] at h
  obtain ⟨ps, ⟨g', t', cs, fuel, p, q, hg', ht', hvar, hd, _, _⟩, _⟩ := h
  obtain rfl := Option.some.inj (gNames.symm.trans hg')
  obtain rfl := Option.some.inj (tNames.symm.trans ht')
  have hcs := cells_of_strs (zs := namesL) Tryd.underlying61 (by kernel_rfl) cStr cTab hd
  have hv2 : World.var? Tryd.prog W "netlab/strength.names" = some (namesL.map fun z => Value.string z).toArray := by rw [hvar, ← hcs]
  refine ⟨fun i v hv => ?_⟩
  have := World.var?_cell gNames hv2 i
  rw [List.getElem?_toArray] at this
  rw [this]
  exact hv
end Go.Proofs.YtcgckodhehnpnaaDoor
