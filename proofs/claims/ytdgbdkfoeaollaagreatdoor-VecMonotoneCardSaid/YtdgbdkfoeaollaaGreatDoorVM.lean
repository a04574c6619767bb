/- From a law's contract to its call in the model: any list of vectors, numbers and truth values. -/
import Derived.Test.YtdgbdkfoeaollaaGreatDoorVL
import Derived.Test.YtdgbdkfoeaollaaGreatDoorALe
set_option linter.unusedVariables false
namespace Go.Proofs.YtdgbdkfoeaollaaGreatDoor.V
open Go Go.AL Go.SX
inductive LA where
  | v (A : Option Addr) (c : Nat) (s : Bool) (l : List Int)
  | i (k : IntKind) (x : Int)
  | b (x : Bool)
def rowsA : List LA → List Row
  | [] => []
  | .v A c s l :: r => ⟨A, l.length, c, l.map (.int .u8)⟩ :: rowsA r
  | .i _ _ :: r => rowsA r
  | .b _ :: r => rowsA r
def svA : List LA → List SV
  | [] => []
  | .v A c s l :: r => .a [.u l, .b s] :: svA r
  | .i k x :: r => .i k x :: svA r
  | .b x :: r => .b x :: svA r
def caA : List LA → List Value
  | [] => []
  | .v A c s l :: r => .agg #[.slice A l.length c, .bool s] :: caA r
  | .i k x :: r => .int k x :: caA r
  | .b x :: r => .bool x :: caA r
def vsA : Nat → List LA → List Value
  | _, [] => []
  | n, .v A c s l :: r => .agg ⟨[Row.val n ⟨A, l.length, c, l.map (.int .u8)⟩, .bool s]⟩ :: vsA (n + 1) r
  | n, .i k x :: r => .int k x :: vsA n r
  | n, .b x :: r => .bool x :: vsA n r
theorem argsA {W : World} {rs : List Row} (hall : RowsAt W rs) {A : Nat → Prop} (hA : ∀ id, ¬ A id) : ∀ (xs : List LA) (n : Nat), (∀ i r, (rowsA xs)[i]? = some r → rs[n + i]? = some r) →
    DenL A [] (rowH rs) (svA xs) (vsA n xs) ∧ VRs (rowβ rs) (vsA n xs) (caA xs)
  | [], n, _ => ⟨rfl, .nil⟩
  | .v Ad c s l :: r, n, h => by
    obtain ⟨h1, h2⟩ := argsA hall hA r (n + 1) fun i x hx => by
      have := h (i + 1) x hx
      rwa [show n + (i + 1) = n + 1 + i by omega] at this
    have h0 : rs[n]? = some ⟨Ad, l.length, c, l.map (.int .u8)⟩ := h 0 _ rfl
    exact ⟨⟨_, _, rfl, ⟨_, rfl, _, _, rfl, row_rdS hall hA h0 rfl rfl, _, _, rfl, rfl, rfl⟩, h1⟩, .cons (.agg (.cons (row_val hall h0) (.cons (.bool s) .nil))) h2⟩
  | .i k x :: r, n, h => by
    obtain ⟨h1, h2⟩ := argsA hall hA r n h
    exact ⟨⟨_, _, rfl, rfl, h1⟩, .cons (.int k x) h2⟩
  | .b x :: r, n, h => by
    obtain ⟨h1, h2⟩ := argsA hall hA r n h
    exact ⟨⟨_, _, rfl, rfl, h1⟩, .cons (.bool x) h2⟩
theorem law_args {W : World} {k : Nat} (xs : List LA) (hG : Glob W) (hr : RowsAt W (rowsA xs)) (h : FvC CX TB (.f k [] []) (svA xs) [] (RB true)) :
    Calls Tryz.prog k ⟨caA xs⟩ W fun e W' => e = .returned (.bool true) ∧ Go.RowKit.Below W.heap.size W W' := by
  have hall := rows_app (tabs_at hG) hr
  have hA : ∀ id, ¬ Own [] [] id := by rintro id ⟨i, o, v, h1, _⟩; simp at h1
  obtain ⟨h1, h2⟩ := argsA hall hA xs 4 fun i r hx => by
    rw [List.getElem?_append_right (show 4 ≤ 4 + i by omega), show 4 + i - tabs.length = i from Nat.add_sub_cancel_left 4 i]
    exact hx
  exact law_of hG hr h h1 h2
theorem rows_nil {W : World} : RowsAt W [] := fun i r h => by simp at h
theorem rows_cons {W : World} {x : Row} {rs : List Row} (h0 : RowAt W x.A x.len x.cap x.cs) (h : RowsAt W rs) : RowsAt W (x :: rs) := fun i r hr => by
  cases i with
  | zero => obtain rfl := Option.some.inj hr; exact h0
  | succ i => exact h i r hr
end Go.Proofs.YtdgbdkfoeaollaaGreatDoor.V
