/- An interpreter of Go code over a heap of its own, and the proof that the model does what it does (part d). -/
import Derived.Test.YtdgbdkfoeaollaaGreatDoorALc
import Derived.RangeFuncLeaves
import Derived.RangeFuncIn
import Derived.OrdersIn
import Derived.TacticsIn
import Derived.LoopNIn
import Derived.RangeFuncSeq
import Derived.RangeFuncRecord
import Derived.Below
/-! ## Pieces of code within a round of a range over a function. -/
section
set_option linter.unusedSimpArgs false
set_option linter.unusedVariables false
namespace Go.AL
/-- The widest fence, for frames of the kind ro. -/
def WF (ro : Option Nat) : Fence := { Fence.wide with round := ro }
theorem WF_none : WF none = Fence.wide := rfl
theorem WF_round (ro : Option Nat) (l : Nat) : (WF ro).inRound l = WF (some l) := rfl
theorem callsW {ro : Option Nat} {n : Nat} {P : Program} {f : FuncId} {args : Array Value} {w : World} {R : Ending → World → Prop} (h : Calls P f args w R) : CallsIn (WF ro) n P f args w R :=
  (callsIn_wide (n := n)).2 h
theorem callsW' {ro : Option Nat} {n : Nat} {P : Program} {f : FuncId} {args : Array Value} {w : World} {R : Ending → World → Prop} (h : CallsIn (WF ro) n P f args w R) : Calls P f args w R :=
  (callsIn_wide (n := n)).1 h
theorem rowsW {ro : Option Nat} {n : Nat} {P : Program} {row : String} {args : Array Value} {w : World} {R : Value → World → Prop} (h : Rows P row args w R) : RowsIn (WF ro) n P row args w R := by
  intro c cs _
  obtain ⟨v, w', r, s⟩ := h c cs
  exact ⟨v, w', r, stepsIn_wide.2 s⟩
theorem ndW {ro : Option Nat} {n : Nat} (h : (WF ro).depth.isSome = true) : 1 ≤ n := by
  exact absurd (show (none : Option Nat).isSome = true from h) (by decide)
section
variable {P : Program} {o : Oper} {a : Act} {w : World} {K : Act → World → Prop} {Q : Exit → Act → World → Prop} {ro : Option Nat} {n : Nat}
theorem wpW (hd : ∀ c, o.op ≠ .defer c) (h : Oper.wp P o a w K Q) : o.wpIn (WF ro) n P a w K Q := by
  refine ⟨fun _ _ => trivial, ?_⟩
  rw [Oper.semAt_eq _ _ _ hd]
  unfold Oper.wp at h
  generalize (execOp a.eval o).run P w = r at *
  cases r with
  | ok x w' =>
    cases x <;> simp only [Oper.upon, Oper.uponIn] at h ⊢
    all_goals first
      | exact h
      | exact ⟨ndW, CallsIn.mono (callsW h) (fun e w'' he => by cases e <;> exact he)⟩
      | exact ⟨ndW, rowsW h⟩
      | exact False.elim h
  | halt x w' => cases x <;> simp only [Oper.upon, Oper.uponIn] at h ⊢ <;> exact h
theorem listW {ops : Array Oper} (hQ : ¬ LetsOut Q) : ∀ {l : List Oper} {a : Act} {w : World}, (∀ o ∈ l, ∀ c, o.op ≠ .defer c) → wpList P ops Q l a w → wpListIn (WF ro) n P ops Q l a w
  | [], _, _, _, h => h
  | o :: rest, a, w, hd, h => by
    have hr : ∀ {a w}, wpList P ops Q rest a w → wpListIn (WF ro) n P ops Q rest a w := fun h => listW hQ (fun o ho => hd o (List.mem_cons_of_mem _ ho)) h
    unfold wpList at h
    unfold wpListIn
    split
    · rename_i hw
      rw [if_pos hw] at h
      rcases h with h | ⟨_, h⟩
      · exact Oper.wpIn_mono (fun a w => hr) (wpW (hd o (List.mem_cons_self ..)) h)
      · exact (hQ h).elim
    · rename_i hw
      rw [if_neg hw] at h
      exact ⟨fun _ _ => trivial, hr h⟩
theorem anyW {ops : Array Oper} (hQ : ¬ LetsOut Q) (hd : ∀ (i : Nat) (o : Oper), ops[i]? = some o → ∀ c, o.op ≠ .defer c) : ∀ {f : Nat} {l : Array Bool} {a : Act} {w : World}, wpAny P .any ops Q f l a w → wpAnyIn (WF ro) n P .any ops Q f l a w
  | 0, _, _, _, h => h
  | f + 1, l, a, w, h => by
    refine ⟨h.1, fun i hi => ?_⟩
    have h1 := h.2 i hi
    unfold wpOp at h1
    unfold wpOpIn
    cases ho : ops[i]? with
    | none => rw [ho] at h1; exact anyW hQ hd h1
    | some o =>
      rw [ho] at h1
      simp only at h1 ⊢
      split
      · rename_i hw
        rw [if_pos hw] at h1
        rcases h1 with h1 | ⟨_, h1⟩
        · exact Oper.wpIn_mono (fun a w => anyW hQ hd) (wpW (hd i o ho) h1)
        · exact (hQ h1).elim
      · rename_i hw
        rw [if_neg hw] at h1
        exact ⟨fun _ _ => trivial, anyW hQ hd h1⟩
theorem regWIn {ops : Array Oper} {draw : Bool} {id : Nat} (hm : P.follows .mixedOrders = true) (hQ : ¬ LetsOut Q) (hd : ∀ (i : Nat) (o : Oper), ops[i]? = some o → ∀ c, o.op ≠ .defer c) (h : regW P ops draw Q a w) : (Code.region id ops draw).wpIn (WF ro) n P Q a w := by
  unfold regW at h
  cases draw with
  | true => rw [if_pos rfl] at h; exact wpIn_region_any hm (anyW hQ hd h)
  | false =>
    rw [if_neg (by decide)] at h
    refine wpIn_region_list (listW hQ (fun o ho => ?_) h)
    obtain ⟨i, hi⟩ := List.getElem?_of_mem ho
    exact hd i o (by rw [← Array.getElem?_toList]; exact hi)
end
theorem no_defer {P : Program} {o : Oper} {i : IOp} (h : cop0 P o.op = some i) : ∀ c, o.op ≠ .defer c := by
  intro c e
  rw [e] at h
  cases h
theorem no_defer' {P : Program} {o : Op} {i : IOp} (h : cop P o = some i) : ∀ c, o ≠ .defer c := by
  intro c e
  rw [e] at h
  cases h
theorem copers_no_defer {P : Program} {nt : Nat} {ops : Array Oper} {is : List IOper} (h : copers P nt ops ops.toList = some is) : ∀ (i : Nat) (o : Oper), ops[i]? = some o → ∀ c, o.op ≠ .defer c := by
  intro i o ho
  obtain ⟨_, hget⟩ := copers_get h
  obtain ⟨io, _, hc⟩ := hget i o (by rw [Array.getElem?_toList]; exact ho)
  obtain ⟨c1, _⟩ := coper_some hc
  exact no_defer' c1
/-- Code without loops. -/
def flatC : IC → Bool
  | .skip | .region .. | .exit _ | .ret => true
  | .seq a b => flatC a && flatC b
  | .cond _ a b => flatC a && flatC b
  | .block _ a => flatC a
  | _ => false
section
variable {P : Program} {call : Call} {ro : Option Nat} {n : Nat} {ds : List Deferred}
theorem region_In (hm : P.follows .mixedOrders = true) (hF : SimF P call) {nt id : Nat} {ops : Array Oper} {draw : Bool} {ic : IC} {lf : Nat} {E E' : Env} {H H' : AH} {ctl : Ctl} {β : BM} {a : Act} {w : World} {Q : Exit → Act → World → Prop} (hq : ¬ LetsOut Q)
    (hc : ccode P nt (.region id ops draw) = some ic) (hev : evC call lf ic E H = some (ctl, E', H')) (henv : EnvRel β E a) (hnt : nt ≤ a.tmps.size) (hdf : a.defers = ds) (hr : Rel P β H w) (hn : ∀ id, H.n ≤ id → id < H'.n → β id = none)
    (hQ : ∀ β' a' w', EnvRel β' E' a' → nt ≤ a'.tmps.size → a'.defers = ds → Post P β H w β' H' w' → ctl = .normal → Q .normal a' w') : (Code.region id ops draw).wpIn (WF ro) n P Q a w := by
  refine regWIn hm hq ?_ (region_simW hm hF hc hev henv hnt hdf hr hn hQ)
  unfold ccode at hc
  split at hc
  · cases hc
  · rename_i is his
    exact copers_no_defer his
theorem code_In (hm : P.follows .mixedOrders = true) (hF : SimF P call) {nt lf : Nat} : ∀ {c : Code} {ic : IC}, ccode P nt c = some ic → flatC ic = true → ∀ (E : Env) (H : AH) (ctl : Ctl) (E' : Env) (H' : AH) (β : BM) (a : Act) (w : World) (Q : Exit → Act → World → Prop), ¬ LetsOut Q →
    evC call lf ic E H = some (ctl, E', H') → EnvRel β E a → nt ≤ a.tmps.size → a.defers = ds → Rel P β H w → (∀ id, H.n ≤ id → id < H'.n → β id = none) →
    (∀ β' a' w', EnvRel β' E' a' → nt ≤ a'.tmps.size → a'.defers = ds → Post P β H w β' H' w' → Q (ctlExit ctl) a' w') → c.wpIn (WF ro) n P Q a w
  | .skip, ic, hc, hfl => by
    simp only [ccode, Option.some.injEq] at hc
    subst hc
    intro E H ctl E' H' β a w Q hq h henv hnt hdf hr hn hQ
    simp only [evC, Option.some.injEq, Prod.mk.injEq] at h
    obtain ⟨rfl, rfl, rfl⟩ := h
    exact wpIn_skip (hQ β a w henv hnt hdf (Post.refl hr))
  | .region id ops draw, ic, hc, hfl => by
    intro E H ctl E' H' β a w Q hq h henv hnt hdf hr hn hQ
    refine region_In hm hF hq hc h henv hnt hdf hr hn (fun β' a' w' h1 h2 h3 h4 h5 => ?_)
    have := hQ β' a' w' h1 h2 h3 h4
    rw [h5] at this
    exact this
  | .seq x y, ic, hc, hfl => by
    unfold ccode at hc
    split at hc
    · cases hc
    · rename_i ix hx
      split at hc
      · cases hc
      · rename_i iy hy
        cases hc
        simp only [flatC, Bool.and_eq_true] at hfl
        intro E H ctl E' H' β a w Q hq h henv hnt hdf hr hn hQ
        simp only [evC] at h
        split at h
        · rename_i E1 H1 h1
          have a1 := evC_ap hF h1
          have a2 := evC_ap hF h
          refine wpIn_seq (code_In hm hF hx hfl.1 _ _ _ _ _ _ _ _ (Exit.then (y.wpIn (WF ro) n P Q) Q) hq h1 henv hnt hdf hr (fun id e1 e2 => hn id e1 (Nat.lt_of_lt_of_le e2 a2.mono)) ?_)
          intro β' a' w' k1 k2 k3 k4
          show y.wpIn (WF ro) n P Q a' w'
          refine code_In hm hF hy hfl.2 _ _ _ _ _ _ _ _ _ hq h k1 k2 k3 k4.rel ?_ ?_
          · intro id e1 e2
            rw [k4.old id (.inr e1)]
            exact hn id (Nat.le_trans a1.mono e1) e2
          · intro β2 a2' w2 g1 g2 g3 g4
            exact hQ β2 a2' w2 g1 g2 g3 (Post.trans a1 a2 hn k4 g4)
        · rename_i hno
          refine wpIn_seq (code_In hm hF hx hfl.1 _ _ _ _ _ _ _ _ (Exit.then (y.wpIn (WF ro) n P Q) Q) hq h henv hnt hdf hr hn ?_)
          intro β' a' w' k1 k2 k3 k4
          have := hQ β' a' w' k1 k2 k3 k4
          cases ctl with
          | normal => exact (hno _ _ h).elim
          | exit id => exact this
          | ret => exact this
  | .cond c x y, ic, hc, hfl => by
    unfold ccode at hc
    split at hc
    · rename_i ho
      split at hc
      · cases hc
      · rename_i ix hx
        split at hc
        · cases hc
        · rename_i iy hy
          cases hc
          simp only [flatC, Bool.and_eq_true] at hfl
          intro E H ctl E' H' β a w Q hq h henv hnt hdf hr hn hQ
          have h1 : Ok1 β E a c := ok1_of hr.glob ho (fun t v _ hv => henv t v hv)
          simp only [evC] at h
          split at h
          · rename_i hcv
            exact wpIn_cond_true (h1 _ hcv).bool_inv (code_In hm hF hx hfl.1 _ _ _ _ _ _ _ _ _ hq h henv hnt hdf hr hn hQ)
          · rename_i hcv
            exact wpIn_cond_false (h1 _ hcv).bool_inv (code_In hm hF hy hfl.2 _ _ _ _ _ _ _ _ _ hq h henv hnt hdf hr hn hQ)
          · cases h
    · cases hc
  | .block id b, ic, hc, hfl => by
    unfold ccode at hc
    split at hc
    · cases hc
    · rename_i ib hb
      cases hc
      simp only [flatC] at hfl
      intro E H ctl E' H' β a w Q hq h henv hnt hdf hr hn hQ
      simp only [evC] at h
      split at h
      · rename_i k E1 H1 h1
        simp only [Option.some.injEq, Prod.mk.injEq] at h
        obtain ⟨rfl, rfl, rfl⟩ := h
        refine wpIn_block (code_In hm hF hb hfl _ _ _ _ _ _ _ _ (Exit.inBlock id Q) hq h1 henv hnt hdf hr hn ?_)
        intro β' a' w' k1 k2 k3 k4
        have := hQ β' a' w' k1 k2 k3 k4
        show (if k = id then Q .normal a' w' else Q (.exit k) a' w')
        by_cases hk : k = id
        · subst hk
          simp only [Nat.beq_refl, cond_true] at this
          rw [if_pos rfl]; exact this
        · rw [if_neg hk]
          rw [beq_ne hk] at this
          exact this
      · rename_i hno
        refine wpIn_block (code_In hm hF hb hfl _ _ _ _ _ _ _ _ (Exit.inBlock id Q) hq h henv hnt hdf hr hn ?_)
        intro β' a' w' k1 k2 k3 k4
        have := hQ β' a' w' k1 k2 k3 k4
        cases ctl with
        | normal => exact this
        | exit k => exact (hno _ _ _ h).elim
        | ret => exact this
  | .loop b, ic, hc, hfl => by
    unfold ccode at hc
    split at hc
    · cases hc
    · cases hc
      cases hfl
  | .exit id, ic, hc, hfl => by
    simp only [ccode, Option.some.injEq] at hc
    subst hc
    intro E H ctl E' H' β a w Q hq h henv hnt hdf hr hn hQ
    simp only [evC, Option.some.injEq, Prod.mk.injEq] at h
    obtain ⟨rfl, rfl, rfl⟩ := h
    exact wpIn_exit (hQ β a w henv hnt hdf (Post.refl hr))
  | .ret, ic, hc, hfl => by
    simp only [ccode, Option.some.injEq] at hc
    subst hc
    intro E H ctl E' H' β a w Q hq h henv hnt hdf hr hn hQ
    simp only [evC, Option.some.injEq, Prod.mk.injEq] at h
    obtain ⟨rfl, rfl, rfl⟩ := h
    exact wpIn_ret (hQ β a w henv hnt hdf (Post.refl hr))
  | .rangeFunc .., ic, hc, hfl => by simp [ccode] at hc
  | .scope _, ic, hc, hfl => by simp [ccode] at hc
  | .label _, ic, hc, hfl => by simp [ccode] at hc
  | .goto _, ic, hc, hfl => by simp [ccode] at hc
  | .refuse _, ic, hc, hfl => by simp [ccode] at hc
end
end Go.AL
end

/-! ## A range over slices.Backward: the iterator's own code, with a yield that is told. -/
section
set_option linter.unusedSimpArgs false
set_option linter.unusedVariables false
set_option maxHeartbeats 2000000
namespace Go.AL
/-- The iterator's code, in parts. -/
structure BackIR where
  nt : Nat
  i0 : List IOper
  i1 : List IOper
  iA : List IOper
  iB : List IOper
  iD : List IOper
/-- The iterator of function g: what its text is. -/
structure BackOk (P : Program) (g : Nat) (B : BackIR) (fn : Func) (id0 id1 idY idD : Nat) (o0 o1 oY oD : Array Oper) (o11 oC : Oper) (lA lB : List Oper) (tys : Array TypeId) : Prop where
  hf : P.funcs[g]? = some fn
  hnt : fn.ntmps = B.nt
  hn : (fn.name == "runtime.NumGoroutine") = false
  hb : fn.body = some (.seq (.region id0 o0 false) (.block 0 (.loop (.seq (.seq (.region id1 o1 false) (.cond (.tmp 8) .skip (.exit 0))) (.seq (.block 1 (.seq (.region idY oY false) (.cond (.tmp 18) .ret .skip))) (.region idD oD false))))))
  hr : fn.results.toList = []
  h0 : copers P B.nt o0 o0.toList = some B.i0
  h1 : copers P B.nt o1 o1.toList = some B.i1
  hA : copers P B.nt oY lA = some B.iA
  hB : copers P B.nt oY lB = some B.iB
  hD : copers P B.nt oD oD.toList = some B.iD
  hY : oY.toList = o11 :: (lA ++ oC :: lB)
  e11 : o11.op = .move (.tmp 0)
  d11 : o11.dst = some 11
  g11 : o11.guard = none
  eC : oC.op = .call ⟨.value (.tmp 11), #[.tmp 12, .tmp 16], tys⟩
  dC : oC.dst = some 17
  gC : oC.guard = none
  big : 19 ≤ B.nt
  k0 : (o0.toList ++ o1.toList ++ oY.toList ++ oD.toList).all (fun o => o.dst != some 0) = true
  k11 : lA.all (fun o => o.dst != some 11) = true
def backOf (g : Nat) (P : Program) : Option BackIR :=
  match P.funcs[g]? with
  | none => none
  | some fn => match fn.body with
    | some (.seq (.region _ o0 false) (.block 0 (.loop (.seq (.seq (.region _ o1 false) (.cond (.tmp 8) .skip (.exit 0))) (.seq (.block 1 (.seq (.region _ oY false) (.cond (.tmp 18) .ret .skip))) (.region _ oD false)))))) =>
      (match oY.toList with
      | o11 :: a1 :: a2 :: a3 :: a4 :: a5 :: oC :: lB => (match o11.op, o11.dst, o11.guard, oC.op, oC.dst, oC.guard with
        | .move (.tmp 0), some 11, none, .call ⟨.value (.tmp 11), ags, _⟩, some 17, none => (match ags.toList with
          | [.tmp 12, .tmp 16] => (match copers P fn.ntmps o0 o0.toList, copers P fn.ntmps o1 o1.toList, copers P fn.ntmps oY [a1, a2, a3, a4, a5], copers P fn.ntmps oY lB, copers P fn.ntmps oD oD.toList with
            | some i0, some i1, some iA, some iB, some iD =>
              if fn.results.toList.isEmpty && !(fn.name == "runtime.NumGoroutine") && Nat.ble 19 fn.ntmps && (o0.toList ++ o1.toList ++ oY.toList ++ oD.toList).all (fun o => o.dst != some 0) && [a1, a2, a3, a4, a5].all (fun o => o.dst != some 11) then some ⟨fn.ntmps, i0, i1, iA, iB, iD⟩ else none
            | _, _, _, _, _ => none)
          | _ => none)
        | _, _, _, _, _, _ => none)
      | _ => none)
    | _ => none
theorem backOf_ok {P : Program} {g : Nat} {B : BackIR} (h : backOf g P = some B) : ∃ fn id0 id1 idY idD o0 o1 oY oD o11 oC lA lB tys, BackOk P g B fn id0 id1 idY idD o0 o1 oY oD o11 oC lA lB tys := by
  unfold backOf at h
  split at h
  · cases h
  · rename_i fn hfn
    split at h
    · rename_i id0 o0 id1 o1 idY oY idD oD hb
      split at h
      · rename_i o11 a1 a2 a3 a4 a5 oC lB hY
        split at h
        · rename_i ags tys e11 d11 g11 eC dC gC
          split at h
          · rename_i hags
            split at h
            · rename_i i0 i1 iA iB iD h0 h1 hA hB hD
              split at h
              · rename_i hc
                simp only [Bool.and_eq_true, Bool.not_eq_true'] at hc
                obtain ⟨⟨⟨⟨c1, c2⟩, c3⟩, c4⟩, c5⟩ := hc
                obtain rfl := Option.some.inj h
                have : ags = #[.tmp 12, .tmp 16] := by apply Array.ext'; exact hags
                subst this
                exact ⟨fn, id0, id1, idY, idD, o0, o1, oY, oD, o11, oC, [a1, a2, a3, a4, a5], lB, tys, hfn, rfl, c2, hb, List.isEmpty_iff.1 c1, h0, h1, hA, hB, hD, hY, e11, d11, g11, eC, dC, gC, Nat.le_of_ble_eq_true c3, c4, c5⟩
              · cases h
            · cases h
          · cases h
        · cases h
      · cases h
    · cases h
/-- The rounds; the answer: did it come to its end? -/
def backLoop (call : Call) (B : BackIR) (y : Value → Value → AH → Option (Bool × AH)) : Nat → Env → AH → Option (Bool × AH)
  | 0, _, _ => none
  | n + 1, E, H => match evOps call B.i1 E H with
    | none => none
    | some (E1, H1, _) => match E1.get 8 with
      | some (.bool false) => some (true, H1)
      | some (.bool true) => (match evOps call B.iA (put E1 (some 11) (.chan none)) H1 with
        | none => none
        | some (E2, H2, _) => match E2.get 12, E2.get 16 with
          | some v, some x => (match y v x H2 with
            | none => none
            | some (b, H3) => match evOps call B.iB (put E2 (some 17) (.bool b)) H3 with
              | none => none
              | some (E4, H4, _) => match E4.get 18 with
                | some (.bool true) => bif b then none else some (false, H4)
                | some (.bool false) => bif b then (match evOps call B.iD E4 H4 with
                  | none => none
                  | some (E5, H5, _) => backLoop call B y n E5 H5) else none
                | _ => none)
          | _, _ => none)
      | _ => none
def backRun (call : Call) (B : BackIR) (y : Value → Value → AH → Option (Bool × AH)) (n : Nat) (cap : Value) (H : AH) : Option (Bool × AH) :=
  match evOps call B.i0 (envOf [.chan none, cap] 0) H with
  | none => none
  | some (E, H1, _) => backLoop call B y n E H1

/-! ## Lists of operations in a fence -/
section
variable {F : Fence} {n : Nat} {P : Program} {o : Oper} {a : Act} {w : World} {K : Act → World → Prop} {Q : Exit → Act → World → Prop} {ops : Array Oper}
theorem uponIn_then {next : Act → World → Prop} {r : Result Next} (h : o.uponIn F n P a next (Exit.then K Q) r) : o.uponIn F n P a next Q r := by
  cases r with
  | ok x w' =>
    cases x <;> simp only [Oper.uponIn] at h ⊢
    all_goals first
      | exact h
      | exact ⟨h.1, CallsIn.mono h.2 (fun e w'' he => by cases e <;> exact he)⟩
      | exact ⟨h.1, RoundIn.mono h.2 (fun e w'' he => by cases e <;> exact he)⟩
  | halt x w' => cases x <;> exact h
theorem then_uponIn {next : Act → World → Prop} {r : Result Next} (h : o.uponIn F n P a next Q r) : o.uponIn F n P a next (Exit.then K Q) r := by
  cases r with
  | ok x w' =>
    cases x <;> simp only [Oper.uponIn] at h ⊢
    all_goals first
      | exact h
      | exact ⟨h.1, CallsIn.mono h.2 (fun e w'' he => by cases e <;> exact he)⟩
      | exact ⟨h.1, RoundIn.mono h.2 (fun e w'' he => by cases e <;> exact he)⟩
  | halt x w' => cases x <;> exact h
theorem wpIn_put (h : o.wpIn F n P a w K Q) : o.wpIn F n P a w (fun a' w' => K a' w' ∧ ∃ v ds, a' = ({ a with defers := ds } : Act).put o.dst v) Q := by
  unfold Oper.wpIn at *
  refine ⟨h.1, ?_⟩
  have h := h.2
  generalize (o.semAt F.round a.eval).run P w = r at *
  cases r with
  | ok x w' =>
    cases x <;> simp only [Oper.uponIn] at h ⊢
    all_goals first
      | exact ⟨h, _, a.defers, rfl⟩
      | exact ⟨h, _, _, rfl⟩
      | exact ⟨h.1, CallsIn.mono h.2 (fun e w'' he => by cases e <;> first | exact ⟨he, _, a.defers, rfl⟩ | exact he)⟩
      | exact ⟨h.1, RowsIn.mono h.2 (fun _ _ he => ⟨he, _, a.defers, rfl⟩)⟩
      | exact ⟨h.1, RoundIn.mono h.2 (fun e w'' he => by cases e <;> first | exact ⟨he, _, a.defers, rfl⟩ | exact he)⟩
      | exact h
  | halt x w' => cases x <;> simp only [Oper.uponIn] at h ⊢ <;> exact h
theorem getD_put_ne {d : Option Nat} {v : Value} {t : Nat} (h : d ≠ some t) : (a.put d v).tmps.getD t undef = a.tmps.getD t undef := by
  cases d with
  | none => rfl
  | some d =>
    have : d ≠ t := fun e => h (by rw [e])
    simp only [Act.put, Array.getD_eq_getD_getElem?, Array.getElem?_setIfInBounds_ne this]
/-- What the operations do not fill, stays. -/
theorem listIn_frame {t : Nat} : ∀ {l : List Oper} {a : Act} {w : World}, (∀ o ∈ l, o.dst ≠ some t) → wpListIn F n P ops Q l a w → wpListIn F n P ops (Exit.then (fun a' w' => Q .normal a' w' ∧ a'.tmps.getD t undef = a.tmps.getD t undef) Q) l a w
  | [], a, w, _, h => ⟨h, rfl⟩
  | o :: rest, a, w, hd, h => by
    have ho := hd o (List.mem_cons_self ..)
    have ih : ∀ {a' w'}, a'.tmps.getD t undef = a.tmps.getD t undef → wpListIn F n P ops Q rest a' w' → wpListIn F n P ops (Exit.then (fun a' w' => Q .normal a' w' ∧ a'.tmps.getD t undef = a.tmps.getD t undef) Q) rest a' w' := by
      intro a' w' e hh
      have := listIn_frame (fun o ho => hd o (List.mem_cons_of_mem _ ho)) hh
      rw [e] at this
      exact this
    unfold wpListIn at h ⊢
    split
    · rename_i hw
      rw [if_pos hw] at h
      have h1 := Oper.wpIn_mono (K' := wpListIn F n P ops (Exit.then (fun a' w' => Q .normal a' w' ∧ a'.tmps.getD t undef = a.tmps.getD t undef) Q) rest) (fun a' w' hh => ?_) (wpIn_put h)
      · exact ⟨h1.1, then_uponIn h1.2⟩
      · obtain ⟨hh, v, ds, rfl⟩ := hh
        exact ih (getD_put_ne (a := { a with defers := ds }) ho) hh
    · rename_i hw
      rw [if_neg hw] at h
      exact ⟨h.1, ih (getD_put_ne ho) h.2⟩
theorem listIn_append : ∀ {l1 l2 : List Oper} {a : Act} {w : World}, wpListIn F n P ops (Exit.then (wpListIn F n P ops Q l2) Q) l1 a w → wpListIn F n P ops Q (l1 ++ l2) a w
  | [], _, _, _, h => h
  | o :: rest, l2, a, w, h => by
    unfold wpListIn at h
    rw [List.cons_append]
    unfold wpListIn
    split
    · rename_i hw
      rw [if_pos hw] at h
      have h1 := Oper.wpIn_mono (K' := wpListIn F n P ops Q (rest ++ l2)) (fun a' w' hh => listIn_append hh) h
      exact ⟨h1.1, uponIn_then h1.2⟩
    · rename_i hw
      rw [if_neg hw] at h
      exact ⟨h.1, listIn_append h.2⟩
theorem listIn_mono {Q' : Exit → Act → World → Prop} (hq : ∀ e a w, Q e a w → Q' e a w) : ∀ {l : List Oper} {a : Act} {w : World}, wpListIn F n P ops Q l a w → wpListIn F n P ops Q' l a w
  | [], _, _, h => hq _ _ _ h
  | o :: rest, a, w, h => by
    unfold wpListIn at h ⊢
    split
    · rename_i hw
      rw [if_pos hw] at h
      have h1 := Oper.wpIn_mono (K' := wpListIn F n P ops Q' rest) (fun a' w' hh => listIn_mono hq hh) h
      refine ⟨h1.1, ?_⟩
      have h2 := h1.2
      generalize (o.semAt F.round a.eval).run P w = r at *
      cases r with
      | ok x w' =>
        cases x <;> simp only [Oper.uponIn] at h2 ⊢
        all_goals first
          | exact h2
          | exact ⟨h2.1, CallsIn.mono h2.2 (fun e w'' he => by cases e <;> first | exact hq _ _ _ he | exact (let ⟨a, w, h⟩ := he; ⟨a, w, hq _ _ _ h⟩) | exact he)⟩
          | exact ⟨h2.1, RoundIn.mono h2.2 (fun e w'' he => by cases e <;> first | exact hq _ _ _ he | exact (let ⟨a, w, h⟩ := he; ⟨a, w, hq _ _ _ h⟩) | exact he)⟩
      | halt x w' => cases x <;> simp only [Oper.uponIn] at h2 ⊢ <;> first | exact hq _ _ _ h2 | exact h2
    · rename_i hw
      rw [if_neg hw] at h
      exact ⟨h.1, listIn_mono hq h.2⟩
end
end Go.AL
end

/-! ## The iterator's walk. -/
section
set_option linter.unusedSimpArgs false
set_option linter.unusedVariables false
set_option maxHeartbeats 2000000
namespace Go.AL
theorem Post.other {P : Program} {β β' : BM} {H H' : AH} {w w' : World} (hr : Rel P β H w) (h : Post P β H w β' H' w') {b : Nat} {o : Obj} (ho : w.heap[b]? = some o) (hc : ∀ c el fz, o ≠ .cells c el fz) : w'.heap[b]? = some o := by
  rw [h.frame b (Array.getElem?_eq_some_iff.1 ho).1 ?_, ho]
  intro id bi bk h1 h2 h3 e
  obtain ⟨c, el, fz, h4, _⟩ := hr.blk id bi bk h3 h1
  rw [e, ho] at h4
  cases h4
  exact hc _ _ _ rfl
/-- What may be said of the world beside the cells. -/
def Stab (P : Program) (J : World → Prop) : Prop := ∀ β H w β' H' w', Rel P β H w → Post P β H w β' H' w' → J w → J w'
section
variable {P : Program} {call : Call} {β0 : BM} {H0 : AH} {w0 : World} {N l : Nat} {ds : List Deferred} {J Jd : World → Prop}
/-- From the beginning (β0, H0, w0) we have come here. -/
structure At (P : Program) (β0 : BM) (H0 : AH) (w0 : World) (β : BM) (H : AH) (w : World) : Prop where
  ap : AP H0 H
  post : Post P β0 H0 w0 β H w
theorem At.fresh {β : BM} {H : AH} {w : World} (h : At P β0 H0 w0 β H w) (hn : ∀ id, H0.n ≤ id → id < N → β0 id = none) : ∀ id, H.n ≤ id → id < N → β id = none := by
  intro id h1 h2
  rw [h.post.old id (.inr h1)]
  exact hn id (Nat.le_trans h.ap.mono h1) h2
theorem At.step {β β' : BM} {H H' : AH} {w w' : World} (h : At P β0 H0 w0 β H w) (hn : ∀ id, H0.n ≤ id → id < N → β0 id = none) (a : AP H H') (hl : H'.n ≤ N) (hp : Post P β H w β' H' w') : At P β0 H0 w0 β' H' w' :=
  ⟨h.ap.trans a, Post.trans h.ap a (fun id h1 h2 => hn id h1 (Nat.lt_of_lt_of_le h2 hl)) h.post hp⟩
/-- The state between two operations. -/
structure St (P : Program) (β0 : BM) (H0 : AH) (w0 : World) (nt : Nat) (ds : List Deferred) (yv : Value) (J : World → Prop) (E : Env) (H : AH) (β : BM) (a : Act) (w : World) : Prop where
  env : EnvRel β E a
  sz : nt ≤ a.tmps.size
  df : a.defers = ds
  y0 : a.tmps.getD 0 undef = yv
  at_ : At P β0 H0 w0 β H w
  j : J w
theorem ops_In (hF : SimF P call) {ro : Option Nat} {n nt : Nat} {ops : Array Oper} {Q : Exit → Act → World → Prop} {l : List Oper} {is : List IOper} {E E' : Env} {H H' : AH} {fl : List (Bool × Bool)} {β : BM} {a : Act} {w : World} (hq : ¬ LetsOut Q)
    (hc : copers P nt ops l = some is) (he : evOps call is E H = some (E', H', fl)) (henv : EnvRel β E a) (hnt : nt ≤ a.tmps.size) (hdf : a.defers = ds) (hr : Rel P β H w) (hn : ∀ id, H.n ≤ id → id < H'.n → β id = none)
    (hQ : ∀ β' a' w', EnvRel β' E' a' → nt ≤ a'.tmps.size → a'.defers = ds → Post P β H w β' H' w' → Q .normal a' w') : wpListIn (WF ro) n P ops Q l a w := by
  refine listW hq (fun o ho => ?_) (ops_sim hF hc he henv hnt hdf hr hn hQ)
  obtain ⟨i, hi⟩ := List.getElem?_of_mem ho
  obtain ⟨_, hget⟩ := copers_get hc
  obtain ⟨io, _, hc⟩ := hget i o hi
  obtain ⟨c1, _⟩ := coper_some hc
  exact no_defer' c1
theorem lst_back (hF : SimF P call) (hJ : Stab P J) (hn : ∀ id, H0.n ≤ id → id < N → β0 id = none) {n nt t : Nat} {yv : Value} {ops : Array Oper} {X : Exit → Act → World → Prop} {l rest : List Oper} {is : List IOper} {E E' : Env} {H H' : AH} {fl : List (Bool × Bool)} {β : BM} {a : Act} {w : World}
    (hc : copers P nt ops l = some is) (he : evOps call is E H = some (E', H', fl)) (h0 : ∀ o ∈ l, o.dst ≠ some 0) (ht : ∀ o ∈ l, o.dst ≠ some t) (hl : H'.n ≤ N) (hs : St P β0 H0 w0 nt ds yv J E H β a w)
    (hK : ∀ β' a' w', β.le β' → St P β0 H0 w0 nt ds yv J E' H' β' a' w' → a'.tmps.getD t undef = a.tmps.getD t undef → wpListIn (WF none) n P ops X rest a' w') : wpListIn (WF none) n P ops X (l ++ rest) a w := by
  refine listIn_append ?_
  have ap := evOps_ap hF he
  have h1 := ops_In (ro := none) (n := n) (Q := fun e a' w' => e = .normal ∧ ∃ β', EnvRel β' E' a' ∧ nt ≤ a'.tmps.size ∧ a'.defers = ds ∧ Post P β H w β' H' w') hF (fun ⟨_, _, h, _⟩ => by cases h) hc he hs.env hs.sz hs.df hs.at_.post.rel (fun id e1 e2 => hs.at_.fresh hn id e1 (Nat.lt_of_lt_of_le e2 hl)) (fun β' a' w' k1 k2 k3 k4 => ⟨rfl, β', k1, k2, k3, k4⟩)
  refine listIn_mono ?_ (listIn_frame h0 (listIn_frame ht h1))
  intro e a' w' h
  cases e with
  | normal =>
    obtain ⟨⟨⟨_, β', k1, k2, k3, k4⟩, k5⟩, k6⟩ := h
    exact hK β' a' w' k4.ext ⟨k1, k2, k3, k6.trans hs.y0, hs.at_.step hn ap hl k4, hJ _ _ _ _ _ _ hs.at_.post.rel k4 hs.j⟩ k5
  | exit id => exact absurd h.1 (by simp)
  | goto id => exact absurd h.1 (by simp)
  | ret => exact absurd h.1 (by simp)
  | panic c => exact absurd h.1 (by simp)
  | outgrown => exact absurd h.1 (by simp)
theorem reg_back (hF : SimF P call) (hJ : Stab P J) (hn : ∀ id, H0.n ≤ id → id < N → β0 id = none) {n nt id : Nat} {yv : Value} {ops : Array Oper} {X : Exit → Act → World → Prop} {is : List IOper} {E E' : Env} {H H' : AH} {fl : List (Bool × Bool)} {β : BM} {a : Act} {w : World}
    (hc : copers P nt ops ops.toList = some is) (he : evOps call is E H = some (E', H', fl)) (h0 : ∀ o ∈ ops.toList, o.dst ≠ some 0) (hl : H'.n ≤ N) (hs : St P β0 H0 w0 nt ds yv J E H β a w)
    (hK : ∀ β' a' w', St P β0 H0 w0 nt ds yv J E' H' β' a' w' → X .normal a' w') : (Code.region id ops false).wpIn (WF none) n P X a w := by
  refine wpIn_region_list ?_
  rw [← List.append_nil ops.toList]
  exact lst_back hF hJ hn (rest := []) hc he h0 h0 hl hs (fun β' a' w' _ h _ => hK β' a' w' h)

theorem backLoop_ap (hF : SimF P call) {B : BackIR} {y : Value → Value → AH → Option (Bool × AH)} (hy : ∀ v x H b H1, y v x H = some (b, H1) → AP H H1) : ∀ {n : Nat} {E : Env} {H : AH} {r : Bool} {H' : AH}, backLoop call B y n E H = some (r, H') → AP H H'
  | 0, _, _, _, _, h => by cases h
  | n + 1, E, H, r, H', h => by
    unfold backLoop at h
    split at h
    · cases h
    · rename_i E1 H1 fl1 h1
      split at h
      · simp only [Option.some.injEq, Prod.mk.injEq] at h; obtain ⟨_, rfl⟩ := h; exact evOps_ap hF h1
      · split at h
        · cases h
        · rename_i E2 H2 fl2 h2
          split at h
          · rename_i v x hv hx
            split at h
            · cases h
            · rename_i b H3 h3
              split at h
              · cases h
              · rename_i E4 H4 fl4 h4
                have a4 := (((evOps_ap hF h1).trans (evOps_ap hF h2)).trans (hy _ _ _ _ _ h3)).trans (evOps_ap hF h4)
                split at h
                · cases b with
                  | true => cases h
                  | false => simp only [cond_false, Option.some.injEq, Prod.mk.injEq] at h; obtain ⟨_, rfl⟩ := h; exact a4
                · cases b with
                  | false => cases h
                  | true =>
                    simp only [cond_true] at h
                    split at h
                    · cases h
                    · rename_i E5 H5 fl5 h5
                      exact (a4.trans (evOps_ap hF h5)).trans (backLoop_ap hF hy h)
                · cases h
          · cases h
      · cases h
theorem all_ne {l : List Oper} {t : Nat} (h : l.all (fun o => o.dst != some t) = true) : ∀ o ∈ l, o.dst ≠ some t := by
  intro o ho
  have := List.all_eq_true.1 h o ho
  simpa using this
theorem backLoop_sim (hF : SimF P call) (hJ : Stab P J) (hJd : Stab P Jd) (hn : ∀ id, H0.n ≤ id → id < N → β0 id = none) {m g : Nat} {B : BackIR} {y : Value → Value → AH → Option (Bool × AH)} {fn : Func} {id0 id1 idY idD : Nat} {o0 o1 oY oD : Array Oper} {o11 oC : Oper} {lA lB : List Oper} {tys : Array TypeId} (hB : BackOk P g B fn id0 id1 idY idD o0 o1 oY oD o11 oC lA lB tys)
    (hyap : ∀ v x H b H1, y v x H = some (b, H1) → AP H H1)
    (hy : ∀ v x H b H1, y v x H = some (b, H1) → H1.n ≤ N → ∀ β w v' x', At P β0 H0 w0 β H w → J w → VR β v v' → VR β x x' → YieldAt (WF none) (m - 1) P l #[v', x'] w fun e w' => e = .returned (.bool b) ∧ ∃ β', β.le β' ∧ At P β0 H0 w0 β' H1 w' ∧ (if b = true then J w' else Jd w'))
    {Q : Exit → Act → World → Prop} : ∀ {n : Nat} {E : Env} {H : AH} {r : Bool} {H' : AH}, backLoop call B y n E H = some (r, H') → H'.n ≤ N → ∀ {β : BM} {a : Act} {w : World}, St P β0 H0 w0 B.nt ds (.func (.yield l) #[] #[]) J E H β a w →
      (∀ β' a' w', a'.defers = ds → At P β0 H0 w0 β' H' w' → (if r = true then J w' else Jd w') → Q (if r = true then .exit 0 else .ret) a' w') →
      Code.roundsIn (WF none) m P (.seq (.seq (.region id1 o1 false) (.cond (.tmp 8) .skip (.exit 0))) (.seq (.block 1 (.seq (.region idY oY false) (.cond (.tmp 18) .ret .skip))) (.region idD oD false))) Q n a w
  | 0, _, _, _, _, h, _, _, _, _, _, _ => by cases h
  | n + 1, E, H, r, H', h, hl, β, a, w, hs, hQ => by
    have k0 := hB.k0
    simp only [List.all_append, Bool.and_eq_true] at k0
    obtain ⟨⟨⟨_, k1⟩, kY⟩, kD⟩ := k0
    rw [hB.hY] at kY
    simp only [List.all_cons, List.all_append, Bool.and_eq_true] at kY
    obtain ⟨_, kA, _, kB⟩ := kY
    unfold backLoop at h
    rw [roundsIn_succ]
    split at h
    · cases h
    · rename_i E1 H1 fl1 h1
      have fin : H1.n ≤ H'.n → ∀ (X : Exit → Act → World → Prop), (∀ β' a' w', St P β0 H0 w0 B.nt ds (.func (.yield l) #[] #[]) J E1 H1 β' a' w' → X .normal a' w') → (Code.region id1 o1 false).wpIn (WF none) m P X a w :=
        fun hle X hX => reg_back hF hJ hn hB.h1 h1 (all_ne k1) (Nat.le_trans hle hl) hs hX
      refine wpIn_seq (wpIn_seq ?_)
      split at h
      · rename_i h8
        simp only [Option.some.injEq, Prod.mk.injEq] at h
        obtain ⟨rfl, rfl⟩ := h
        refine fin (Nat.le_refl _) _ (fun β' a' w' hs' => ?_)
        show (Code.cond (.tmp 8) .skip (.exit 0)).wpIn _ _ _ _ _ _
        refine wpIn_cond_false (hs'.env _ _ h8).bool_inv (wpIn_exit ?_)
        exact hQ β' a' w' hs'.df hs'.at_ (by rw [if_pos rfl]; exact hs'.j)
      · rename_i h8
        split at h
        · cases h
        · rename_i E2 H2 fl2 h2
          split at h
          · rename_i v x hv hx
            split at h
            · cases h
            · rename_i b H3 h3
              split at h
              · cases h
              · rename_i E4 H4 fl4 h4
                have a2 := evOps_ap hF h2
                have a3 := hyap _ _ _ _ _ h3
                have a4 := evOps_ap hF h4
                have a5 : AP H4 H' := by
                  split at h
                  · cases b with
                    | true => cases h
                    | false => simp only [cond_false, Option.some.injEq, Prod.mk.injEq] at h; obtain ⟨_, rfl⟩ := h; exact AP.refl _
                  · cases b with
                    | false => cases h
                    | true =>
                      simp only [cond_true] at h
                      split at h
                      · cases h
                      · rename_i E5 H5 fl5 h5
                        exact (evOps_ap hF h5).trans (backLoop_ap hF hyap h)
                  · cases h
                have m5 := a5.mono
                have m4 := a4.mono
                have m3 := a3.mono
                have m2 := a2.mono
                refine fin (by omega) _ (fun β1 a1 w1 hs1 => ?_)
                show (Code.cond (.tmp 8) .skip (.exit 0)).wpIn _ _ _ _ _ _
                refine wpIn_cond_true (hs1.env _ _ h8).bool_inv (wpIn_skip ?_)
                show (Code.seq (.block 1 (.seq (.region idY oY false) (.cond (.tmp 18) .ret .skip))) (.region idD oD false)).wpIn _ _ _ _ _ _
                refine wpIn_seq (wpIn_block (wpIn_seq (wpIn_region_list ?_)))
                rw [hB.hY]
                -- the yield itself is fetched
                have hbig := hB.big
                have s11 : ∀ z, some 11 = some z → z < a1.tmps.size := fun z e => by cases e; have := hs1.sz; omega
                have hs2 : St P β0 H0 w0 B.nt ds (.func (.yield l) #[] #[]) J (AL.put E1 (some 11) (.chan none)) H1 β1 (a1.put (some 11) (.func (.yield l) #[] #[])) w1 :=
                  ⟨hs1.env.put s11 (.junk _), by rw [size_put]; exact hs1.sz, by rw [defers_put]; exact hs1.df, by rw [getD_put_ne (by simp)]; exact hs1.y0, hs1.at_, hs1.j⟩
                unfold wpListIn
                rw [if_pos (by simp [Region.wanted, hB.g11])]
                refine ⟨fun _ _ => trivial, ?_⟩
                have r11 : (o11.semAt (WF none).round a1.eval).run P w1 = .ok (.value (.func (.yield l) #[] #[])) w1 := by
                  rw [Oper.semAt_eq _ _ _ (by rw [hB.e11]; simp)]
                  have e0 : a1.eval (.tmp 0) = .func (.yield l) #[] #[] := hs1.y0
                  have e11 := hB.e11
                  obtain ⟨dst, op, type, pos, after, guard⟩ := o11
                  simp only at e11
                  subst e11
                  simp [execOp, e0]
                rw [r11, Oper.uponIn_value, hB.d11]
                refine lst_back hF hJ hn (t := 11) hB.hA h2 (all_ne kA) (all_ne hB.k11) (by omega) hs2 (fun β2 a2' w2 _ hs3 h11 => ?_)
                rw [getD_put (t := 11) s11, if_pos rfl] at h11
                -- the call
                unfold wpListIn
                rw [if_pos (by simp [Region.wanted, hB.gC])]
                refine ⟨fun _ _ => trivial, ?_⟩
                obtain ⟨fnY, tmps, asg, body, hyr, hR⟩ := hy _ _ _ _ _ h3 (by omega) β2 w2 _ _ hs3.at_ hs3.j (hs3.env _ _ hv) (hs3.env _ _ hx)
                have rC : (oC.semAt (WF none).round a2'.eval).run P w2 = .ok (.round l fnY tmps asg body) w2 := by
                  rw [Oper.semAt_eq _ _ _ (by rw [hB.eC]; simp)]
                  have e0 : a2'.eval (.tmp 11) = .func (.yield l) #[] #[] := h11
                  have eC := hB.eC
                  obtain ⟨dst, op, type, pos, after, guard⟩ := oC
                  simp only at eC
                  subst eC
                  simp only [execOp, resolve, e0, Deferred.ofValue, Sem.run_bind, Sem.run_pure, Result.andThen_ok, invoke]
                  simpa [Act.eval] using hyr
                rw [rC, Oper.uponIn_round]
                refine ⟨ndW, hR.mono ?_⟩
                rintro e w3 ⟨rfl, β3, hle3, hat3, hj3⟩
                show wpListIn (WF none) m P oY _ lB (a2'.put oC.dst (.bool b)) w3
                rw [hB.dC]
                have s17 : ∀ z, some 17 = some z → z < a2'.tmps.size := fun z e => by cases e; have := hs3.sz; omega
                have env3 : EnvRel β3 (AL.put E2 (some 17) (.bool b)) (a2'.put (some 17) (.bool b)) := (hs3.env.mono hle3).put s17 (.bool _)
                have y3 : (a2'.put (some 17) (.bool b)).tmps.getD 0 undef = .func (.yield l) #[] #[] := by rw [getD_put_ne (by simp)]; exact hs3.y0
                cases b with
                | true =>
                  rw [if_pos rfl] at hj3
                  split at h
                  · cases h
                  · rename_i h18
                    simp only [cond_true] at h
                    split at h
                    · cases h
                    · rename_i E5 H5 fl5 h5
                      have a6 := backLoop_ap hF hyap h
                      have m6 := a6.mono
                      rw [← List.append_nil lB]
                      refine lst_back (ds := ds) hF hJ hn hB.hB h4 (all_ne kB) (all_ne kB) (by omega) (hs := ⟨env3, by rw [size_put]; exact hs3.sz, by rw [defers_put]; exact hs3.df, y3, hat3, hj3⟩) (fun β4 a4 w4 _ hs4 _ => ?_)
                      show (Code.cond (.tmp 18) .ret .skip).wpIn _ _ _ _ _ _
                      refine wpIn_cond_false (hs4.env _ _ h18).bool_inv (wpIn_skip ?_)
                      show (Code.region idD oD false).wpIn _ _ _ _ _ _
                      refine reg_back hF hJ hn hB.hD h5 (all_ne kD) (by omega) hs4 (fun β5 a5 w5 hs5 => ?_)
                      exact backLoop_sim hF hJ hJd hn hB hyap hy h hl hs5 hQ
                  · cases h
                | false =>
                  rw [if_neg (by decide)] at hj3
                  split at h
                  · rename_i h18
                    simp only [cond_false, Option.some.injEq, Prod.mk.injEq] at h
                    obtain ⟨rfl, rfl⟩ := h
                    rw [← List.append_nil lB]
                    refine lst_back (ds := ds) hF hJd hn hB.hB h4 (all_ne kB) (all_ne kB) (by omega) (hs := ⟨env3, by rw [size_put]; exact hs3.sz, by rw [defers_put]; exact hs3.df, y3, hat3, hj3⟩) (fun β4 a4 w4 _ hs4 _ => ?_)
                    show (Code.cond (.tmp 18) .ret .skip).wpIn _ _ _ _ _ _
                    refine wpIn_cond_true (hs4.env _ _ h18).bool_inv (wpIn_ret ?_)
                    exact hQ β4 a4 w4 hs4.df hs4.at_ (by rw [if_neg (by decide)]; exact hs4.j)
                  · cases h
                  · cases h
          · cases h
      · cases h
end
end Go.AL
end

/-! ## The statement: for i, x := range slices.Backward(l). -/
section
set_option linter.unusedSimpArgs false
set_option linter.unusedVariables false
set_option maxHeartbeats 2000000
namespace Go.AL
open Go.RowKit (Below)
section
variable {P : Program} {call : Call} {β0 β : BM} {H0 H : AH} {w0 w : World} {N l D : Nat} {ds : List Deferred} {J Jd : World → Prop}
theorem Rel.put (h : Rel P β H w) {l : Nat} {o : Obj} (o' : Obj) (ho : w.heap[l]? = some o) (hc : ∀ c el fz, o ≠ .cells c el fz) : Rel P β H (w.putObj l o') where
  lt := h.lt
  glt := h.glt
  glob := h.glob
  inj := h.inj
  blk id bi bk h1 h2 := by
    obtain ⟨c, el, fz, h3, h4⟩ := h.blk id bi bk h1 h2
    refine ⟨c, el, fz, ?_, h4⟩
    have : bi.b ≠ l := fun e => by rw [e, ho] at h3; cases h3; exact hc _ _ _ rfl
    rw [World.putObj_heap_other this]; exact h3
theorem Rel.alloc (h : Rel P β H w) (o : Obj) : Rel P β H (w.alloc o) where
  lt := h.lt
  glt := h.glt
  glob := h.glob
  inj := h.inj
  blk id bi bk h1 h2 := by
    obtain ⟨c, el, fz, h3, h4⟩ := h.blk id bi bk h1 h2
    exact ⟨c, el, fz, by rw [Below.heap_alloc _ _ _ (Array.getElem?_eq_some_iff.1 h3).1]; exact h3, h4⟩
theorem Post.put (h : Post P β0 H0 w0 β H w) {l : Nat} {o : Obj} (o' : Obj) (ho : w.heap[l]? = some o) (hc : ∀ c el fz, o ≠ .cells c el fz) (hl : w0.heap.size ≤ l) : Post P β0 H0 w0 β H (w.putObj l o') where
  ext := h.ext
  old := h.old
  rel := h.rel.put o' ho hc
  size := by rw [World.putObj_size]; exact h.size
  frame b hb hno := by rw [World.putObj_heap_other (by omega)]; exact h.frame b hb hno
  fresh := h.fresh
  os := h.os
  tape := h.tape
  output := h.output
theorem Post.alloc (h : Post P β0 H0 w0 β H w) (o : Obj) : Post P β0 H0 w0 β H (w.alloc o) where
  ext := h.ext
  old := h.old
  rel := h.rel.alloc o
  size := by rw [World.size_alloc]; have := h.size; omega
  frame b hb hno := by rw [Below.heap_alloc _ _ _ (Nat.lt_of_lt_of_le hb h.size)]; exact h.frame b hb hno
  fresh := h.fresh
  os := h.os
  tape := h.tape
  output := h.output
/-- The record of the loop and the block of its deferred calls. -/
def JR (l D : Nat) (r : Loop) (w : World) : Prop := w.heap[l]? = some (.loop r) ∧ w.heap[D]? = some (.deferred (some []))
theorem JR.stab {r : Loop} : Stab P (JR l D r) := fun β H w β' H' w' hr hp hj => ⟨hp.other hr hj.1 (fun _ _ _ e => by cases e), hp.other hr hj.2 (fun _ _ _ e => by cases e)⟩
theorem JR.put {r r' : Loop} (h : JR l D r w) (hne : D ≠ l) : JR l D r' (w.putObj l (.loop r')) :=
  ⟨World.putObj_heap_same (Array.getElem?_eq_some_iff.1 h.1).1, by rw [World.putObj_heap_other hne]; exact h.2⟩
theorem two_get (x y : Value) (n : Nat) : (#[x, y] ++ Array.replicate n undef).getD 0 undef = x ∧ (#[x, y] ++ Array.replicate n undef).getD 1 undef = y := by
  constructor <;> rw [Array.getD_eq_getD_getElem?, Array.getElem?_append_left (by simp)] <;> rfl
/-- The iterator, called. -/
theorem backRun_sim (hF : SimF P call) (hJ : Stab P J) (hJd : Stab P Jd) {H' : AH} {r : Bool} (hn : ∀ id, H0.n ≤ id → id < H'.n → β0 id = none) {m n g : Nat} {B : BackIR} {y : Value → Value → AH → Option (Bool × AH)} {fn : Func} {id0 id1 idY idD : Nat} {o0 o1 oY oD : Array Oper} {o11 oC : Oper} {lA lB : List Oper} {tys : Array TypeId} (hB : BackOk P g B fn id0 id1 idY idD o0 o1 oY oD o11 oC lA lB tys)
    (hyap : ∀ v x H b H1, y v x H = some (b, H1) → AP H H1)
    (hy : ∀ v x H b H1, y v x H = some (b, H1) → H1.n ≤ H'.n → ∀ β w v' x', At P β0 H0 w0 β H w → J w → VR β v v' → VR β x x' → YieldAt (WF none) (m - 1) P l #[v', x'] w fun e w' => e = .returned (.bool b) ∧ ∃ β', β.le β' ∧ At P β0 H0 w0 β' H1 w' ∧ (if b = true then J w' else Jd w'))
    {cap cap' : Value} (hcap : VR β cap cap') (he : backRun call B y n cap H = some (r, H')) (ha : At P β0 H0 w0 β H w) (hj : J w) :
    CallsIn (WF none) m P g #[.func (.yield l) #[] #[], cap'] w fun e w' => (∃ v, e = .returned v) ∧ ∃ β', At P β0 H0 w0 β' H' w' ∧ (if r = true then J w' else Jd w') := by
  refine callsIn_of_wp hB.hf hB.hb trivial ?_
  unfold backRun at he
  split at he
  · cases he
  · rename_i E1 H1 fl1 h1
    have k0 := hB.k0
    simp only [List.all_append, Bool.and_eq_true] at k0
    have ap := backLoop_ap hF hyap he
    have hbig := hB.big
    refine wpIn_seq (reg_back (w0 := w0) (β := β) (ds := []) (yv := .func (.yield l) #[] #[]) (N := H'.n) hF hJ hn hB.h0 h1 (all_ne k0.1.1.1) ap.mono (hs := ?_) (fun β1 a1 w1 hs1 => ?_))
    · refine ⟨?_, ?_, rfl, ?_, ha, hj⟩
      · intro t v hv
        rw [envOf_get] at hv
        match t, hv with
        | 0, hv => cases hv; exact .junk _
        | 1, hv => cases hv; rw [(two_get _ _ _).2]; exact hcap
        | t + 2, hv => simp at hv
      · simp [hB.hnt]; omega
      · exact (two_get _ _ _).1
    · show (Code.block 0 _).wpIn _ _ _ _ _ _
      refine wpIn_block (wpIn_loop_rounds n ?_)
      refine backLoop_sim hF hJ hJd hn hB hyap hy he (Nat.le_refl _) hs1 (fun β' a' w' hd hat hj' => ?_)
      have hres : (results fn a'.tmps).run P w' = .ok (.tuple #[]) w' := by
        have e : fn.results = #[] := by apply Array.ext'; exact hB.hr
        simp [results, e]
      have fin : (bodyPost P fn fun e w' => (∃ v, e = .returned v) ∧ ∃ β', At P β0 H0 w0 β' H' w' ∧ (if r = true then J w' else Jd w')) .ret a' w' := ⟨hd, _, hres, ⟨_, rfl⟩, β', hat, hj'⟩
      cases r with
      | true =>
        rw [if_pos rfl]
        simp only [Exit.inBlock, if_true]
        exact fin
      | false =>
        rw [if_neg (by decide)]
        exact fin
/-- What one round does. -/
def bodyY (call : Call) (lf p1 p2 : Nat) (iasg ibody : IC) (E : Env) (v x : Value) (H : AH) : Option (Bool × AH) :=
  match evC call lf iasg (AL.put (AL.put E (some p1) v) (some p2) x) H with
  | some (.normal, E1, H1) => (match evC call lf ibody E1 H1 with
    | some (.normal, _, H2) => some (true, H2)
    | some (.ret, _, H2) => some (false, H2)
    | _ => none)
  | _ => none
def rangeEv (call : Call) (lf n t p1 p2 g : Nat) (B : BackIR) (iasg ibody : IC) (E : Env) (H : AH) : Option (Bool × AH) :=
  match E.get t with
  | some (.func (.func k) ⟨[]⟩ ⟨[cap]⟩) => bif k.beq g then backRun call B (bodyY call lf p1 p2 iasg ibody E) n cap H else none
  | _ => none
theorem bodyY_ap (hF : SimF P call) {lf p1 p2 : Nat} {iasg ibody : IC} {E : Env} {v x : Value} {H : AH} {b : Bool} {H1 : AH} (h : bodyY call lf p1 p2 iasg ibody E v x H = some (b, H1)) : AP H H1 := by
  unfold bodyY at h
  split at h
  · rename_i E1 H2 h1
    split at h
    · rename_i E2 H3 h2
      simp only [Option.some.injEq, Prod.mk.injEq] at h; obtain ⟨_, rfl⟩ := h
      exact (evC_ap hF h1).trans (evC_ap hF h2)
    · rename_i E2 H3 h2
      simp only [Option.some.injEq, Prod.mk.injEq] at h; obtain ⟨_, rfl⟩ := h
      exact (evC_ap hF h1).trans (evC_ap hF h2)
    · cases h
  · cases h
theorem backRun_ap (hF : SimF P call) {B : BackIR} {y : Value → Value → AH → Option (Bool × AH)} (hy : ∀ v x H b H1, y v x H = some (b, H1) → AP H H1) {n : Nat} {cap : Value} {r : Bool} {H' : AH} (h : backRun call B y n cap H = some (r, H')) : AP H H' := by
  unfold backRun at h
  split at h
  · cases h
  · rename_i E1 H1 fl1 h1
    exact (evOps_ap hF h1).trans (backLoop_ap hF hy h)
theorem rangeEv_ap (hF : SimF P call) {lf n t p1 p2 g : Nat} {B : BackIR} {iasg ibody : IC} {E : Env} {r : Bool} {H' : AH} (h : rangeEv call lf n t p1 p2 g B iasg ibody E H = some (r, H')) : AP H H' := by
  unfold rangeEv at h
  split at h
  · rename_i k cap hk
    cases hb : k.beq g with
    | true => rw [hb] at h; exact backRun_ap hF (fun _ _ _ _ _ => bodyY_ap hF) h
    | false => rw [hb] at h; cases h
  · cases h
theorem range_sim (hm : P.follows .mixedOrders = true) (hF : SimF P call) {lf nt n t p1 p2 g m : Nat} {B : BackIR} {asg body : Code} {iasg ibody : IC} {fn : Func} {id0 id1 idY idD : Nat} {o0 o1 oY oD : Array Oper} {o11 oC : Oper} {lA lB : List Oper} {tys : Array TypeId} (hB : BackOk P g B fn id0 id1 idY idD o0 o1 oY oD o11 oC lA lB tys)
    (hasg : ccode P nt asg = some iasg) (hfa : flatC iasg = true) (hbody : ccode P nt body = some ibody) (hfb : flatC ibody = true) (hp1 : p1 < nt) (hp2 : p2 < nt)
    {E : Env} {H' : AH} {r : Bool} {a : Act} {Q : Exit → Act → World → Prop} (he : rangeEv call lf n t p1 p2 g B iasg ibody E H = some (r, H')) (henv : EnvRel β E a) (hnt : nt ≤ a.tmps.size) (hr : Rel P β H w) (hn : ∀ id, H.n ≤ id → id < H'.n → β id = none)
    (hQ : ∀ β' D w', w.heap.size ≤ D → w'.heap[D]? = some (.deferred (some [])) → Post P β H w β' H' w' → Q (if r = true then .normal else .ret) { a with defers := { target := .collected D, args := #[] } :: a.defers } w') :
    (Code.rangeFunc (.tmp t) #[p1, p2] asg body).wpIn (WF none) m P Q a w := by
  unfold rangeEv at he
  split at he
  · rename_i k cap hk
    cases hkb : k.beq g with
    | false => rw [hkb] at he; cases he
    | true =>
      rw [hkb] at he
      obtain rfl := Nat.eq_of_beq_eq_true hkb
      simp only [cond_true] at he
      obtain ⟨fs', cs', hfun, hfs, hcs⟩ := (henv t _ hk).func_inv
      cases hfs
      cases hcs with
      | cons hcap hcs =>
        rename_i cap' ws
        cases hcs
        refine wpIn_rangeFunc ?_
        intro fnc hfnc
        obtain ⟨rec, hrec⟩ : ∃ rec : LoopState → Option Code → Loop, rec = fun st pe => { state := st, pending := pe, fn := fnc, tmps := a.tmps, params := #[p1, p2], assign := asg, body, defers := w.heap.size } := ⟨_, rfl⟩
        obtain ⟨W1, hW1⟩ : ∃ W1, (w.alloc (.deferred (some []))).alloc (.loop (rec .ready none)) = W1 := ⟨_, rfl⟩
        have hL1 : W1.heap[w.heap.size + 1]? = some (.loop (rec .ready none)) := by
          rw [← hW1]; have := World.alloc_heap_new (w.alloc (.deferred (some []))) (.loop (rec .ready none)); rwa [World.size_alloc] at this
        have hK1 : W1.heap[w.heap.size]? = some (.deferred (some [])) := by
          rw [← hW1]; exact (Below.heap_alloc _ _ _ (by simp)).trans (World.alloc_heap_new w _)
        have hat : At P β H w β H W1 := ⟨AP.refl _, by rw [← hW1]; exact ((Post.refl hr).alloc _).alloc _⟩
        have hev : a.eval (.tmp t) = .func (.func k) #[] #[cap'] := hfun
        refine ⟨w.heap.size + 1, [{ target := .collected w.heap.size, args := #[] }], W1, { target := .fn (.func k) #[cap'], args := #[.func (.yield (w.heap.size + 1)) #[] #[]] }, W1, k,
          #[.func (.yield (w.heap.size + 1)) #[] #[], cap'], W1, ?_, ?_, fun _ _ => trivial, ?_, ndW, ?_⟩
        · rw [← hW1, hrec]; exact run_enterLoop_outer _ _ _ _ _
        · simp only [resolve, hev]
          simp [Deferred.ofValue, Act.eval]
        · have hfn := hB.hf
          have hnn := hB.hn
          simp only [beq_eq_false_iff_ne, ne_eq] at hnn
          simp [invoke, callFunc, run_program, hfn, hnn, hB.hb]
        · refine (backRun_sim (β0 := β) (H0 := H) (w0 := w) (J := JR (w.heap.size + 1) w.heap.size (rec .ready none)) (Jd := JR (w.heap.size + 1) w.heap.size (rec .done (some .ret))) hF JR.stab JR.stab hn hB (fun _ _ _ _ _ => bodyY_ap hF) ?_ hcap he hat ⟨hL1, hK1⟩).mono ?_
          · -- one round
            intro v x H1 b H3 hy hle β1 w1 v' x' hat1 hj hv hx
            have hyr : (Instr.yield (w.heap.size + 1) #[v', x']).run P w1 = .ok (.round (w.heap.size + 1) fnc ((a.put (some p1) v').put (some p2) x').tmps asg body) w1 := by
              rw [run_yield (P := P) (args := #[v', x']) hj.1 (by rw [hrec]; rfl), hrec]
              simp [Act.put]
            refine ⟨fnc, _, asg, body, hyr, roundIn_of_wpIn hfnc ?_⟩
            unfold bodyY at hy
            split at hy
            · rename_i E1 H2 h1
              have b1 : ∀ z, some p1 = some z → z < a.tmps.size := fun z e => by cases e; omega
              have b2 : ∀ z, some p2 = some z → z < (a.put (some p1) v').tmps.size := fun z e => by cases e; rw [size_put]; omega
              have env1 := ((henv.mono hat1.post.ext).put b1 hv).put b2 hx
              have a1 := evC_ap hF h1
              have a2 : AP H2 H3 := by
                split at hy
                · rename_i h2; simp only [Option.some.injEq, Prod.mk.injEq] at hy; obtain ⟨_, rfl⟩ := hy; exact evC_ap hF h2
                · rename_i h2; simp only [Option.some.injEq, Prod.mk.injEq] at hy; obtain ⟨_, rfl⟩ := hy; exact evC_ap hF h2
                · cases hy
              have m1 := a1.mono
              have m2 := a2.mono
              refine code_In (ds := []) (ro := some (w.heap.size + 1)) hm hF hasg hfa _ _ _ _ _ β1 { tmps := ((a.put (some p1) v').put (some p2) x').tmps, defers := [] } w1 _ (fun ⟨_, _, h⟩ => h) h1 env1 (by rw [size_put, size_put]; exact hnt) rfl hat1.post.rel (fun id e1 e2 => hat1.fresh hn id e1 (by omega)) ?_
              intro β2 a2' w2 k1 k2 k3 k4
              have hat2 := hat1.step hn a1 (by omega) k4
              have hj2 := JR.stab _ _ _ _ _ _ hat1.post.rel k4 hj
              refine ⟨_, run_beginRound hj2.1 (by rw [hrec]), ?_⟩
              have hne : w.heap.size ≠ w.heap.size + 1 := by omega
              obtain ⟨w3, hw3⟩ : ∃ w3, w2.putObj (w.heap.size + 1) (.loop { rec .ready none with state := .busy }) = w3 := ⟨_, rfl⟩
              rw [hw3]
              have hj3 : JR (w.heap.size + 1) w.heap.size { rec .ready none with state := .busy } w3 := by rw [← hw3]; exact hj2.put hne
              have hat3 : At P β H w β2 H2 w3 := ⟨hat2.ap, by rw [← hw3]; exact hat2.post.put _ hj2.1 (fun _ _ _ e => by cases e) (by omega)⟩
              have fin : ∀ (jump : Option Code) β4 w4, Post P β2 H2 w3 β4 H3 w4 → (Instr.endRound (w.heap.size + 1) jump).run P w4 = .ok (.bool jump.isNone) (w4.putObj (w.heap.size + 1) (.loop (rec (if jump.isNone then .ready else .done) jump))) ∧
                  At P β H w β4 H3 (w4.putObj (w.heap.size + 1) (.loop (rec (if jump.isNone then .ready else .done) jump))) ∧ JR (w.heap.size + 1) w.heap.size (rec (if jump.isNone then .ready else .done) jump) (w4.putObj (w.heap.size + 1) (.loop (rec (if jump.isNone then .ready else .done) jump))) := by
                intro jump β4 w4 hp
                have hj4 := JR.stab _ _ _ _ _ _ hat3.post.rel hp hj3
                have hat4 := hat3.step hn a2 hle hp
                have := run_endRound (P := P) jump hj4.1
                rw [hrec] at this hj4 ⊢
                exact ⟨this, ⟨hat4.ap, hat4.post.put _ hj4.1 (fun _ _ _ e => by cases e) (by omega)⟩, hj4.put hne⟩
              split at hy
              · rename_i E2 H4 h2
                simp only [Option.some.injEq, Prod.mk.injEq] at hy
                obtain ⟨rfl, rfl⟩ := hy
                refine code_In (ds := []) (ro := some (w.heap.size + 1)) hm hF hbody hfb _ _ _ _ _ β2 a2' w3 _ (fun ⟨_, _, h⟩ => h) h2 k1 k2 k3 hat3.post.rel (fun id e1 e2 => hat3.fresh hn id e1 (by omega)) ?_
                intro β4 a4 w4 g1 g2 g3 g4
                obtain ⟨q1, q2, q3⟩ := fin none β4 w4 g4
                exact ⟨_, _, q1, rfl, β4, k4.ext.trans g4.ext, q2, by rw [if_pos rfl]; exact q3⟩
              · rename_i E2 H4 h2
                simp only [Option.some.injEq, Prod.mk.injEq] at hy
                obtain ⟨rfl, rfl⟩ := hy
                refine code_In (ds := []) (ro := some (w.heap.size + 1)) hm hF hbody hfb _ _ _ _ _ β2 a2' w3 _ (fun ⟨_, _, h⟩ => h) h2 k1 k2 k3 hat3.post.rel (fun id e1 e2 => hat3.fresh hn id e1 (by omega)) ?_
                intro β4 a4 w4 g1 g2 g3 g4
                obtain ⟨q1, q2, q3⟩ := fin (some .ret) β4 w4 g4
                exact ⟨_, _, q1, rfl, β4, k4.ext.trans g4.ext, q2, by rw [if_neg (by decide)]; exact q3⟩
              · cases hy
            · cases hy
          · rintro e w2 ⟨⟨v, rfl⟩, β2, hat2, hj2⟩
            have hne : w.heap.size ≠ w.heap.size + 1 := by omega
            cases r with
            | true =>
              rw [if_pos rfl] at hj2
              have hend := run_endLoop (P := P) hj2.1 (by rw [hrec]; simp)
              refine ⟨_, _, hend, ?_⟩
              rw [hrec]
              exact hQ β2 _ _ (Nat.le_refl _) (hj2.put hne).2 (hat2.post.put _ hj2.1 (fun _ _ _ e => by cases e) (by omega))
            | false =>
              rw [if_neg (by decide)] at hj2
              have hend := run_endLoop (P := P) hj2.1 (by rw [hrec]; simp)
              refine ⟨_, _, hend, ?_⟩
              rw [hrec]
              exact wpIn_ret (hQ β2 _ _ (Nat.le_refl _) (hj2.put hne).2 (hat2.post.put _ hj2.1 (fun _ _ _ e => by cases e) (by omega)))
  · cases he
end
end Go.AL
end

/-! ## A function with one range over slices.Backward, told from without. -/
section
set_option linter.unusedSimpArgs false
set_option linter.unusedVariables false
set_option maxHeartbeats 2000000
namespace Go.AL
structure CatIR where
  nt : Nat
  iA : IC
  iX : IC
  iD : IC
  iE : IC
  iG : IC
  t : Nat
  p1 : Nat
  p2 : Nat
  iasg : IC
  ibody : IC
  res : List IRes
def catOf (f : Nat) (P : Program) : Option CatIR :=
  match P.funcs[f]? with
  | none => none
  | some fn => match fn.body with
    | some (.seq cA (.seq cX (.seq cD (.seq (.seq cE (.block 0 (.rangeFunc (.tmp t) ps asg body))) cG)))) =>
      (match ps.toList with
      | [p1, p2] => (match ccode P fn.ntmps cA, ccode P fn.ntmps cX, ccode P fn.ntmps cD, ccode P fn.ntmps cE, ccode P fn.ntmps cG, ccode P fn.ntmps asg, ccode P fn.ntmps body, cres P fn.results.toList with
        | some iA, some iX, some iD, some iE, some iG, some iasg, some ibody, some res =>
          if flatC iA && flatC iX && flatC iD && flatC iE && flatC iG && flatC iasg && flatC ibody && Nat.blt p1 fn.ntmps && Nat.blt p2 fn.ntmps && !(fn.name == "runtime.NumGoroutine") then some ⟨fn.ntmps, iA, iX, iD, iE, iG, t, p1, p2, iasg, ibody, res⟩ else none
        | _, _, _, _, _, _, _, _ => none)
      | _ => none)
    | _ => none
structure CatOk (P : Program) (f : Nat) (C : CatIR) (fn : Func) (cA cX cD cE cG asg body : Code) : Prop where
  hf : P.funcs[f]? = some fn
  hnt : fn.ntmps = C.nt
  hn : (fn.name == "runtime.NumGoroutine") = false
  hb : fn.body = some (.seq cA (.seq cX (.seq cD (.seq (.seq cE (.block 0 (.rangeFunc (.tmp C.t) #[C.p1, C.p2] asg body))) cG))))
  hA : ccode P C.nt cA = some C.iA
  hX : ccode P C.nt cX = some C.iX
  hD : ccode P C.nt cD = some C.iD
  hE : ccode P C.nt cE = some C.iE
  hG : ccode P C.nt cG = some C.iG
  hasg : ccode P C.nt asg = some C.iasg
  hbody : ccode P C.nt body = some C.ibody
  hr : cres P fn.results.toList = some C.res
  fA : flatC C.iA = true
  fX : flatC C.iX = true
  fD : flatC C.iD = true
  fE : flatC C.iE = true
  fG : flatC C.iG = true
  fasg : flatC C.iasg = true
  fbody : flatC C.ibody = true
  q1 : C.p1 < C.nt
  q2 : C.p2 < C.nt
theorem catOf_ok {P : Program} {f : Nat} {C : CatIR} (h : catOf f P = some C) : ∃ fn cA cX cD cE cG asg body, CatOk P f C fn cA cX cD cE cG asg body := by
  unfold catOf at h
  split at h
  · cases h
  · rename_i fn hfn
    split at h
    · rename_i cA cX cD cE t ps asg body cG hb
      split at h
      · rename_i p1 p2 hps
        split at h
        · rename_i iA iX iD iE iG iasg ibody res e1 e2 e3 e4 e5 e6 e7 e8
          split at h
          · rename_i hc
            simp only [Bool.and_eq_true, Bool.not_eq_true'] at hc
            obtain ⟨⟨⟨⟨⟨⟨⟨⟨⟨f1, f2⟩, f3⟩, f4⟩, f5⟩, f6⟩, f7⟩, f8⟩, f9⟩, f10⟩ := hc
            obtain rfl := Option.some.inj h
            have : ps = #[p1, p2] := by apply Array.ext'; exact hps
            subst this
            exact ⟨fn, cA, cX, cD, cE, cG, asg, body, hfn, rfl, f10, hb, e1, e2, e3, e4, e5, e6, e7, e8, f1, f2, f3, f4, f5, f6, f7, Nat.le_of_ble_eq_true f8, Nat.le_of_ble_eq_true f9⟩
          · cases h
        · cases h
      · cases h
    · cases h
def catFin (C : CatIR) (E : Env) (H : AH) : Option (Value × AH) :=
  match resOf E H C.res with
  | none => none
  | some vs => some (tupled vs, H)
/-- What the function does. -/
def catEv (call : Call) (lf n g : Nat) (B : BackIR) (C : CatIR) (args : List Value) (H : AH) : Option (Value × AH) :=
  match evC call lf C.iA (envOf args 0) H with
  | some (.normal, E1, H1) => (match evC call lf C.iX E1 H1 with
    | some (.ret, E2, H2) => catFin C E2 H2
    | some (.normal, E2, H2) => (match evC call lf C.iD E2 H2 with
      | some (.normal, E3, H3) => (match evC call lf C.iE E3 H3 with
        | some (.normal, E4, H4) => (match rangeEv call lf n C.t C.p1 C.p2 g B C.iasg C.ibody E4 H4 with
          | some (true, H5) => (match evC call lf C.iG E4 H5 with
            | some (.ret, E6, H6) => catFin C E6 H6
            | _ => none)
          | some (false, H5) => catFin C E4 H5
          | none => none)
        | _ => none)
      | _ => none)
    | _ => none)
  | _ => none
theorem catFin_heap {C : CatIR} {E : Env} {H : AH} {v : Value} {H1 : AH} (h : catFin C E H = some (v, H1)) : H1 = H := by
  unfold catFin at h
  split at h
  · cases h
  · simp only [Option.some.injEq, Prod.mk.injEq] at h; exact h.2.symm
theorem catEv_ap {P : Program} {call : Call} (hF : SimF P call) {lf n g : Nat} {B : BackIR} {C : CatIR} {args : List Value} {H : AH} {v : Value} {H1 : AH} (h : catEv call lf n g B C args H = some (v, H1)) : AP H H1 := by
  unfold catEv at h
  split at h
  · rename_i E1 Ha hA
    split at h
    · rename_i E2 Hx hX
      obtain rfl := catFin_heap h
      exact (evC_ap hF hA).trans (evC_ap hF hX)
    · rename_i E2 Hx hX
      split at h
      · rename_i E3 Hd hD
        split at h
        · rename_i E4 He hE
          have a4 := (((evC_ap hF hA).trans (evC_ap hF hX)).trans (evC_ap hF hD)).trans (evC_ap hF hE)
          split at h
          · rename_i Hr hR
            split at h
            · rename_i E6 Hg hG
              obtain rfl := catFin_heap h
              exact (a4.trans (rangeEv_ap hF hR)).trans (evC_ap hF hG)
            · cases h
          · rename_i Hr hR
            obtain rfl := catFin_heap h
            exact a4.trans (rangeEv_ap hF hR)
          · cases h
        · cases h
      · cases h
    · cases h
  · cases h
theorem catEv_simG {P : Program} {call : Call} {lf n g f : Nat} {B : BackIR} {C : CatIR} (hm : P.follows .mixedOrders = true) (hF : SimF P call) (hb : backOf g P = some B) (hc : catOf f P = some C) : SimG P f (catEv call lf n g B C) := by
  obtain ⟨fnB, id0, id1, idY, idD, o0, o1, oY, oD, o11, oC, lA, lB, tys, hB⟩ := backOf_ok hb
  obtain ⟨fn, cA, cX, cD, cE, cG, asg, body, hC⟩ := catOf_ok hc
  intro args H v H1 h
  refine ⟨catEv_ap hF h, ⟨fn, hC.hf, by rw [hC.hb]; rfl, hC.hn⟩, ?_⟩
  intro β w cargs hargs hr hn
  obtain ⟨R, hR⟩ : ∃ R : Ending → World → Prop, R = fun e w' => ∃ β' v', e = .returned v' ∧ VR β' v v' ∧ Post P β H w β' H1 w' := ⟨_, rfl⟩
  rw [← hR]
  have hRo : ∀ w, ¬ R .outgrown w := fun w' hh => by rw [hR] at hh; obtain ⟨_, _, e, _⟩ := hh; cases e
  have hnl : ¬ LetsOut (bodyPostM (WF none) 0 P fn R) := fun ⟨a, w, hh⟩ => hRo w hh
  have fin : ∀ {E' H' β' a' w'}, catFin C E' H' = some (v, H1) → EnvRel β' E' a' → At P β H w β' H' w' → (a'.defers = [] ∨ ∃ D, w.heap.size ≤ D ∧ a'.defers = [{ target := .collected D, args := #[] }] ∧ w'.heap[D]? = some (.deferred (some []))) →
      LeavesInM (WF none) 0 P fn a'.tmps R a'.defers .returning w' := by
    intro E' H' β' a' w' hf henv hat hd
    obtain rfl := catFin_heap hf
    unfold catFin at hf
    split at hf
    · cases hf
    · rename_i vs hres
      simp only [Option.some.injEq, Prod.mk.injEq, and_true] at hf
      subst hf
      rcases hd with hd | ⟨D, hle, hd, hD⟩
      · rw [hd]
        obtain ⟨v', r1, r2⟩ := results_sim (P := P) (fn := fn) henv hat.post.rel hC.hr hres
        exact ⟨v', r1, by rw [hR]; exact ⟨β', v', rfl, r2, hat.post⟩⟩
      · rw [hd]
        have hp := hat.post.put (.deferred none) hD (fun _ _ _ e => by cases e) hle
        obtain ⟨v', r1, r2⟩ := results_sim (P := P) (fn := fn) henv hp.rel hC.hr hres
        exact ⟨by simp, .inl ⟨D, _, rfl, run_takeDeferred hD, v', r1, by rw [hR]; exact ⟨β', v', rfl, r2, hp⟩⟩⟩
  have hl := hargs.length
  have hat0 : At P β H w β H w := ⟨AP.refl _, Post.refl hr⟩
  refine callsW' (ro := none) (n := 0) (callsIn_of_wp_marks hC.hf hC.hb trivial ?_)
  have henv0 : EnvRel β (envOf args 0) { tmps := (⟨cargs⟩ : Array Value) ++ Array.replicate (fn.ntmps - (⟨cargs⟩ : Array Value).size) undef, defers := [] } := by
    intro t v hv
    rw [envOf_get, if_pos (Nat.zero_le _), Nat.sub_zero] at hv
    obtain ⟨u, hu, hvr⟩ := hargs.get hv
    have hlt := (List.getElem?_eq_some_iff.1 hu).1
    have : ((⟨cargs⟩ : Array Value) ++ Array.replicate (fn.ntmps - (⟨cargs⟩ : Array Value).size) undef).getD t undef = u := by
      rw [Array.getD_eq_getD_getElem?, Array.getElem?_append_left (by simpa using hlt)]
      have : (⟨cargs⟩ : Array Value)[t]? = some u := by rw [← Array.getElem?_toList]; exact hu
      rw [this]; rfl
    rw [this]
    exact hvr
  have hsz0 : C.nt ≤ ((⟨cargs⟩ : Array Value) ++ Array.replicate (fn.ntmps - (⟨cargs⟩ : Array Value).size) undef).size := by simp [hC.hnt]; omega
  unfold catEv at h
  split at h
  · rename_i E1 Ha hA
    have aA := evC_ap hF hA
    have go : ∀ (hle : Ha.n ≤ H1.n), (∀ β1 a1 w1, EnvRel β1 E1 a1 → C.nt ≤ a1.tmps.size → a1.defers = [] → At P β H w β1 Ha w1 → (Code.seq cX (.seq cD (.seq (.seq cE (.block 0 (.rangeFunc (.tmp C.t) #[C.p1, C.p2] asg body))) cG))).wpIn (WF none) 0 P (bodyPostM (WF none) 0 P fn R) a1 w1) →
        (Code.seq cA (.seq cX (.seq cD (.seq (.seq cE (.block 0 (.rangeFunc (.tmp C.t) #[C.p1, C.p2] asg body))) cG)))).wpIn (WF none) 0 P (bodyPostM (WF none) 0 P fn R) { tmps := (⟨cargs⟩ : Array Value) ++ Array.replicate (fn.ntmps - (⟨cargs⟩ : Array Value).size) undef, defers := [] } w := by
      intro hle hk
      refine wpIn_seq (code_In (ds := []) hm hF hC.hA hC.fA _ _ _ _ _ β _ w _ hnl hA henv0 hsz0 rfl hr (fun id e1 e2 => hn id e1 (by omega)) ?_)
      intro β1 a1 w1 k1 k2 k3 k4
      exact hk β1 a1 w1 k1 k2 k3 (hat0.step hn aA hle k4)
    split at h
    · rename_i E2 Hx hX
      have aX := evC_ap hF hX
      have e1 := catFin_heap h
      subst e1
      refine go aX.mono (fun β1 a1 w1 k1 k2 k3 hat => ?_)
      refine wpIn_seq (code_In (ds := []) hm hF hC.hX hC.fX _ _ _ _ _ β1 _ w1 _ hnl hX k1 k2 k3 hat.post.rel (hat.fresh hn) ?_)
      intro β2 a2 w2 g1 g2 g3 g4
      exact fin h g1 (hat.step hn aX (Nat.le_refl _) g4) (.inl g3)
    · rename_i E2 Hx hX
      have aX := evC_ap hF hX
      split at h
      · rename_i E3 Hd hD
        have aD := evC_ap hF hD
        split at h
        · rename_i E4 He hE
          have aE := evC_ap hF hE
          have m1 := aX.mono
          have m2 := aD.mono
          have m3 := aE.mono
          have go2 : ∀ (hle : He.n ≤ H1.n), (∀ β1 a1 w1, EnvRel β1 E4 a1 → C.nt ≤ a1.tmps.size → a1.defers = [] → At P β H w β1 He w1 →
              (Code.rangeFunc (.tmp C.t) #[C.p1, C.p2] asg body).wpIn (WF none) 0 P (Exit.inBlock 0 (Exit.then (cG.wpIn (WF none) 0 P (bodyPostM (WF none) 0 P fn R)) (bodyPostM (WF none) 0 P fn R))) a1 w1) →
              (Code.seq cA (.seq cX (.seq cD (.seq (.seq cE (.block 0 (.rangeFunc (.tmp C.t) #[C.p1, C.p2] asg body))) cG)))).wpIn (WF none) 0 P (bodyPostM (WF none) 0 P fn R) { tmps := (⟨cargs⟩ : Array Value) ++ Array.replicate (fn.ntmps - (⟨cargs⟩ : Array Value).size) undef, defers := [] } w := by
            intro hle hk
            refine go (by omega) (fun β1 a1 w1 k1 k2 k3 hat => ?_)
            refine wpIn_seq (code_In (ds := []) hm hF hC.hX hC.fX _ _ _ _ _ β1 _ w1 _ hnl hX k1 k2 k3 hat.post.rel (fun id e1 e2 => hat.fresh hn id e1 (by omega)) ?_)
            intro β2 a2 w2 g1 g2 g3 g4
            have hat2 := hat.step hn aX (by omega) g4
            refine wpIn_seq (code_In (ds := []) hm hF hC.hD hC.fD _ _ _ _ _ β2 _ w2 _ hnl hD g1 g2 g3 hat2.post.rel (fun id e1 e2 => hat2.fresh hn id e1 (by omega)) ?_)
            intro β3 a3 w3 f1 f2 f3 f4
            have hat3 := hat2.step hn aD (by omega) f4
            refine wpIn_seq (wpIn_seq (code_In (ds := []) hm hF hC.hE hC.fE _ _ _ _ _ β3 _ w3 _ hnl hE f1 f2 f3 hat3.post.rel (fun id e1 e2 => hat3.fresh hn id e1 (by omega)) ?_))
            intro β4 a4 w4 d1 d2 d3 d4
            refine wpIn_block ?_
            exact hk β4 a4 w4 d1 d2 d3 (hat3.step hn aE hle d4)
          split at h
          · rename_i Hr hRg
            have aR := rangeEv_ap hF hRg
            split at h
            · rename_i E6 Hg hG
              have aG := evC_ap hF hG
              have e1 := catFin_heap h
              subst e1
              have m4 := aR.mono
              have m5 := aG.mono
              refine go2 (by omega) (fun β1 a1 w1 k1 k2 k3 hat => ?_)
              refine range_sim hm hF hB hC.hasg hC.fasg hC.hbody hC.fbody hC.q1 hC.q2 hRg k1 k2 hat.post.rel (fun id e1 e2 => hat.fresh hn id e1 (by omega)) ?_
              intro β2 D w2 hle hD2 hp
              have hat2 := hat.step hn aR (by omega) hp
              rw [if_pos rfl]
              refine code_In (ds := { target := .collected D, args := #[] } :: a1.defers) hm hF hC.hG hC.fG _ _ _ _ _ β2 _ w2 _ hnl hG (k1.mono hp.ext) k2 rfl hat2.post.rel (fun id e1 e2 => hat2.fresh hn id e1 (by omega)) ?_
              intro β3 a3 w3 g1 g2 g3 g4
              refine fin h g1 (hat2.step hn aG (Nat.le_refl _) g4) (.inr ⟨D, Nat.le_trans hat.post.size hle, by rw [g3, k3], ?_⟩)
              exact g4.other hat2.post.rel hD2 (fun _ _ _ e => by cases e)
            · cases h
          · rename_i Hr hRg
            have aR := rangeEv_ap hF hRg
            have e1 := catFin_heap h
            subst e1
            refine go2 aR.mono (fun β1 a1 w1 k1 k2 k3 hat => ?_)
            refine range_sim hm hF hB hC.hasg hC.fasg hC.hbody hC.fbody hC.q1 hC.q2 hRg k1 k2 hat.post.rel (hat.fresh hn) ?_
            intro β2 D w2 hle hD2 hp
            have hat2 := hat.step hn aR (Nat.le_refl _) hp
            rw [if_neg (by decide)]
            exact fin (a' := { a1 with defers := { target := .collected D, args := #[] } :: a1.defers }) h (k1.mono hp.ext) hat2 (.inr ⟨D, Nat.le_trans hat.post.size hle, by rw [k3], hD2⟩)
          · cases h
        · cases h
      · cases h
    · cases h
  · cases h
end Go.AL
end

/-! ## The same interpreter, for the kernel: each step unfolds little. -/
section
set_option linter.unusedSimpArgs false
set_option linter.unusedVariables false
set_option maxHeartbeats 1000000
namespace Go.AL
section
variable {α β : Type}
theorem half_odd {n : Nat} (h : n ≠ 0) : (bif (n % 2).beq 1 then n / 2 else n / 2 - 1) = (n - 1) / 2 := by
  cases hb : (n % 2).beq 1 with
  | true => have := Nat.eq_of_beq_eq_true hb; rw [cond_true]; omega
  | false => have := Nat.ne_of_beq_eq_false hb; rw [cond_false]; omega
/-- The way down, to the left or to the right. -/
def lr {γ : Type} (n : Nat) (x y : Nat → γ) : γ := cond (Nat.beq (Nat.mod n (nat_lit 2)) (nat_lit 1)) (x (Nat.div (Nat.sub n (nat_lit 1)) (nat_lit 2))) (y (Nat.div (Nat.sub n (nat_lit 1)) (nat_lit 2)))
theorem lr_eq {γ : Type} {n : Nat} (h : n.beq 0 = false) (x y : Nat → γ) : lr n x y = bif (n % 2).beq 1 then x (n / 2) else y (n / 2 - 1) := by
  have hn : n ≠ 0 := Nat.ne_of_beq_eq_false h
  have e := half_odd hn
  show (bif (n % 2).beq 1 then x ((n - 1) / 2) else y ((n - 1) / 2)) = _
  cases hb : (n % 2).beq 1 with
  | true => rw [hb] at e; simp only [cond_true] at e ⊢; rw [e]
  | false => rw [hb] at e; simp only [cond_false] at e ⊢; rw [e]
noncomputable def fget (t : T α) : Nat → Option α := T.rec (motive := fun _ => Nat → Option α) (fun _ => none) (fun v _ _ gl gr n => cond (Nat.beq n (nat_lit 0)) v (lr n gl gr)) t
theorem fget_eq (t : T α) : ∀ n, fget t n = t.get n := by
  induction t with
  | nil => intro n; rfl
  | node v l r hl hr =>
    intro n
    show (bif n.beq 0 then v else lr n (fget l) (fget r)) = _
    simp only [T.get]
    cases h : n.beq 0 with
    | true => rfl
    | false => rw [lr_eq h]; simp only [cond_false, hl, hr]
noncomputable def fins (x : Option α) (f : Nat) : T α → Nat → T α := Nat.rec (motive := fun _ => T α → Nat → T α) (fun t _ => t)
  (fun _ ih t n => T.casesOn (motive := fun _ => T α) t
    (cond (Nat.beq n (nat_lit 0)) (.node x .nil .nil) (lr n (fun m => .node none (ih .nil m) .nil) (fun m => .node none .nil (ih .nil m))))
    (fun v l r => cond (Nat.beq n (nat_lit 0)) (.node x l r) (lr n (fun m => .node v (ih l m) r) (fun m => .node v l (ih r m))))) f
theorem fins_eq (x : Option α) : ∀ (f : Nat) (t : T α) (n : Nat), fins x f t n = T.ins x f t n
  | 0, t, n => rfl
  | f + 1, .nil, n => by
    show (bif n.beq 0 then T.node x .nil .nil else lr n (fun m => .node none (fins x f .nil m) .nil) (fun m => .node none .nil (fins x f .nil m))) = _
    simp only [T.ins]
    cases h : n.beq 0 with
    | true => rfl
    | false => rw [lr_eq h]; simp only [cond_false, fins_eq x f]
  | f + 1, .node v l r, n => by
    show (bif n.beq 0 then T.node x l r else lr n (fun m => .node v (fins x f l m) r) (fun m => .node v l (fins x f r m))) = _
    simp only [T.ins]
    cases h : n.beq 0 with
    | true => rfl
    | false => rw [lr_eq h]; simp only [cond_false, fins_eq x f]
noncomputable def fset (t : T α) (n : Nat) (x : α) : T α := fins (some x) (Nat.succ n) t n
theorem fset_eq (t : T α) (n : Nat) (x : α) : fset t n x = t.set n x := fins_eq _ _ _ _
noncomputable def fdel (t : T α) (n : Nat) : T α := fins none (Nat.succ n) t n
theorem fdel_eq (t : T α) (n : Nat) : fdel t n = t.del n := fins_eq _ _ _ _
noncomputable def obind (o : Option α) (f : α → Option β) : Option β := Option.rec (motive := fun _ => Option β) none f o
@[simp] theorem obind_none (f : α → Option β) : obind none f = none := rfl
@[simp] theorem obind_some (a : α) (f : α → Option β) : obind (some a) f = f a := rfl
end
noncomputable def vBoolK {β : Type} (v : Value) : (Bool → Option β) → Option β := Value.rec (motive_1 := fun _ => (Bool → Option β) → Option β) (motive_2 := fun _ => PUnit) (motive_3 := fun _ => PUnit) (fun b => fun k => k b) (fun _ _ => fun _ => none) (fun _ _ => fun _ => none) (fun _ _ _ => fun _ => none) (fun _ => fun _ => none) (fun _ => fun _ => none) (fun _ _ _ => fun _ => none) (fun _ => fun _ => none) (fun _ => fun _ => none) (fun _ _ _ _ _ => fun _ => none) (fun _ => none) (fun _ _ _ => fun _ => none) (fun _ => none) (fun _ _ => fun _ => none) (fun _ _ => fun _ => none) (fun _ _ => ⟨⟩) ⟨⟩ (fun _ _ _ _ => ⟨⟩) v
noncomputable def vInt {β : Type} (v : Value) : (IntKind → Int → Option β) → Option β := Value.rec (motive_1 := fun _ => (IntKind → Int → Option β) → Option β) (motive_2 := fun _ => PUnit) (motive_3 := fun _ => PUnit) (fun _ => fun _ => none) (fun a b => fun k => k a b) (fun _ _ => fun _ => none) (fun _ _ _ => fun _ => none) (fun _ => fun _ => none) (fun _ => fun _ => none) (fun _ _ _ => fun _ => none) (fun _ => fun _ => none) (fun _ => fun _ => none) (fun _ _ _ _ _ => fun _ => none) (fun _ => none) (fun _ _ _ => fun _ => none) (fun _ => none) (fun _ _ => fun _ => none) (fun _ _ => fun _ => none) (fun _ _ => ⟨⟩) ⟨⟩ (fun _ _ _ _ => ⟨⟩) v
noncomputable def vPtrO {β : Type} (v : Value) : (Option Addr → Option β) → Option β := Value.rec (motive_1 := fun _ => (Option Addr → Option β) → Option β) (motive_2 := fun _ => PUnit) (motive_3 := fun _ => PUnit) (fun _ => fun _ => none) (fun _ _ => fun _ => none) (fun _ _ => fun _ => none) (fun _ _ _ => fun _ => none) (fun _ => fun _ => none) (fun o => fun k => k o) (fun _ _ _ => fun _ => none) (fun _ => fun _ => none) (fun _ => fun _ => none) (fun _ _ _ _ _ => fun _ => none) (fun _ => none) (fun _ _ _ => fun _ => none) (fun _ => none) (fun _ _ => fun _ => none) (fun _ _ => fun _ => none) (fun _ _ => ⟨⟩) ⟨⟩ (fun _ _ _ _ => ⟨⟩) v
noncomputable def vSlice {β : Type} (v : Value) : (Option Addr → Nat → Nat → Option β) → Option β := Value.rec (motive_1 := fun _ => (Option Addr → Nat → Nat → Option β) → Option β) (motive_2 := fun _ => PUnit) (motive_3 := fun _ => PUnit) (fun _ => fun _ => none) (fun _ _ => fun _ => none) (fun _ _ => fun _ => none) (fun _ _ _ => fun _ => none) (fun _ => fun _ => none) (fun _ => fun _ => none) (fun a n c => fun k => k a n c) (fun _ => fun _ => none) (fun _ => fun _ => none) (fun _ _ _ _ _ => fun _ => none) (fun _ => none) (fun _ _ _ => fun _ => none) (fun _ => none) (fun _ _ => fun _ => none) (fun _ _ => fun _ => none) (fun _ _ => ⟨⟩) ⟨⟩ (fun _ _ _ _ => ⟨⟩) v
noncomputable def vAggA {β : Type} (v : Value) : (Array Value → Option β) → Option β := Value.rec (motive_1 := fun _ => (Array Value → Option β) → Option β) (motive_2 := fun _ => PUnit) (motive_3 := fun _ => PUnit) (fun _ => fun _ => none) (fun _ _ => fun _ => none) (fun _ _ => fun _ => none) (fun _ _ _ => fun _ => none) (fun _ => fun _ => none) (fun _ => fun _ => none) (fun _ _ _ => fun _ => none) (fun _ => fun _ => none) (fun _ => fun _ => none) (fun _ _ _ _ _ => fun _ => none) (fun _ => none) (fun _ _ _ => fun _ => none) (fun _ => none) (fun cs _ => fun k => k cs) (fun _ _ => fun _ => none) (fun _ _ => ⟨⟩) ⟨⟩ (fun _ _ _ _ => ⟨⟩) v
noncomputable def vTupA {β : Type} (v : Value) : (Array Value → Option β) → Option β := Value.rec (motive_1 := fun _ => (Array Value → Option β) → Option β) (motive_2 := fun _ => PUnit) (motive_3 := fun _ => PUnit) (fun _ => fun _ => none) (fun _ _ => fun _ => none) (fun _ _ => fun _ => none) (fun _ _ _ => fun _ => none) (fun _ => fun _ => none) (fun _ => fun _ => none) (fun _ _ _ => fun _ => none) (fun _ => fun _ => none) (fun _ => fun _ => none) (fun _ _ _ _ _ => fun _ => none) (fun _ => none) (fun _ _ _ => fun _ => none) (fun _ => none) (fun _ _ => fun _ => none) (fun cs _ => fun k => k cs) (fun _ _ => ⟨⟩) ⟨⟩ (fun _ _ _ _ => ⟨⟩) v
noncomputable def vFuncA {β : Type} (v : Value) : (Fn → Array Value → Array Value → Option β) → Option β := Value.rec (motive_1 := fun _ => (Fn → Array Value → Array Value → Option β) → Option β) (motive_2 := fun _ => PUnit) (motive_3 := fun _ => PUnit) (fun _ => fun _ => none) (fun _ _ => fun _ => none) (fun _ _ => fun _ => none) (fun _ _ _ => fun _ => none) (fun _ => fun _ => none) (fun _ => fun _ => none) (fun _ _ _ => fun _ => none) (fun _ => fun _ => none) (fun _ => fun _ => none) (fun t fs cs _ _ => fun k => k t fs cs) (fun _ => none) (fun _ _ _ => fun _ => none) (fun _ => none) (fun _ _ => fun _ => none) (fun _ _ => fun _ => none) (fun _ _ => ⟨⟩) ⟨⟩ (fun _ _ _ _ => ⟨⟩) v
noncomputable def bsel {γ : Type} (c : Bool) (a b : γ) : γ := Bool.rec (motive := fun _ => γ) b a c
@[simp] theorem bsel_eq {γ : Type} (c : Bool) (a b : γ) : bsel c a b = bif c then a else b := by cases c <;> rfl
def vBool {β : Type} (v : Value) (x y : Option β) : Option β := match v with | .bool b => bif b then x else y | _ => none
noncomputable def fBool {β : Type} (v : Value) (x y : Option β) : Option β := vBoolK v fun b => bsel b x y
theorem fBool_eq {β : Type} (v : Value) (x y : Option β) : fBool v x y = vBool v x y := by cases v <;> first | rfl | (simp only [fBool, vBoolK, vBool, bsel_eq])
noncomputable def oaddr {β : Type} (o : Option Addr) : (Addr → Option β) → Option β := Option.rec (motive := fun _ => (Addr → Option β) → Option β) (fun _ => none) (fun a k => k a) o
noncomputable def vPtr {β : Type} (v : Value) (k : Addr → Option β) : Option β := vPtrO v fun o => oaddr o k
noncomputable def vAgg {β : Type} (v : Value) (k : List Value → Option β) : Option β := vAggA v fun a => k a.toList
noncomputable def vTup {β : Type} (v : Value) (k : List Value → Option β) : Option β := vTupA v fun a => k a.toList
noncomputable def vFunc {β : Type} (v : Value) (k : Nat → List Value → List Value → Option β) : Option β := vFuncA v fun t fs cs => (match t with | .func n => k n fs.toList cs.toList | _ => none)
noncomputable def fev (E : Env) (x : Operand) : Option Value := Operand.rec (motive := fun _ => Env → Option Value) (fun t E => fget E t) (fun v _ => some v) (fun g _ => some (.pointer (some ⟨g, 0, none⟩))) (fun f _ => some (.func (.func f) #[] #[])) x E
@[simp] theorem fev_eq (E : Env) (x : Operand) : fev E x = ev E x := by cases x <;> first | rfl | exact fget_eq _ _
noncomputable def fevs (E : Env) (l : List Operand) : Option (List Value) := List.rec (motive := fun _ => Option (List Value)) (some []) (fun x _ ih => obind (fev E x) fun v => obind ih fun vs => some (v :: vs)) l
@[simp] theorem fevs_eq (E : Env) : ∀ l, fevs E l = evs E l
  | [] => rfl
  | x :: l => by
    show (obind (fev E x) fun v => obind (fevs E l) fun vs => some (v :: vs)) = _
    rw [fevs_eq E l, fev_eq, show evs E (x :: l) = (match ev E x with | none => none | some v => match evs E l with | none => none | some vs => some (v :: vs)) from rfl]
    generalize evs E l = r
    cases ev E x with
    | none => rfl
    | some v => cases r <;> rfl
@[simp] theorem vPtr_some {β : Type} (a : Addr) (k : Addr → Option β) : vPtr (.pointer (some a)) k = k a := rfl
@[simp] theorem vSlice_mk {β : Type} (a : Option Addr) (n c : Nat) (k : Option Addr → Nat → Nat → Option β) : vSlice (.slice a n c) k = k a n c := rfl
/-! ## Pure operations -/
noncomputable def kno (k : IntKind) : Nat := IntKind.rec (nat_lit 0) (nat_lit 1) (nat_lit 2) (nat_lit 3) (nat_lit 4) (nat_lit 5) (nat_lit 6) (nat_lit 7) k
noncomputable def keq (k k' : IntKind) : Bool := Nat.beq (kno k) (kno k')
theorem keq_iff (k k' : IntKind) : keq k k' = decide (k = k') := by cases k <;> cases k' <;> rfl
noncomputable def kmax (k : IntKind) : Nat := IntKind.rec (nat_lit 128) (nat_lit 32768) (nat_lit 2147483648) (nat_lit 9223372036854775808) (nat_lit 256) (nat_lit 65536) (nat_lit 4294967296) (nat_lit 18446744073709551616) k
noncomputable def fwr (k : IntKind) (n : Int) : Int := Int.rec (motive := fun _ => Int) (fun m => bsel (Nat.ble (Nat.succ m) (kmax k)) (Int.ofNat m) (k.wrap (Int.ofNat m))) (fun m => fwrap k (Int.negSucc m)) n
theorem fwr_eq (k : IntKind) (n : Int) : fwr k n = fwrap k n := by
  cases n with
  | ofNat m =>
    show bsel (Nat.ble (Nat.succ m) (kmax k)) _ _ = _
    rw [bsel_eq]
    unfold fwrap
    have : inKind k (Int.ofNat m) = Nat.ble (Nat.succ m) (kmax k) := by cases k <;> rfl
    rw [this]
  | negSucc m => rfl
noncomputable def iadd (a b : Int) : Int := Int.rec (motive := fun _ => Int) (fun m => Int.rec (motive := fun _ => Int) (fun n => Int.ofNat (Nat.add m n)) (fun n => Int.add (Int.ofNat m) (Int.negSucc n)) b) (fun m => Int.add (Int.negSucc m) b) a
theorem iadd_eq (a b : Int) : iadd a b = a + b := by cases a <;> cases b <;> rfl
noncomputable def isub (a b : Int) : Int := Int.rec (motive := fun _ => Int) (fun m => Int.rec (motive := fun _ => Int) (fun n => bsel (Nat.ble n m) (Int.ofNat (Nat.sub m n)) (Int.sub (Int.ofNat m) (Int.ofNat n))) (fun n => Int.sub (Int.ofNat m) (Int.negSucc n)) b) (fun m => Int.sub (Int.negSucc m) b) a
theorem isub_eq (a b : Int) : isub a b = a - b := by
  cases a with
  | ofNat m => cases b with
    | ofNat n =>
      show bsel (Nat.ble n m) (Int.ofNat (m - n)) (Int.ofNat m - Int.ofNat n) = _
      rw [bsel_eq]
      cases h : Nat.ble n m with
      | true =>
        have := Nat.le_of_ble_eq_true h
        show (Int.ofNat (m - n) : Int) = (m : Int) - (n : Int)
        rw [← Int.ofNat_sub this]; rfl
      | false => rfl
    | negSucc n => rfl
  | negSucc m => rfl
noncomputable def gAdd (k : IntKind) (a b : Int) : Option Value := some (.int k (fwr k (iadd a b)))
noncomputable def gSub (k : IntKind) (a b : Int) : Option Value := some (.int k (fwr k (isub a b)))
def gMul (k : IntKind) (a b : Int) : Option Value := some (.int k (fwrap k (a * b)))
def iz (b : Int) : Bool := match b with | .ofNat n => n.beq 0 | .negSucc _ => false
theorem iz_eq (b : Int) : iz b = decide (b = 0) := by
  cases b with
  | ofNat n => cases n <;> rfl
  | negSucc n => rfl
def gQuo (k : IntKind) (a b : Int) : Option Value := bif iz b then none else some (.int k (fwrap k (a.tdiv b)))
def gRem (k : IntKind) (a b : Int) : Option Value := bif iz b then none else some (.int k (a.tmod b))
noncomputable def ieq (a b : Int) : Bool := Int.rec (motive := fun _ => Bool) (fun m => Int.rec (motive := fun _ => Bool) (fun n => Nat.beq m n) (fun _ => false) b) (fun m => Int.rec (motive := fun _ => Bool) (fun _ => false) (fun n => Nat.beq m n) b) a
theorem nbeq (m n : Nat) : m.beq n = decide (m = n) := by
  cases h : m.beq n with
  | true => exact (decide_eq_true (Nat.eq_of_beq_eq_true h)).symm
  | false => exact (decide_eq_false (Nat.ne_of_beq_eq_false h)).symm
theorem ieq_eq (a b : Int) : ieq a b = (a == b) := by
  have key : ieq a b = decide (a = b) := by
    cases a with
    | ofNat m => cases b with
      | ofNat n => show Nat.beq _ _ = _; rw [nbeq]; congr 1; exact propext ⟨fun h => by rw [h], fun h => Int.ofNat.inj h⟩
      | negSucc n => rfl
    | negSucc m => cases b with
      | ofNat n => rfl
      | negSucc n => show Nat.beq _ _ = _; rw [nbeq]; congr 1; exact propext ⟨fun h => by rw [h], fun h => Int.negSucc.inj h⟩
  rw [key]; rfl
noncomputable def ile (a b : Int) : Bool := Int.rec (motive := fun _ => Bool) (fun m => Int.rec (motive := fun _ => Bool) (fun n => Nat.ble m n) (fun _ => false) b) (fun m => Int.rec (motive := fun _ => Bool) (fun _ => true) (fun n => Nat.ble n m) b) a
theorem nble (m n : Nat) : Nat.ble m n = decide (m ≤ n) := by
  cases h : Nat.ble m n with
  | true => exact (decide_eq_true (Nat.le_of_ble_eq_true h)).symm
  | false => exact (decide_eq_false (Nat.not_le_of_not_ble_eq_true (by rw [h]; decide))).symm
theorem ile_eq (a b : Int) : ile a b = decide (a ≤ b) := by
  cases a with
  | ofNat m => cases b with
    | ofNat n => show Nat.ble _ _ = _; rw [nble]; congr 1; exact propext ⟨fun h => Int.ofNat_le.2 h, fun h => Int.ofNat_le.1 h⟩
    | negSucc n => exact (decide_eq_false (by have : (Int.ofNat m : Int) = (m : Int) := rfl; omega)).symm
  | negSucc m => cases b with
    | ofNat n => exact (decide_eq_true (by have : (Int.ofNat n : Int) = (n : Int) := rfl; omega)).symm
    | negSucc n => show Nat.ble _ _ = _; rw [nble]; congr 1; exact propext ⟨fun h => by omega, fun h => by omega⟩
noncomputable def gEql (a b : Int) : Option Value := some (.bool (ieq a b))
noncomputable def gNeq (a b : Int) : Option Value := some (.bool (!ieq a b))
noncomputable def gLss (a b : Int) : Option Value := some (.bool (!ile b a))
noncomputable def gLeq (a b : Int) : Option Value := some (.bool (ile a b))
noncomputable def fArith (op : BinOp) : IntKind → Int → Int → Option Value := BinOp.rec (motive := fun _ => IntKind → Int → Int → Option Value)
  gAdd gSub gMul gQuo gRem (intArith .and) (intArith .or) (intArith .xor) (intArith .shl) (intArith .shr) (intArith .andNot) (fun _ => gEql) (fun _ => gNeq) (fun _ => gLss) (fun _ => gLeq) (fun _ a b => gLss b a) (fun _ a b => gLeq b a) op
theorem fArith_eq (op : BinOp) (k : IntKind) (a b : Int) : fArith op k a b = intArith op k a b := by
  have h1 : ∀ a b : Int, (!ile b a) = decide (a < b) := fun a b => by
    rw [ile_eq, ← decide_not]; congr 1; exact propext ⟨fun h => by omega, fun h => by omega⟩
  have h2 : ∀ a b : Int, (!decide (b ≤ a)) = decide (a < b) := fun a b => by rw [← decide_not]; congr 1; exact propext ⟨fun h => by omega, fun h => by omega⟩
  cases op
  case add => show gAdd k a b = _; simp only [gAdd, intArith, fwr_eq, iadd_eq]
  case sub => show gSub k a b = _; simp only [gSub, intArith, fwr_eq, isub_eq]
  case mul => rfl
  case quo => show gQuo k a b = _; simp only [gQuo, intArith, iz_eq, cond_eq_ite, decide_eq_true_eq]
  case rem => show gRem k a b = _; simp only [gRem, intArith, iz_eq, cond_eq_ite, decide_eq_true_eq]
  case eql => show gEql a b = _; simp only [gEql, intArith, ieq_eq]
  case neq => show gNeq a b = _; simp only [gNeq, intArith, ieq_eq, bne]
  case lss => show gLss a b = _; simp only [gLss, intArith, h1]
  case leq => show gLeq a b = _; simp only [gLeq, intArith, ile_eq]
  case gtr => show gLss b a = _; simp only [gLss, intArith, h1, gt_iff_lt]
  case geq => show gLeq b a = _; simp only [gLeq, intArith, ile_eq, ge_iff_le]
  all_goals rfl
noncomputable def fIntN (op : BinOp) (k k' : IntKind) (a b : Int) : Option Value := bsel (keq k k') (fArith op k a b) none
noncomputable def fInt (op : BinOp) : IntKind → IntKind → Int → Int → Option Value := BinOp.rec (motive := fun _ => IntKind → IntKind → Int → Int → Option Value)
  (fIntN .add) (fIntN .sub) (fIntN .mul) (fIntN .quo) (fIntN .rem) (fIntN .and) (fIntN .or) (fIntN .xor) (fun k _ a b => aShift .shl k a b) (fun k _ a b => aShift .shr k a b) (fIntN .andNot) (fIntN .eql) (fIntN .neq) (fIntN .lss) (fIntN .leq) (fIntN .gtr) (fIntN .geq) op
noncomputable def fabInt (k : IntKind) (a : Int) (tk : Nat) (op : BinOp) (y : Value) : Option Value := vInt y fun k' b => fInt op k k' a b
noncomputable def fabin (x : Value) : Nat → BinOp → Value → Option Value := Value.rec (motive_1 := fun _ => Nat → BinOp → Value → Option Value) (motive_2 := fun _ => PUnit) (motive_3 := fun _ => PUnit)
  (fun b tk op y => abin tk op (.bool b) y) fabInt (fun k n tk op y => abin tk op (.float k n) y) (fun k n m tk op y => abin tk op (.complex k n m) y) (fun s tk op y => abin tk op (.string s) y) (fun a tk op y => abin tk op (.pointer a) y) (fun a n c tk op y => abin tk op (.slice a n c) y)
  (fun r tk op y => abin tk op (.map r) y) (fun r tk op y => abin tk op (.chan r) y) (fun f a b _ _ tk op y => abin tk op (.func f a b) y) (fun tk op y => abin tk op .nilFunc y) (fun a b _ tk op y => abin tk op (.iface a b) y) (fun tk op y => abin tk op .nilIface y) (fun a _ tk op y => abin tk op (.agg a) y) (fun a _ tk op y => abin tk op (.tuple a) y)
  (fun _ _ => ⟨⟩) ⟨⟩ (fun _ _ _ _ => ⟨⟩) x
theorem fabin_eq (tk : Nat) (op : BinOp) (x y : Value) : fabin x tk op y = abin tk op x y := by
  cases x with
  | int k a =>
    cases y with
    | int k' b =>
      show fInt op k k' a b = abin tk op (.int k a) (.int k' b)
      cases op
      case shl => simp only [abin]; rfl
      case shr => simp only [abin]; rfl
      all_goals
        show fIntN _ k k' a b = _
        simp only [fIntN, abin, keq_iff, bsel_eq, cond_eq_ite, decide_eq_true_eq, fArith_eq]
    | _ => rfl
  | _ => rfl
noncomputable def ffill (E : Env) (ps : List (Nat × Nat × Operand)) : List Value → Option (List Value) := List.rec (motive := fun _ => List Value → Option (List Value)) (fun cs => some cs)
  (fun p _ ih cs => obind (fev E p.2.2) fun v => bif ((cellsOf v).length.beq p.2.1 && !junk v) then obind (putCells cs p.1 (cellsOf v)) ih else none) ps
theorem ffill_eq (E : Env) : ∀ (ps : List (Nat × Nat × Operand)) (cs : List Value), ffill E ps cs = fillParts E cs ps
  | [], cs => rfl
  | (off, sz, x) :: ps, cs => by
    show (obind (fev E x) fun v => bif ((cellsOf v).length.beq sz && !junk v) then obind (putCells cs off (cellsOf v)) (ffill E ps) else none) = _
    rw [fev_eq]
    unfold fillParts
    cases ev E x with
    | none => rfl
    | some v =>
      simp only [obind_some]
      cases ((cellsOf v).length.beq sz && !junk v) with
      | false => rfl
      | true =>
        simp only [cond_true]
        cases putCells cs off (cellsOf v) with
        | none => rfl
        | some c => exact ffill_eq E ps c
def fidx (a : Option Addr) (len esz : Nat) (i : Int) : Option Value := match a with
  | none => none
  | some a => match i with
    | .ofNat m => bif Nat.blt m len then some (.pointer (some (addOff a (m * esz)))) else none
    | .negSucc _ => none
theorem fidx_eq (a : Addr) (len esz : Nat) (i : Int) : fidx (some a) len esz i = if 0 ≤ i ∧ i < (len : Int) then some (.pointer (some (addOff a (i.toNat * esz)))) else none := by
  cases i with
  | ofNat m =>
    have e : (Int.ofNat m : Int) = (m : Int) := rfl
    show (bif Nat.blt m len then _ else _) = _
    have : Nat.blt m len = decide (0 ≤ (Int.ofNat m : Int) ∧ (Int.ofNat m : Int) < (len : Int)) := by
      show Nat.ble (m + 1) len = _
      rw [nble]; congr 1; exact propext ⟨fun h => by rw [e]; omega, fun h => by rw [e] at h; omega⟩
    rw [this, cond_eq_ite]
    simp only [decide_eq_true_eq]
    rfl
  | negSucc m => rw [if_neg (fun h => by omega)]; rfl
abbrev PF := Env → Option Value
noncomputable def pMov (x : Operand) : PF := fun E => fev E x
noncomputable def pPick (c a b : Operand) : PF := fun E => obind (fev E c) fun v => fBool v (fev E a) (fev E b)
noncomputable def pBuild (z : List Value) (ps : List (Nat × Nat × Operand)) : PF := fun E => obind (ffill E ps z) fun cs => some (.agg ⟨cs⟩)
noncomputable def pBin (tk : Nat) (op : BinOp) (x y : Operand) : PF := fun E => obind (fev E x) fun a => obind (fev E y) fun b => fabin a tk op b
noncomputable def pUn (op : UnOp) (x : Operand) : PF := fun E => obind (fev E x) fun a => aun op a
noncomputable def pConv (k : IntKind) (x : Operand) : PF := fun E => obind (fev E x) fun a => vInt a fun _ n => some (.int k (fwr k n))
noncomputable def pClo (fn : Fn) (fs cs : List Operand) : PF := fun E => obind (fevs E fs) fun fs => obind (fevs E cs) fun cs => some (.func fn ⟨fs⟩ ⟨cs⟩)
noncomputable def pFieldAddr (off : Nat) (x : Operand) : PF := fun E => obind (fev E x) fun v => vPtr v fun a => some (.pointer (some (addOff a off)))
noncomputable def pField (agg : Option Nat) (off : Nat) (x : Operand) : PF := fun E => obind (fev E x) fun v => vAgg v fun cs => part agg cs off
noncomputable def pIxS (esz : Nat) (x i : Operand) : PF := fun E => obind (fev E x) fun v => vSlice v fun a len _ => obind (fev E i) fun w => vInt w fun _ i => fidx a len esz i
noncomputable def pIxA (esz n : Nat) (x i : Operand) : PF := fun E => obind (fev E x) fun v => vPtr v fun a => obind (fev E i) fun w => vInt w fun _ i => fidx (some a) n esz i
noncomputable def pIx (esz : Nat) (arr : Option Nat) (x i : Operand) : PF := Option.rec (motive := fun _ => PF) (pIxS esz x i) (fun n => pIxA esz n x i) arr
noncomputable def pExtract (x : Operand) (i : Nat) : PF := fun E => obind (fev E x) fun v => vTup v fun vs => vs[i]?
noncomputable def pLenArr (n : Nat) : PF := fun _ => some (.int .i64 n)
noncomputable def vLen (str : Bool) (v : Value) : Option Value := match v with
  | .slice _ n _ => bif str then none else some (.int .i64 n)
  | .string s => bif str then some (.int .i64 s.size) else none
  | _ => none
noncomputable def pLen (str : Bool) (x : Operand) : PF := fun E => obind (fev E x) (vLen str)
noncomputable def pNone : PF := fun _ => none
noncomputable def fpop (E : Env) (i : IOp) : Option Value := IOp.rec (motive := fun _ => PF) pMov pPick pBuild pBin pUn pConv pClo (fun a b c d e f E => pop E (.slice a b c d e f)) pFieldAddr pField pIx (fun a b c d e E => pop E (.index a b c d e)) (fun a b E => pop E (.strIndex a b)) pExtract pLen pLenArr (fun a E => pop E (.max a)) (fun a E => pop E (.min a))
  (fun _ => pNone) (fun _ => pNone) (fun _ _ _ => pNone) (fun _ _ => pNone) (fun _ _ _ => pNone) (fun _ _ _ _ _ => pNone) (fun _ _ _ _ => pNone) (fun _ _ _ => pNone) (fun _ _ => pNone) i E
theorem fpop_eq (E : Env) (i : IOp) : fpop E i = pop E i := by
  cases i with
  | mov x => exact fev_eq E x
  | pick c a b =>
    show pPick c a b E = _
    simp only [pPick, pop, fwr_eq, fBool_eq, fev_eq]
    cases ev E c with
    | none => rfl
    | some v => cases v with
      | bool b => cases b <;> rfl
      | _ => rfl
  | build z ps =>
    show pBuild z ps E = _
    simp only [pBuild, pop, fwr_eq, fBool_eq, ffill_eq]
    cases fillParts E z ps <;> rfl
  | bin tk op x y =>
    show pBin tk op x y E = _
    simp only [pBin, pop, fwr_eq, fBool_eq, fev_eq, fabin_eq]
    cases ev E x with
    | none => rfl
    | some a => cases ev E y <;> rfl
  | un op x =>
    show pUn op x E = _
    simp only [pUn, pop, fwr_eq, fBool_eq, fev_eq]
    cases ev E x <;> rfl
  | conv k x =>
    show pConv k x E = _
    simp only [pConv, pop, fwr_eq, fBool_eq, fev_eq]
    cases ev E x with
    | none => rfl
    | some v => cases v <;> rfl
  | clo fn fs cs =>
    show pClo fn fs cs E = _
    simp only [pClo, pop, fwr_eq, fBool_eq, fevs_eq]
    cases evs E fs with
    | none => rfl
    | some v => cases evs E cs <;> rfl
  | fieldAddr off x =>
    show pFieldAddr off x E = _
    simp only [pFieldAddr, pop, fwr_eq, fBool_eq, fev_eq]
    cases ev E x with
    | none => rfl
    | some v => cases v with
      | pointer o => cases o <;> rfl
      | _ => rfl
  | field agg off x =>
    show pField agg off x E = _
    simp only [pField, pop, fwr_eq, fBool_eq, fev_eq]
    cases ev E x with
    | none => rfl
    | some v => cases v <;> rfl
  | indexAddr esz arr x i =>
    cases arr with
    | none =>
      show pIxS esz x i E = _
      simp only [pIxS, pop, fev_eq]
      cases ev E x with
      | none => rfl
      | some v => cases v with
        | slice a len cap =>
          cases ev E i with
          | none => cases a <;> rfl
          | some w => cases w with
            | int k i =>
              cases a with
              | none => rfl
              | some a => exact fidx_eq a len esz i
            | _ => cases a <;> rfl
        | _ => rfl
    | some n =>
      show pIxA esz n x i E = _
      simp only [pIxA, pop, fev_eq]
      cases ev E x with
      | none => rfl
      | some v => cases v with
        | pointer o =>
          cases o with
          | none => rfl
          | some a =>
            cases ev E i with
            | none => rfl
            | some w => cases w with
              | int k i => exact fidx_eq a n esz i
              | _ => rfl
        | _ => rfl
  | extract x i =>
    show pExtract x i E = _
    simp only [pExtract, pop, fwr_eq, fBool_eq, fev_eq]
    cases ev E x with
    | none => rfl
    | some v => cases v <;> rfl
  | lenArr n => rfl
  | len str x =>
    show pLen str x E = _
    simp only [pLen, pop, fev_eq]
    cases ev E x with
    | none => rfl
    | some v => cases v <;> rfl
  | _ => rfl
/-! ## The heap -/
noncomputable def fnew (H : AH) (b : Blk) : AH := { t := fset H.t H.n b, n := H.n + 1, wl := H.wl }
theorem fnew_eq (H : AH) (b : Blk) : fnew H b = H.new b := by unfold fnew AH.new; rw [fset_eq]
noncomputable def fwrite (H : AH) (id : Nat) (b : Blk) : AH := { t := fset H.t id b, n := H.n, wl := min H.wl id }
theorem fwrite_eq (H : AH) (id : Nat) (b : Blk) : fwrite H id b = H.write id b := by unfold fwrite AH.write; rw [fset_eq]
noncomputable def fkill (H : AH) (id : Nat) : AH := { t := fdel H.t id, n := H.n, wl := min H.wl id }
theorem fkill_eq (H : AH) (id : Nat) : fkill H id = H.kill id := by unfold fkill AH.kill; rw [fdel_eq]
noncomputable def fbox (E : Env) (H : AH) (x : Operand) : Option (Value × AH) := obind (fev E x) fun v => bif junk v then none else some (.pointer (some ⟨H.n, 0, none⟩), fnew H ⟨cellsOf v, 0⟩)
noncomputable def fbuildSlice (E : Env) (H : AH) (z : List Value) (len : Nat) (ps : List (Nat × Nat × Operand)) : Option (Value × AH) := obind (ffill E ps z) fun cs => some (.slice (some ⟨H.n, 0, none⟩) len len, fnew H ⟨cs, 0⟩)
noncomputable def fload (E : Env) (H : AH) (agg : Option Nat) (x : Operand) : Option (Value × AH) := obind (fev E x) fun v => vPtr v fun a => obind (fget H.t a.block) fun b => obind (part agg b.cells a.off) fun u => some (u, H)
noncomputable def fstore (E : Env) (H : AH) (sz : Nat) (x y : Operand) : Option (Value × AH) := obind (fev E x) fun u => vPtr u fun a => obind (fev E y) fun v => obind (fget H.t a.block) fun b =>
  bif (b.kind.beq 1 || !(cellsOf v).length.beq sz || !(cellsOf v).all scalar) then none else obind (putCells b.cells a.off (cellsOf v)) fun cs => some (.tuple ⟨[]⟩, fwrite H a.block { b with cells := cs })
noncomputable def frd (H : AH) (n : Nat) (a : Option Addr) : Option (List Value) := match a with
  | none => bif n.beq 0 then some [] else none
  | some a => bif n.beq 0 then some [] else obind (fget H.t a.block) fun b => takeCells b.cells a.off n
theorem frd_eq (H : AH) (n : Nat) (a : Option Addr) : frd H n a = rdSlice H n a := by
  cases a with
  | none => rfl
  | some a =>
    show (bif n.beq 0 then some [] else obind (fget H.t a.block) fun b => takeCells b.cells a.off n) = (bif n.beq 0 then some [] else match H.t.get a.block with | none => none | some b => takeCells b.cells a.off n)
    rw [fget_eq]
    cases n.beq 0 with
    | true => rfl
    | false => cases H.t.get a.block <;> rfl
noncomputable def fapp2 (H : AH) (esz len xlen cap : Nat) (a : Option Addr) (old new : List Value) : Option (Value × AH) := match a with
  | none => bif (len.beq 0 && cap.beq 0) then some (.slice (some ⟨H.n, 0, none⟩) xlen UC, fnew H ⟨new, esz + 2⟩) else none
  | some ad => bif cap.beq UC then obind (fget H.t ad.block) fun b => bif (ad.off.beq 0 && b.kind.beq (esz + 2)) then some (.slice (some ⟨H.n, 0, none⟩) (len + xlen) UC, fnew (fkill H ad.block) ⟨old ++ new, esz + 2⟩) else none
    else bif Nat.blt cap (len + xlen) then some (.slice (some ⟨H.n, 0, none⟩) (len + xlen) UC, fnew H ⟨old ++ new, esz + 2⟩) else none
noncomputable def fappend (E : Env) (H : AH) (esz : Nat) (s x : Operand) : Option (Value × AH) := obind (fev E s) fun u => vSlice u fun a len cap => obind (fev E x) fun w => vSlice w fun xa xlen _ =>
  bif xlen.beq 0 then some (.slice a len cap, H) else obind (frd H (xlen * esz) xa) fun new => obind (frd H (len * esz) a) fun old => bif (Nat.ble (2 ^ 36) (len + xlen) || !new.all scalar) then none else fapp2 H esz len xlen cap a old new
theorem fhop_box (E : Env) (H : AH) (x : Operand) : fbox E H x = hop E H (.box x) := by
  simp only [fbox, hop, fev_eq, fnew_eq]
  cases ev E x <;> rfl
theorem fhop_bs (E : Env) (H : AH) (z : List Value) (len : Nat) (ps : List (Nat × Nat × Operand)) : fbuildSlice E H z len ps = hop E H (.buildSlice z len ps) := by
  simp only [fbuildSlice, hop, ffill_eq, fnew_eq]
  cases fillParts E z ps <;> rfl
theorem fhop_load (E : Env) (H : AH) (agg : Option Nat) (x : Operand) : fload E H agg x = hop E H (.load agg x) := by
  simp only [fload, hop, fev_eq, fget_eq]
  cases ev E x with
  | none => rfl
  | some v => cases v with
    | pointer o => cases o with
      | none => rfl
      | some a =>
        simp only [obind_some, vPtr_some]
        cases H.t.get a.block with
        | none => rfl
        | some b =>
          simp only [obind_some]
          cases part agg b.cells a.off <;> rfl
    | _ => rfl
theorem fhop_store (E : Env) (H : AH) (sz : Nat) (x y : Operand) : fstore E H sz x y = hop E H (.store sz x y) := by
  simp only [fstore, hop, fev_eq, fget_eq, fwrite_eq]
  cases ev E x with
  | none => rfl
  | some v => cases v with
    | pointer o => cases o with
      | none => rfl
      | some a =>
        cases ev E y with
        | none => rfl
        | some u =>
          simp only [obind_some, vPtr_some]
          cases H.t.get a.block with
          | none => rfl
          | some b =>
            simp only [obind_some]
            cases (b.kind.beq 1 || !(cellsOf u).length.beq sz || !(cellsOf u).all scalar) with
            | true => rfl
            | false =>
              simp only [cond_false]
              cases putCells b.cells a.off (cellsOf u) <;> rfl
    | _ => rfl
theorem fhop_append (E : Env) (H : AH) (esz y : Nat) (s x : Operand) : fappend E H esz s x = hop E H (.append esz y s x) := by
  simp only [fappend, hop, fev_eq, frd_eq]
  cases ev E s with
  | none => rfl
  | some v => cases v with
    | slice a len cap =>
      cases ev E x with
      | none => rfl
      | some u => cases u with
        | slice xa xlen xc =>
          simp only [obind_some, vSlice_mk]
          cases xlen.beq 0 with
          | true => rfl
          | false =>
            simp only [cond_false]
            cases rdSlice H (xlen * esz) xa with
            | none => rfl
            | some new =>
              simp only [obind_some]
              cases rdSlice H (len * esz) a with
              | none => rfl
              | some old =>
                simp only [obind_some]
                cases (Nat.ble (2 ^ 36) (len + xlen) || !new.all scalar) with
                | true => rfl
                | false =>
                  simp only [cond_false, fapp2, fnew_eq, fkill_eq, fget_eq]
                  cases a with
                  | none => rfl
                  | some ad =>
                    simp only
                    cases H.t.get ad.block <;> rfl
        | _ => rfl
    | _ => rfl
abbrev SF := Call → Env → AH → Option (Value × AH)
noncomputable def sP (f : PF) : SF := fun _ E H => obind (f E) fun v => some (v, H)
noncomputable def sCall (f : Operand) (args : List Operand) : SF := fun call E H => obind (fev E f) fun v => vFunc v fun k fs cs => obind (fevs E args) fun vs => call k (fs ++ (vs ++ cs)) H
noncomputable def sNew (z : List Value) : SF := fun _ _ H => some (.pointer (some ⟨H.n, 0, none⟩), fnew H ⟨z, 0⟩)
noncomputable def fstep (call : Call) (E : Env) (H : AH) (i : IOp) : Option (Value × AH) := IOp.rec (motive := fun _ => SF)
  (fun x => sP (pMov x)) (fun c a b => sP (pPick c a b)) (fun z ps => sP (pBuild z ps)) (fun tk op x y => sP (pBin tk op x y)) (fun op x => sP (pUn op x)) (fun k x => sP (pConv k x)) (fun a b c => sP (pClo a b c)) (fun a b c d e f => sP (fun E => pop E (.slice a b c d e f))) (fun a b => sP (pFieldAddr a b)) (fun a b c => sP (pField a b c)) (fun a b c d => sP (pIx a b c d)) (fun a b c d e => sP (fun E => pop E (.index a b c d e))) (fun a b => sP (fun E => pop E (.strIndex a b))) (fun a b => sP (pExtract a b)) (fun a b => sP (pLen a b)) (fun a => sP (pLenArr a)) (fun a => sP (fun E => pop E (.max a))) (fun a => sP (fun E => pop E (.min a)))
  sNew (fun x _ E H => fbox E H x) (fun z len ps _ E H => fbuildSlice E H z len ps) (fun agg x _ E H => fload E H agg x) (fun sz x y _ E H => fstore E H sz x y) (fun a b c d e _ E H => hop E H (.make a b c d e)) (fun esz _ s x _ E H => fappend E H esz s x) (fun a b c _ E H => hop E H (.copy a b c)) sCall i call E H
theorem fstep_eq (call : Call) (E : Env) (H : AH) (i : IOp) : fstep call E H i = stepOp call E H i := by
  have pure : ∀ i : IOp, i.touch = false → (obind (fpop E i) fun v => some (v, H)) = (match pop E i with | none => none | some v => some (v, H)) := by
    intro i _
    rw [fpop_eq]
    cases pop E i <;> rfl
  cases i with
  | call f args =>
    show sCall f args call E H = _
    simp only [sCall, stepOp, fev_eq, fevs_eq]
    cases ev E f with
    | none => rfl
    | some v => cases v with
      | func t fs cs =>
        cases t with
        | func k => cases evs E args <;> rfl
        | _ => cases evs E args <;> rfl
      | _ => rfl
  | new z => show some (_, fnew H _) = _; rw [fnew_eq]; rfl
  | box x => exact fhop_box E H x
  | buildSlice z len ps => exact fhop_bs E H z len ps
  | load agg x => exact fhop_load E H agg x
  | store sz x y => exact fhop_store E H sz x y
  | append esz y s x => exact fhop_append E H esz y s x
  | make a b c d e => rfl
  | copy a b c => rfl
  | mov x => exact pure (.mov x) rfl
  | pick c a b => exact pure (.pick c a b) rfl
  | build z ps => exact pure (.build z ps) rfl
  | bin tk op x y => exact pure (.bin tk op x y) rfl
  | un op x => exact pure (.un op x) rfl
  | conv k x => exact pure (.conv k x) rfl
  | clo a b c => exact pure (.clo a b c) rfl
  | slice a b c d e f => exact pure (.slice a b c d e f) rfl
  | fieldAddr a b => exact pure (.fieldAddr a b) rfl
  | field a b c => exact pure (.field a b c) rfl
  | indexAddr a b c d => exact pure (.indexAddr a b c d) rfl
  | index a b c d e => exact pure (.index a b c d e) rfl
  | strIndex a b => exact pure (.strIndex a b) rfl
  | extract a b => exact pure (.extract a b) rfl
  | len a b => exact pure (.len a b) rfl
  | lenArr a => exact pure (.lenArr a) rfl
  | max a => exact pure (.max a) rfl
  | min a => exact pure (.min a) rfl
noncomputable def fput (E : Env) (d : Option Nat) (v : Value) : Env := match d with
  | none => E
  | some d => fset E d v
theorem fput_eq (E : Env) (d : Option Nat) (v : Value) : fput E d v = put E d v := by cases d <;> first | rfl | exact fset_eq _ _ _
def wantB (b : Bool) (v : Value) : Option Bool := match v with
  | .bool c => some (b == c)
  | .tuple ⟨[]⟩ => some false
  | _ => none
noncomputable def fwanted (E : Env) (g : Option (Nat × Bool)) : Option Bool := match g with
  | none => some true
  | some p => obind (fget E p.1) (wantB p.2)
theorem fwanted_eq (E : Env) (g : Option (Nat × Bool)) : fwanted E g = wanted E g := by
  cases g with
  | none => rfl
  | some p =>
    obtain ⟨t, b⟩ := p
    simp only [fwanted, wanted, fget_eq]
    cases T.get E t with
    | none => rfl
    | some v =>
      cases v with
      | tuple a => obtain ⟨l⟩ := a; cases l <;> rfl
      | _ => rfl
abbrev OR := Env → AH → Option (Env × AH × List (Bool × Bool))
def consF (f : Bool × Bool) (r : Env × AH × List (Bool × Bool)) : Option (Env × AH × List (Bool × Bool)) := some (r.1, r.2.1, f :: r.2.2)
noncomputable def fopsT (call : Call) (o : IOper) (ih : OR) (E : Env) (H : AH) : Option (Env × AH × List (Bool × Bool)) :=
  bsel o.op.wrt (obind (fstep call E { H with wl := H.n } o.op) fun r => obind (ih (fput E o.dst r.1) { r.2 with wl := min H.wl r.2.wl }) (consF (true, Nat.blt r.2.wl H.n)))
    (obind (fstep call E H o.op) fun r => obind (ih (fput E o.dst r.1) r.2) (consF (o.op.touch, false)))
noncomputable def fopsF (o : IOper) (ih : OR) (E : Env) (H : AH) : Option (Env × AH × List (Bool × Bool)) := obind (ih (fput E o.dst undefA) H) (consF (false, false))
noncomputable def fops (call : Call) (l : List IOper) : OR := List.rec (motive := fun _ => OR) (fun E H => some (E, H, [])) (fun o _ ih E H => obind (fwanted E o.guard) fun b => bsel b (fopsT call o ih E H) (fopsF o ih E H)) l
theorem fops_eq (call : Call) : ∀ (l : List IOper) (E : Env) (H : AH), fops call l E H = evOps call l E H
  | [], E, H => rfl
  | o :: os, E, H => by
    have ih := fops_eq call os
    show (obind (fwanted E o.guard) fun b => bsel b (fopsT call o (fops call os) E H) (fopsF o (fops call os) E H)) = _
    rw [fwanted_eq]
    simp only [evOps]
    cases wanted E o.guard with
    | none => rfl
    | some b => cases b with
      | true =>
        simp only [obind_some, bsel_eq, cond_true, fopsT, fstep_eq, fput_eq, ih]
        cases o.op.wrt with
        | true =>
          simp only [cond_true]
          cases stepOp call E { H with wl := H.n } o.op with
          | none => rfl
          | some r =>
            obtain ⟨v, H1⟩ := r
            simp only [obind_some]
            cases evOps call os (put E o.dst v) { H1 with wl := min H.wl H1.wl } <;> rfl
        | false =>
          simp only [cond_false]
          cases stepOp call E H o.op with
          | none => rfl
          | some r =>
            obtain ⟨v, H1⟩ := r
            simp only [obind_some]
            cases evOps call os (put E o.dst v) H1 <;> rfl
      | false =>
        simp only [obind_some, bsel_eq, cond_false, fopsF, fput_eq, ih]
        cases evOps call os (put E o.dst undefA) H <;> rfl
abbrev CRun := Env → AH → Option (Ctl × Env × AH)
noncomputable def fregion3 (call : Call) (ops : List IOper) (bits : List Nat) (E : Env) (H : AH) : Option (Ctl × Env × AH) := obind (fops call ops E { H with wl := H.n }) fun r =>
  bif (Nat.ble H.n r.2.1.wl && okDraw bits (mark H.n r.1 ops r.2.2)) then some (.normal, r.1, { r.2.1 with wl := min H.wl r.2.1.wl }) else
  bif okDraw bits (mark2 H.n r.1 r.2.1.wl ops r.2.2 ops r.2.2) then some (.normal, r.1, { r.2.1 with wl := min H.wl r.2.1.wl }) else none
noncomputable def fregion (call : Call) (dr : Bool) (ops : List IOper) (bits : List Nat) (E : Env) (H : AH) : Option (Ctl × Env × AH) := obind (fops call ops E H) fun r =>
  bif (!dr || okDraw bits r.2.2) then some (.normal, r.1, r.2.1) else fregion3 call ops bits E H
theorem fregion_eq (call : Call) (lf : Nat) (dr : Bool) (ops : List IOper) (bits : List Nat) (E : Env) (H : AH) : fregion call dr ops bits E H = evC call lf (.region dr ops bits) E H := by
  simp only [fregion, fregion3, evC, fops_eq]
  cases evOps call ops E H with
  | none => rfl
  | some r =>
    obtain ⟨E1, H1, fl⟩ := r
    simp only [obind_some]
    cases (!dr || okDraw bits fl) with
    | true => rfl
    | false =>
      simp only [cond_false]
      cases evOps call ops E { H with wl := H.n } <;> rfl
def seqR (b : CRun) (r : Ctl × Env × AH) : Option (Ctl × Env × AH) := match r.1 with
  | .normal => b r.2.1 r.2.2
  | .exit k => some (.exit k, r.2)
  | .ret => some (.ret, r.2)
def blockR (id : Nat) (r : Ctl × Env × AH) : Option (Ctl × Env × AH) := match r.1 with
  | .exit k => some (bif k.beq id then .normal else .exit k, r.2)
  | .normal => some (.normal, r.2)
  | .ret => some (.ret, r.2)
noncomputable def floop (f : CRun) (n : Nat) : CRun := Nat.rec (motive := fun _ => CRun) (fun _ _ => none) (fun _ ih E H => obind (f E H) (seqR ih)) n
theorem floop_eq (f : CRun) : ∀ (n : Nat) (E : Env) (H : AH), floop f n E H = loopN f n E H
  | 0, E, H => rfl
  | n + 1, E, H => by
    have ih : floop f n = loopN f n := funext fun E => funext fun H => floop_eq f n E H
    show obind (f E H) (seqR (floop f n)) = _
    rw [ih]
    simp only [loopN]
    cases f E H with
    | none => rfl
    | some r => obtain ⟨c, E1, H1⟩ := r; cases c <;> rfl
noncomputable def fC (call : Call) (lf : Nat) (ic : IC) : CRun := IC.rec (motive := fun _ => CRun)
  (fun E H => some (.normal, E, H))
  (fun dr ops bits E H => fregion call dr ops bits E H)
  (fun _ _ a b E H => obind (a E H) (seqR b))
  (fun c _ _ a b E H => obind (fev E c) fun v => fBool v (a E H) (b E H))
  (fun id _ b E H => obind (b E H) (blockR id))
  (fun _ b => floop b lf)
  (fun id E H => some (.exit id, E, H))
  (fun E H => some (.ret, E, H)) ic
theorem fC_eq (call : Call) (lf : Nat) (ic : IC) : ∀ (E : Env) (H : AH), fC call lf ic E H = evC call lf ic E H := by
  induction ic with
  | skip => intro E H; rfl
  | region dr ops bits => intro E H; exact fregion_eq call lf dr ops bits E H
  | seq a b iha ihb =>
    intro E H
    have hb : fC call lf b = evC call lf b := funext fun E => funext fun H => ihb E H
    show obind (fC call lf a E H) (seqR (fC call lf b)) = _
    rw [iha, hb]
    simp only [evC]
    cases evC call lf a E H with
    | none => rfl
    | some r => obtain ⟨c, E1, H1⟩ := r; cases c <;> rfl
  | cond c a b iha ihb =>
    intro E H
    show (obind (fev E c) fun v => fBool v (fC call lf a E H) (fC call lf b E H)) = _
    rw [iha, ihb, fev_eq]
    simp only [fBool_eq]
    simp only [evC]
    cases ev E c with
    | none => rfl
    | some v => cases v with
      | bool b => cases b <;> rfl
      | _ => rfl
  | block id b ih =>
    intro E H
    show obind (fC call lf b E H) (blockR id) = _
    rw [ih]
    simp only [evC]
    cases evC call lf b E H with
    | none => rfl
    | some r => obtain ⟨c, E1, H1⟩ := r; cases c <;> rfl
  | loop b ih =>
    intro E H
    have hb : fC call lf b = evC call lf b := funext fun E => funext fun H => ih E H
    show floop (fC call lf b) lf E H = _
    rw [hb, floop_eq]
    simp only [evC]
  | exit id => intro E H; rfl
  | ret => intro E H; rfl
noncomputable def ffin (res : List IRes) (r : Ctl × Env × AH) : Option (Value × AH) := match r.1 with
  | .exit _ => none
  | .normal => obind (resOf r.2.1 r.2.2 res) fun vs => some (tupled vs, r.2.2)
  | .ret => obind (resOf r.2.1 r.2.2 res) fun vs => some (tupled vs, r.2.2)
noncomputable def fF (ft : T FI) (ext : Nat → Option (List Value → AH → Option (Value × AH))) (n : Nat) : Call := Nat.rec (motive := fun _ => Call) (fun _ _ _ => none)
  (fun n ih f args H => Option.rec (motive := fun _ => Option (Value × AH)) (obind (fget ft f) fun fi => obind (fC ih n fi.code (envOf args 0) H) (ffin fi.res)) (fun g => g args H) (ext f)) n
theorem fF_eq (ft : T FI) (ext : Nat → Option (List Value → AH → Option (Value × AH))) : ∀ (n : Nat), fF ft ext n = evF ft ext n
  | 0 => rfl
  | n + 1 => by
    funext f args H
    show (Option.rec (motive := fun _ => Option (Value × AH)) (obind (fget ft f) fun fi => obind (fC (fF ft ext n) n fi.code (envOf args 0) H) (ffin fi.res)) (fun g => g args H) (ext f) : Option (Value × AH)) = _
    rw [fF_eq ft ext n, fget_eq]
    simp only [evF]
    cases ext f with
    | some g => rfl
    | none =>
      simp only
      cases ft.get f with
      | none => rfl
      | some fi =>
        simp only [obind_some, fC_eq]
        cases evC (evF ft ext n) n fi.code (envOf args 0) H with
        | none => rfl
        | some r =>
          obtain ⟨c, E1, H1⟩ := r
          cases c <;> simp only [obind_some, ffin] <;> first | rfl | (cases resOf E1 H1 fi.res <;> rfl)
end Go.AL
end

/-! ## Slices of numbers of eight bits: the rules of slices of bools, turned by program (wip/tools/mk31.py). -/
section
set_option linter.unusedSimpArgs false
set_option linter.unusedVariables false
namespace Go.AL
abbrev uv (n : Int) : Value := .int .u8 n
/-- v is a slice of the bools l. -/
def UsB (H : AH) (v : Value) (l : List Int) : Prop :=
  ∃ a cap, v = .slice a l.length cap ∧ (cap = UC ∨ l.length ≤ cap) ∧ (l ≠ [] → ∃ ad bk, a = some ad ∧ ad.block < H.n ∧ H.t.get ad.block = some bk ∧ ∀ i b, l[i]? = some b → bk.cells[ad.off + i]? = some (uv b))
theorem UsB.ext {H H' : AH} {v : Value} {l : List Int} (h : UsB H v l) (he : Ext H H') : UsB H' v l := by
  obtain ⟨a, cap, rfl, hc, h2⟩ := h
  refine ⟨a, cap, rfl, hc, fun hl => ?_⟩
  obtain ⟨ad, bk, h3, h4, h5, h6⟩ := h2 hl
  exact ⟨ad, bk, h3, Nat.lt_of_lt_of_le h4 he.n, by rw [he.get _ h4]; exact h5, h6⟩
theorem UsB.nil (H : AH) : UsB H (.slice none 0 0) [] := ⟨none, 0, rfl, .inr (Nat.le_refl _), fun h => absurd rfl h⟩
theorem UsB.at {H : AH} {v : Value} {l : List Int} {n : Nat} {b : Int} (h : UsB H v l) (hb : l[n]? = some b) : ∃ ad cap bk, v = .slice (some ad) l.length cap ∧ ad.block < H.n ∧ H.t.get ad.block = some bk ∧ bk.cells[ad.off + n]? = some (uv b) := by
  obtain ⟨a, cap, rfl, _, h2⟩ := h
  obtain ⟨ad, bk, rfl, h4, h5, h6⟩ := h2 (fun e => by subst e; simp at hb)
  exact ⟨ad, cap, bk, rfl, h4, h5, h6 n b hb⟩
theorem UsB.shape {H : AH} {v : Value} {l : List Int} (h : UsB H v l) : ∃ a cap, v = .slice a l.length cap := by
  obtain ⟨a, cap, rfl, _⟩ := h
  exact ⟨a, cap, rfl⟩

/-- The heap without its mark. -/
theorem UsB.wl {H : AH} {v : Value} {l : List Int} {x : Nat} (h : UsB H v l) : UsB { H with wl := x } v l := h
/-- v is the slice of all of block id, which holds l and may be written. -/
def UsM (H : AH) (v : Value) (l : List Int) (id : Nat) : Prop := v = .slice (some ⟨id, 0, none⟩) l.length l.length ∧ id < H.n ∧ H.t.get id = some ⟨l.map uv, 0⟩
theorem UsM.isB {H : AH} {v : Value} {l : List Int} {id : Nat} (h : UsM H v l id) : UsB H v l := by
  obtain ⟨rfl, h2, h3⟩ := h
  refine ⟨_, _, rfl, .inr (Nat.le_refl _), fun _ => ⟨_, _, rfl, h2, h3, fun i b hb => ?_⟩⟩
  simp [hb]
/-- v is a fresh slice of the bools l, behind H0: it may be overwritten. -/
def UsR (H0 H : AH) (v : Value) (l : List Int) : Prop :=
  (v = .slice none 0 0 ∧ l = []) ∨ ∃ id off cap bk, v = .slice (some ⟨id, off, none⟩) l.length cap ∧ (cap = UC ∨ l.length ≤ cap) ∧ H0.n ≤ id ∧ id < H.n ∧ H.t.get id = some bk ∧ bk.kind ≠ 1 ∧ off + l.length ≤ bk.cells.length ∧ (∀ i b, l[i]? = some b → bk.cells[off + i]? = some (uv b)) ∧ ∀ c ∈ bk.cells, ∃ b, c = uv b
theorem UsR.isB {H0 H : AH} {v : Value} {l : List Int} (h : UsR H0 H v l) : UsB H v l := by
  rcases h with ⟨rfl, rfl⟩ | ⟨id, off, cap, bk, rfl, hc, h1, h2, h3, h4, h5, h6⟩
  · exact UsB.nil H
  · exact ⟨_, _, rfl, hc, fun _ => ⟨_, bk, rfl, h2, h3, h6.1⟩⟩
theorem UsM.isR {H0 H : AH} {v : Value} {l : List Int} {id : Nat} (h : UsM H v l id) (h0 : H0.n ≤ id) : UsR H0 H v l := by
  obtain ⟨rfl, h2, h3⟩ := h
  refine .inr ⟨id, 0, _, _, rfl, .inr (Nat.le_refl _), h0, h2, h3, by simp, by simp, fun i b hb => by simp [hb], fun c hc => by obtain ⟨b, _, rfl⟩ := List.mem_map.1 hc; exact ⟨b, rfl⟩⟩
theorem UsR.ext {H0 H H' : AH} {v : Value} {l : List Int} (h : UsR H0 H v l) (he : Ext H H') : UsR H0 H' v l := by
  rcases h with h | ⟨id, off, cap, bk, rfl, hc, h1, h2, h3, h4, h5, h6⟩
  · exact .inl h
  · exact .inr ⟨id, off, cap, bk, rfl, hc, h1, Nat.lt_of_lt_of_le h2 he.n, by rw [he.get _ h2]; exact h3, h4, h5, h6⟩
/-- v is nil, or the slice of all of a block that append made: it holds l. -/
def UsG (H0 H : AH) (v : Value) (l : List Int) : Prop :=
  (v = .slice none 0 0 ∧ l = []) ∨ ∃ id, v = .slice (some ⟨id, 0, none⟩) l.length UC ∧ H0.n ≤ id ∧ id < H.n ∧ H.t.get id = some ⟨l.map uv, 3⟩
theorem UsG.isR {H0 H : AH} {v : Value} {l : List Int} (h : UsG H0 H v l) : UsR H0 H v l := by
  rcases h with h | ⟨id, rfl, h0, h2, h3⟩
  · exact .inl h
  · exact .inr ⟨id, 0, UC, _, rfl, .inl rfl, h0, h2, h3, by simp, by simp, fun i b hb => by simp [hb], fun c hc => by obtain ⟨b, _, rfl⟩ := List.mem_map.1 hc; exact ⟨b, rfl⟩⟩
theorem UsG.ext {H0 H H' : AH} {v : Value} {l : List Int} (h : UsG H0 H v l) (he : Ext H H') : UsG H0 H' v l := by
  rcases h with h | ⟨id, rfl, h0, h2, h3⟩
  · exact .inl h
  · exact .inr ⟨id, rfl, h0, Nat.lt_of_lt_of_le h2 he.n, by rw [he.get _ h2]; exact h3⟩
/-- Element i is read. -/
theorem Ow.rdU {C : Ctx} {E : Env} {H : AH} {d1 d2 : Nat} {os : List IOper} {Q : Env → AH → List (Bool × Bool) → Prop} {x y : Operand} {v : Value} {l : List Int} {n : Nat} {b : Int} {k : IntKind}
    (hx : ev E x = some v) (hy : ev E y = some (.int k (n : Int))) (hv : UsB H v l) (hb : l[n]? = some b)
    (h : ∀ p, Ow C os (put (put E (some d1) (.pointer (some p))) (some d2) (uv b)) H fun E' H' fl => Q E' H' ((false, false) :: (true, false) :: fl)) :
    Ow C (⟨some d1, none, .indexAddr 1 none x y⟩ :: ⟨some d2, none, .load none (.tmp d1)⟩ :: os) E H Q := by
  obtain ⟨a, cap, rfl, _, h2⟩ := hv
  have hlt := (List.getElem?_eq_some_iff.1 hb).1
  obtain ⟨ad, bk, rfl, h4, h5, h6⟩ := h2 (fun e => by subst e; simp at hb)
  have hp : AL.pop E (.indexAddr 1 none x y) = some (.pointer (some ⟨ad.block, ad.off + n, none⟩)) := by
    have : (0 : Int) ≤ (n : Int) ∧ (n : Int) < (l.length : Int) := by omega
    simp only [AL.pop, hx, hy, this, and_self, if_true, addOff, Int.toNat_natCast, Nat.mul_one]
  refine Ow.pop rfl rfl hp (Ow.hop rfl rfl rfl ?_ (h _))
  simp only [AL.hop, ev, get_putS, if_true, h5, AL.part, h6 n b hb]

theorem map_repU (n : Nat) : (List.range (n * 1)).map (fun i => ([uv 0] : List Value).getD (i % 1) (.tuple ⟨[]⟩)) = (List.replicate n 0).map uv := by
  rw [Nat.mul_one]
  apply List.ext_getElem?
  intro i
  by_cases h : i < n <;> simp [h, Nat.mod_one]

section
variable {C : Ctx} {E : Env} {H : AH} {d : Option Nat} {g : Option (Nat × Bool)} {os : List IOper} {Q : Env → AH → List (Bool × Bool) → Prop}
/-- make([]bool, n) -/
theorem Ow.makeBU {x : Operand} {k : IntKind} {n : Nat} {y : Nat} (hg : wanted E g = some true) (hx : ev E x = some (.int k (n : Int))) (hn : n ≤ 2 ^ 40)
    (h : Ow C os (put E d (.slice (some ⟨H.n, 0, none⟩) n n)) (H.new ⟨(List.replicate n 0).map uv, 0⟩) fun E' H' fl => Q E' H' ((true, false) :: fl)) :
    Ow C (⟨d, g, .make 1 y [.int .u8 0] x x⟩ :: os) E H Q := by
  refine Ow.hop hg rfl rfl (v := .slice (some ⟨H.n, 0, none⟩) n n) (H1 := H.new ⟨(List.replicate n 0).map uv, 0⟩) ?_ h
  have c : (0 : Int) ≤ (n : Int) ∧ (n : Int) ≤ (n : Int) ∧ (n : Int) ≤ 2 ^ 40 := ⟨by omega, by omega, by exact_mod_cast hn⟩
  simp only [AL.hop, hx, if_pos c, Int.toNat_natCast, map_repU]
theorem rdSlice_BU {v : Value} {l : List Int} (hv : UsB H v l) : ∃ a cap, v = .slice a l.length cap ∧ rdSlice H (l.length * 1) a = some (l.map uv) := by
  obtain ⟨a, cap, rfl, _, h2⟩ := hv
  refine ⟨a, cap, rfl, ?_⟩
  rw [Nat.mul_one]
  cases l with
  | nil => cases a <;> rfl
  | cons b r =>
    obtain ⟨ad, bk, rfl, h4, h5, h6⟩ := h2 (by simp)
    have hz : (b :: r).length.beq 0 = false := rfl
    simp only [rdSlice, hz, cond_false, h5]
    have := takeCells_eq (cs := bk.cells) (off := ad.off) (l := (b :: r).map uv) (fun i hi => by
      rw [List.length_map] at hi
      rw [h6 i _ (List.getElem?_eq_getElem hi)]
      rw [List.getElem?_map, List.getElem?_eq_getElem hi]; rfl)
    rwa [List.length_map] at this
theorem all_boolsU (l : List Int) : (l.map uv).all scalar = true := by
  rw [List.all_eq_true]
  intro c hc
  obtain ⟨b, _, rfl⟩ := List.mem_map.1 hc
  rfl

/-- append to a slice that append made. -/
theorem Ow.appBU {H0 : AH} {x y : Operand} {v u : Value} {l m : List Int} {z : Nat} (hg : wanted E g = some true) (hx : ev E x = some v) (hy : ev E y = some u) (hv : UsG H0 H v l) (hu : UsB H u m) (h0 : Ext H0 H) (hl : l.length + m.length < 2 ^ 36)
    (h : ∀ r H' b, Ext H0 H' → UsG H0 H' r (l ++ m) → Ow C os (put E d r) H' fun E' H'' fl => Q E' H'' ((true, b) :: fl)) :
    Ow C (⟨d, g, .append 1 z x y⟩ :: os) E H Q := by
  obtain ⟨xa, xc, rfl, hrx⟩ := rdSlice_BU hu
  obtain ⟨va, vc, hve, hrv⟩ := rdSlice_BU hv.isR.isB
  have n0 := h0.n
  have w0 := h0.wl
  by_cases hm : m = []
  · subst hm
    refine Ow.wop (v := v) (H1 := { H with wl := H.n }) hg rfl rfl ?_ rfl ?_
    · subst hve
      simp only [AL.hop, hx, hy]
      rfl
    · refine h v _ _ ⟨h0.n, h0.get, ?_⟩ (by rw [List.append_nil]; exact hv)
      show _ ≤ min H.wl H.n
      omega
  · have hz : m.length.beq 0 = false := beq_zero (fun e => hm (List.length_eq_zero_iff.1 e))
    have hle : Nat.ble (2 ^ 36) (l.length + m.length) = false := ble_false hl
    rcases hv with ⟨rfl, rfl⟩ | ⟨id, rfl, hid, hid', hb⟩
    · refine Ow.wop (v := .slice (some ⟨H.n, 0, none⟩) m.length UC) (H1 := ({ H with wl := H.n } : AH).new ⟨m.map uv, 3⟩) hg rfl rfl ?_ rfl ?_
      · simp only [AL.hop, hx, hy, hz, cond_false]
        have e : rdSlice { H with wl := H.n } (m.length * 1) xa = some (m.map uv) := hrx
        have e2 : rdSlice { H with wl := H.n } (0 * 1) none = some [] := rfl
        simp only [e, e2, all_boolsU, Nat.zero_add, Bool.not_true, Bool.or_false]
        have : Nat.ble (2 ^ 36) m.length = false := ble_false (by simp at hl; omega)
        simp only [this, cond_false]
        rfl
      · refine h _ _ _ ⟨?_, ?_, ?_⟩ (.inr ⟨H.n, by simp, n0, ?_, ?_⟩)
        · show H0.n ≤ H.n + 1; omega
        · intro i hi
          show (H.t.set H.n _).get i = _
          rw [T.get_set_ne _ _ (by omega)]; exact h0.get i hi
        · show _ ≤ min H.wl H.n; omega
        · show H.n < H.n + 1; omega
        · show (H.t.set H.n _).get H.n = _
          rw [T.get_set_self]; rfl
    · simp only [Value.slice.injEq] at hve
      obtain ⟨rfl, -, rfl⟩ := hve
      refine Ow.wop (v := .slice (some ⟨H.n, 0, none⟩) (l.length + m.length) UC) (H1 := (({ H with wl := H.n } : AH).kill id).new ⟨l.map uv ++ m.map uv, 3⟩) hg rfl rfl ?_ rfl ?_
      · simp only [AL.hop, hx, hy, hz, cond_false]
        have e : rdSlice { H with wl := H.n } (m.length * 1) xa = some (m.map uv) := hrx
        have e2 : rdSlice { H with wl := H.n } (l.length * 1) (some ⟨id, 0, none⟩) = some (l.map uv) := hrv
        simp only [e, e2, all_boolsU, hle, Bool.not_true, Bool.or_false, cond_false, Nat.beq_refl, cond_true, hb]
        rfl
      · refine h _ _ _ ⟨?_, ?_, ?_⟩ (.inr ⟨H.n, by simp, n0, ?_, ?_⟩)
        · show H0.n ≤ H.n + 1; omega
        · intro i hi
          show ((H.t.del id).set H.n _).get i = _
          rw [T.get_set_ne _ _ (by omega), T.get_del, if_neg (by omega)]; exact h0.get i hi
        · show _ ≤ min H.wl (min H.n id); omega
        · show H.n < H.n + 1; omega
        · show ((H.t.del id).set H.n _).get H.n = _
          rw [T.get_set_self, List.map_append]
/-- append to a slice of all of a block of fixed size: nothing is written. -/
theorem Ow.appXU {H0 : AH} {x y : Operand} {v u : Value} {l m : List Int} {id z : Nat} (hg : wanted E g = some true) (hx : ev E x = some v) (hy : ev E y = some u) (hv : UsM H v l id) (hid : H0.n ≤ id) (hu : UsB H u m) (hl : l.length + m.length < 2 ^ 36)
    (h : ∀ r H' w, Ext H { H' with wl := w } → UsR H0 H' r (l ++ m) → Ow C os (put E d r) { H' with wl := w } fun E' H'' fl => Q E' H'' ((true, false) :: fl)) :
    Ow C (⟨d, g, .append 1 z x y⟩ :: os) E H Q := by
  obtain ⟨xa, xc, rfl, hrx⟩ := rdSlice_BU hu
  obtain ⟨va, vc, hve, hrv⟩ := rdSlice_BU hv.isB
  have hvR := hv.isR hid
  obtain ⟨rfl, hid', hb⟩ := hv
  simp only [Value.slice.injEq] at hve
  obtain ⟨rfl, -, rfl⟩ := hve
  by_cases hm : m = []
  · subst hm
    refine Ow.wop (v := .slice (some ⟨id, 0, none⟩) l.length l.length) (H1 := { H with wl := H.n }) (b := false) hg rfl rfl ?_ (blt_self _) ?_
    · simp only [AL.hop, hx, hy]
      rfl
    · refine h _ H _ ⟨Nat.le_refl _, fun _ _ => rfl, ?_⟩ (by rw [List.append_nil]; exact hvR)
      show _ ≤ min H.wl H.n
      omega
  · have hm0 : m.length ≠ 0 := fun e => hm (List.length_eq_zero_iff.1 e)
    have hz : m.length.beq 0 = false := beq_zero hm0
    have hle : Nat.ble (2 ^ 36) (l.length + m.length) = false := ble_false hl
    refine Ow.wop (v := .slice (some ⟨H.n, 0, none⟩) (l.length + m.length) UC) (H1 := ({ H with wl := H.n } : AH).new ⟨l.map uv ++ m.map uv, 3⟩) (b := false) hg rfl rfl ?_ (blt_self _) ?_
    · simp only [AL.hop, hx, hy, hz, cond_false]
      have e : rdSlice { H with wl := H.n } (m.length * 1) xa = some (m.map uv) := hrx
      have e2 : rdSlice { H with wl := H.n } (l.length * 1) (some ⟨id, 0, none⟩) = some (l.map uv) := hrv
      have e3 : l.length.beq UC = false := by
        cases hq : l.length.beq UC with
        | false => rfl
        | true => have := Nat.eq_of_beq_eq_true hq; unfold UC at this; omega
      have e4 : Nat.blt l.length (l.length + m.length) = true := Nat.ble_eq_true_of_le (by omega)
      simp only [e, e2, all_boolsU, hle, Bool.not_true, Bool.or_false, cond_false, e3, e4, cond_true]
    · have hlen : (l ++ m).length = l.length + m.length := List.length_append
      have hR : UsR H0 (({ H with wl := H.n } : AH).new ⟨l.map uv ++ m.map uv, 3⟩) (.slice (some ⟨H.n, 0, none⟩) (l.length + m.length) UC) (l ++ m) := by
        refine .inr ⟨H.n, 0, UC, ⟨l.map uv ++ m.map uv, 3⟩, by rw [hlen], .inl rfl, ?_, ?_, T.get_set_self _ _ _, by simp, ?_, ?_, ?_⟩
        · omega
        · show H.n < H.n + 1; omega
        · simp
        · intro i b hb
          show (l.map uv ++ m.map uv)[0 + i]? = _
          rw [← List.map_append, Nat.zero_add, List.getElem?_map, hb]; rfl
        · intro c hc
          change c ∈ l.map uv ++ m.map uv at hc
          rw [← List.map_append] at hc
          obtain ⟨b, _, rfl⟩ := List.mem_map.1 hc
          exact ⟨b, rfl⟩
      refine h _ _ _ ⟨Nat.le_succ _, ?_, ?_⟩ hR
      · intro i hi
        show (H.t.set H.n _).get i = _
        rw [T.get_set_ne _ _ (by omega)]
      · show _ ≤ min H.wl H.n; omega

/-- v[n:] -/
theorem cut_loU {a : Option Addr} {c s : Nat} {l : List Int} (hv : UsB H (.slice a l.length c) l) (hs : s ≤ l.length) : ∃ v', aslice 1 a l.length c (some (.int .i64 (s : Int))) none none = some v' ∧ UsB H v' (l.drop s) := by
  obtain ⟨a', c', e, hc, h2⟩ := hv
  simp only [Value.slice.injEq] at e
  obtain ⟨rfl, -, rfl⟩ := e
  have e1 : (0 : Int) ≤ (s : Int) ∧ (s : Int) ≤ (l.length : Int) := by omega
  have hlen : (l.drop s).length = l.length - s := List.length_drop
  have cells : ∀ a'', a'' = a.map (addOff · (s * 1)) → l.drop s ≠ [] → ∃ ad bk, a'' = some ad ∧ ad.block < H.n ∧ H.t.get ad.block = some bk ∧ ∀ i b, (l.drop s)[i]? = some b → bk.cells[ad.off + i]? = some (uv b) := by
    rintro _ rfl hne
    obtain ⟨ad, bk, rfl, h4, h5, h6⟩ := h2 (fun e => hne (by rw [e]; simp))
    refine ⟨addOff ad (s * 1), bk, rfl, h4, h5, fun i b hb => ?_⟩
    rw [List.getElem?_drop] at hb
    have := h6 _ b hb
    simp only [addOff, Nat.mul_one, Nat.add_assoc]
    exact this
  simp only [aslice, optNat, asNat, e1, and_self, if_true, Int.toNat_natCast]
  by_cases hu : c = UC
  · subst hu
    rw [show UC.beq UC = true from Nat.beq_refl _]
    exact ⟨_, rfl, _, UC, by rw [hlen], .inl rfl, cells _ rfl⟩
  · rw [beq_false hu]
    have hcl : l.length ≤ c := hc.resolve_left hu
    by_cases hcs : c = s
    · subst hcs
      rw [Nat.beq_refl]
      refine ⟨_, rfl, a, _, by rw [hlen]; rfl, .inr ?_, fun hne => absurd (List.drop_eq_nil_iff.2 hcl) hne⟩
      rw [hlen]; omega
    · rw [beq_false hcs]
      refine ⟨_, rfl, _, _, by rw [hlen]; rfl, .inr ?_, cells _ rfl⟩
      rw [hlen]; omega
/-- v[:n] -/
theorem cut_hiU {a : Option Addr} {c n : Nat} {l : List Int} (hv : UsB H (.slice a l.length c) l) (hn : n ≤ l.length) : ∃ v', aslice 1 a l.length c none (some (.int .i64 (n : Int))) none = some v' ∧ UsB H v' (l.take n) := by
  obtain ⟨a', c', e, hc, h2⟩ := hv
  simp only [Value.slice.injEq] at e
  obtain ⟨rfl, -, rfl⟩ := e
  have e1 : (0 : Int) ≤ (n : Int) ∧ (n : Int) ≤ (l.length : Int) := by omega
  have hlen : (l.take n).length = n := by rw [List.length_take]; omega
  have cells : ∀ a'', (a'' = a ∨ a'' = a.map (addOff · (0 * 1))) → l.take n ≠ [] → ∃ ad bk, a'' = some ad ∧ ad.block < H.n ∧ H.t.get ad.block = some bk ∧ ∀ i b, (l.take n)[i]? = some b → bk.cells[ad.off + i]? = some (uv b) := by
    intro a'' ha hne
    obtain ⟨ad, bk, rfl, h4, h5, h6⟩ := h2 (fun e => hne (by rw [e]; simp))
    have read : ∀ i b, (l.take n)[i]? = some b → bk.cells[ad.off + i]? = some (uv b) := by
      intro i b hb
      rw [List.getElem?_take] at hb
      split at hb
      · exact h6 i b hb
      · cases hb
    rcases ha with rfl | rfl
    · exact ⟨ad, bk, rfl, h4, h5, read⟩
    · exact ⟨addOff ad (0 * 1), bk, rfl, h4, h5, fun i b hb => by simp only [addOff, Nat.zero_mul, Nat.add_zero]; exact read i b hb⟩
  simp only [aslice, optNat, asNat, e1, and_self, if_true, Int.toNat_natCast, Nat.sub_zero]
  by_cases hu : c = UC
  · subst hu
    rw [show UC.beq UC = true from Nat.beq_refl _]
    exact ⟨_, rfl, _, UC, by rw [hlen], .inl rfl, cells _ (.inr rfl)⟩
  · rw [beq_false hu]
    have hcl : l.length ≤ c := hc.resolve_left hu
    cases c.beq 0 with
    | true => exact ⟨_, rfl, a, c, by rw [hlen]; rfl, .inr (by rw [hlen]; omega), cells _ (.inl rfl)⟩
    | false => exact ⟨_, rfl, _, c, by rw [hlen]; rfl, .inr (by rw [hlen]; omega), cells _ (.inr rfl)⟩
end

section
variable {C : Ctx} {E : Env} {H : AH} {d : Option Nat} {g : Option (Nat × Bool)} {i : IOp} {os : List IOper} {Q : Env → AH → List (Bool × Bool) → Prop}
/-- make([]bool, n) -/
theorem Ow.makeAU {x : Operand} {k : IntKind} {n : Nat} {y : Nat} (hg : wanted E g = some true) (hx : ev E x = some (.int k (n : Int))) (hn : n ≤ 2 ^ 40)
    (h : ∀ H' id, Ext H H' → H.n ≤ id → UsM H' (.slice (some ⟨id, 0, none⟩) n n) (List.replicate n 0) id → Ow C os (put E d (.slice (some ⟨id, 0, none⟩) n n)) H' fun E' H' fl => Q E' H' ((true, false) :: fl)) :
    Ow C (⟨d, g, .make 1 y [.int .u8 0] x x⟩ :: os) E H Q :=
  Ow.makeBU hg hx hn (h _ H.n ((Ext.refl H).new _) (Nat.le_refl _) ⟨by rw [List.length_replicate], Nat.lt_succ_self _, T.get_set_self _ _ _⟩)
/-- []bool{x} -/
theorem Ow.lit1AU {x : Operand} {b : Int} {z : Value} (hg : wanted E g = some true) (hx : ev E x = some (uv b))
    (h : ∀ H' id, Ext H H' → H.n ≤ id → UsM H' (.slice (some ⟨id, 0, none⟩) 1 1) [b] id → Ow C os (put E d (.slice (some ⟨id, 0, none⟩) 1 1)) H' fun E' H' fl => Q E' H' ((true, false) :: fl)) :
    Ow C (⟨d, g, .buildSlice [z] 1 [(0, (1, x))]⟩ :: os) E H Q := by
  refine Ow.hop hg rfl rfl (v := .slice (some ⟨H.n, 0, none⟩) 1 1) (H1 := H.new ⟨[uv b], 0⟩) ?_ (h _ H.n ((Ext.refl H).new _) (Nat.le_refl _) ⟨rfl, Nat.lt_succ_self _, T.get_set_self _ _ _⟩)
  simp only [AL.hop, AL.fillParts, hx]
  rfl
/-- []bool{} -/
theorem Ow.lit0AU (hg : wanted E g = some true)
    (h : ∀ H' id, Ext H H' → H.n ≤ id → UsM H' (.slice (some ⟨id, 0, none⟩) 0 0) [] id → Ow C os (put E d (.slice (some ⟨id, 0, none⟩) 0 0)) H' fun E' H' fl => Q E' H' ((true, false) :: fl)) :
    Ow C (⟨d, g, .buildSlice [] 0 []⟩ :: os) E H Q :=
  Ow.hop hg rfl rfl (v := .slice (some ⟨H.n, 0, none⟩) 0 0) (H1 := H.new ⟨[], 0⟩) rfl (h _ H.n ((Ext.refl H).new _) (Nat.le_refl _) ⟨rfl, Nat.lt_succ_self _, T.get_set_self _ _ _⟩)

theorem UsM.set {H : AH} {v : Value} {l : List Int} {id : Nat} (h : UsM H v l id) : v = .slice (some ⟨id, 0, none⟩) l.length l.length := h.1
theorem UsM.ext {H H' : AH} {v : Value} {l : List Int} {id : Nat} (h : UsM H v l id) (he : Ext H H') : UsM H' v l id := by
  obtain ⟨h1, h2, h3⟩ := h
  exact ⟨h1, Nat.lt_of_lt_of_le h2 he.n, by rw [he.get _ h2]; exact h3⟩
/-- One cell of a fresh slice is written. -/
theorem Ow.storeAU {H0 : AH} {a x : Operand} {id j : Nat} {l : List Int} {v : Value} {bb : Int} (hg : wanted E g = some true) (ha : ev E a = some (.pointer (some ⟨id, j, none⟩))) (hx : ev E x = some (uv bb)) (hm : UsM H v l id) (hj : j < l.length) (h0 : Ext H0 H) (hid : H0.n ≤ id)
    (h : ∀ H' b, Ext H0 H' → H'.n = H.n → (∀ k, k ≠ id → H'.t.get k = H.t.get k) → UsM H' v (l.set j bb) id → Ow C os (put E d (.tuple ⟨[]⟩)) H' fun E' H'' fl => Q E' H'' ((true, b) :: fl)) :
    Ow C (⟨d, g, .store 1 a x⟩ :: os) E H Q := by
  obtain ⟨q1, q2, q3⟩ := hm
  refine Ow.store1 (b := Nat.blt (min H.n id) H.n) (ad := ⟨id, j, none⟩) (v := uv bb) hg ha hx rfl rfl q3 (by simp) (by simpa using hj) rfl ?_
  intro wl hwl
  have n0 := h0.n
  have w0 := h0.wl
  refine h _ _ ⟨n0, ?_, ?_⟩ rfl ?_ ⟨by rw [List.length_set]; exact q1, q2, ?_⟩
  · intro k hk
    show (H.t.set id _).get k = _
    rw [T.get_set_ne _ _ (by omega)]; exact h0.get k hk
  · show _ ≤ wl
    rw [hwl]
    show min H0.wl H0.n ≤ min H.wl (min H.n id)
    omega
  · intro k hk
    show (H.t.set id _).get k = _
    rw [T.get_set_ne _ _ hk]
  · show (H.t.set id _).get id = _
    rw [T.get_set_self, List.map_set]
theorem UsM.keep {H H' : AH} {v : Value} {l : List Int} {id id' : Nat} (h : UsM H v l id) (hn : H'.n = H.n) (hk : ∀ k, k ≠ id' → H'.t.get k = H.t.get k) (hne : id ≠ id') : UsM H' v l id := by
  obtain ⟨h1, h2, h3⟩ := h
  exact ⟨h1, by rw [hn]; exact h2, by rw [hk _ hne]; exact h3⟩
theorem UsR.keep {H0 H H' : AH} {v : Value} {l : List Int} {id' : Nat} (h : UsR H0 H v l) (hn : H'.n = H.n) (hk : ∀ k, k ≠ id' → H'.t.get k = H.t.get k) (hid : id' < H0.n) : UsR H0 H' v l := by
  rcases h with h | ⟨id, off, cap, bk, h, hc, h1, h2, h3, h4⟩
  · exact .inl h
  · exact .inr ⟨id, off, cap, bk, h, hc, h1, by omega, by rw [hk _ (by omega)]; exact h3, h4⟩
theorem UsG.keep {H0 H H' : AH} {v : Value} {l : List Int} {id' : Nat} (h : UsG H0 H v l) (hn : H'.n = H.n) (hk : ∀ k, k ≠ id' → H'.t.get k = H.t.get k) (hid : id' < H0.n) : UsG H0 H' v l := by
  rcases h with h | ⟨id, h, h1, h2, h3⟩
  · exact .inl h
  · exact .inr ⟨id, h, h1, by omega, by rw [hk _ (by omega)]; exact h3⟩
/-- An element is read, where its address was just taken or long ago. -/
theorem Ow.ldAU {x : Operand} {v : Value} {l : List Int} {n : Nat} {b : Int} {ad : Addr} {bk : Blk} (hg : wanted E g = some true) (hx : ev E x = some (.pointer (some ⟨ad.block, ad.off + n, none⟩))) (hb : H.t.get ad.block = some bk) (hc : bk.cells[ad.off + n]? = some (uv b))
    (h : Ow C os (put E d (uv b)) H fun E' H' fl => Q E' H' ((true, false) :: fl)) : Ow C (⟨d, g, .load none x⟩ :: os) E H Q := by
  refine Ow.hop hg rfl rfl ?_ h
  simp only [AL.hop, hx, hb, AL.part, hc]
/-- Element n is read. -/
theorem Ow.rdAU {d1 d2 : Nat} {x y : Operand} {v : Value} {l : List Int} {n : Nat} {b : Int} {k : IntKind} (hg : wanted E g = some true) (hg2 : ∀ p, wanted (put E (some d1) (.pointer (some p))) g = some true)
    (hx : ev E x = some v) (hy : ev E y = some (.int k (n : Int))) (hv : UsB H v l) (hb : l[n]? = some b)
    (h : ∀ p, Ow C os (put (put E (some d1) (.pointer (some p))) (some d2) (uv b)) H fun E' H' fl => Q E' H' ((false, false) :: (true, false) :: fl)) :
    Ow C (⟨some d1, g, .indexAddr 1 none x y⟩ :: ⟨some d2, g, .load none (.tmp d1)⟩ :: os) E H Q := by
  obtain ⟨a, cap, rfl, _, h2⟩ := hv
  have hlt := (List.getElem?_eq_some_iff.1 hb).1
  obtain ⟨ad, bk, rfl, h4, h5, h6⟩ := h2 (fun e => by subst e; simp at hb)
  have hp : AL.pop E (.indexAddr 1 none x y) = some (.pointer (some ⟨ad.block, ad.off + n, none⟩)) := by
    have : (0 : Int) ≤ (n : Int) ∧ (n : Int) < (l.length : Int) := by omega
    simp only [AL.pop, hx, hy, this, and_self, if_true, addOff, Int.toNat_natCast, Nat.mul_one]
  refine Ow.pop hg rfl hp (Ow.hop (hg2 _) rfl rfl ?_ (h _))
  simp only [AL.hop, ev, get_putS, if_true, h5, AL.part, h6 n b hb]
/-- One element of a slice that append made is written. -/
theorem Ow.setGU {H0 : AH} {d1 : Nat} {x y z : Operand} {v : Value} {l : List Int} {n : Nat} {bb : Int} {k : IntKind} (hx : ev E x = some v) (hy : ev E y = some (.int k (n : Int))) (hz : ∀ p, ev (put E (some d1) (.pointer (some p))) z = some (uv bb)) (hv : UsG H0 H v l) (hn : n < l.length) (h0 : Ext H0 H)
    (h : ∀ p H' b, Ext H0 H' → UsG H0 H' v (l.set n bb) → Ow C os (put E (some d1) (.pointer (some p))) H' fun E' H'' fl => Q E' H'' ((false, false) :: (true, b) :: fl)) :
    Ow C (⟨some d1, none, .indexAddr 1 none x y⟩ :: ⟨none, none, .store 1 (.tmp d1) z⟩ :: os) E H Q := by
  rcases hv with ⟨rfl, rfl⟩ | ⟨id, rfl, hid, hid', hb⟩
  · simp at hn
  have hp : AL.pop E (.indexAddr 1 none x y) = some (.pointer (some ⟨id, n, none⟩)) := by
    have : (0 : Int) ≤ (n : Int) ∧ (n : Int) < (l.length : Int) := by omega
    simp only [AL.pop, hx, hy, this, and_self, if_true, addOff, Int.toNat_natCast, Nat.mul_one, Nat.zero_add]
  refine Ow.pop rfl rfl hp ?_
  refine Ow.store1 (b := Nat.blt (min H.n id) H.n) (ad := ⟨id, n, none⟩) (v := uv bb) rfl (by simp only [ev, get_putS, if_true]) (hz _) rfl rfl hb (by simp) (by simpa using hn) rfl ?_
  intro wl hwl
  have n0 := h0.n
  have w0 := h0.wl
  refine h _ _ _ ⟨n0, ?_, ?_⟩ (.inr ⟨id, by rw [List.length_set], hid, hid', ?_⟩)
  · intro k hk
    show (H.t.set id _).get k = _
    rw [T.get_set_ne _ _ (by omega)]; exact h0.get k hk
  · show _ ≤ wl
    rw [hwl]
    show min H0.wl H0.n ≤ min H.wl (min H.n id)
    omega
  · show (H.t.set id _).get id = _
    rw [T.get_set_self, List.map_set]
/-- len(x) -/
theorem Ow.lenAU {x : Operand} {v : Value} {l : List Int} (hg : wanted E g = some true) (hx : ev E x = some v) (hv : UsB H v l)
    (h : Ow C os (put E d (.int .i64 (l.length : Int))) H fun E' H' fl => Q E' H' ((false, false) :: fl)) : Ow C (⟨d, g, .len false x⟩ :: os) E H Q := by
  obtain ⟨a, cap, rfl, _⟩ := hv
  refine Ow.pop hg rfl ?_ h
  simp only [AL.pop, hx, cond_false]
/-- append to a slice of fixed size -/
theorem Ow.appXAU {H0 : AH} {x y : Operand} {v u : Value} {l m : List Int} {id z : Nat} (hg : wanted E g = some true) (hx : ev E x = some v) (hy : ev E y = some u) (hv : UsM H v l id) (hid : H0.n ≤ id) (hu : UsB H u m) (hl : l.length + m.length < 2 ^ 36)
    (h : ∀ r H', Ext H H' → UsR H0 H' r (l ++ m) → Ow C os (put E d r) H' fun E' H'' fl => Q E' H'' ((true, false) :: fl)) :
    Ow C (⟨d, g, .append 1 z x y⟩ :: os) E H Q :=
  Ow.appXU hg hx hy hv hid hu hl fun r H' w hx hr => h r _ hx hr
/-- x[lo:] -/
theorem Ow.cutLoAU {x lo : Operand} {v : Value} {l : List Int} {s : Nat} (hg : wanted E g = some true) (hx : ev E x = some v) (hlo : ev E lo = some (.int .i64 (s : Int))) (hv : UsB H v l) (hs : s ≤ l.length)
    (h : ∀ w, UsB H w (l.drop s) → Ow C os (put E d w) H fun E' H' fl => Q E' H' ((false, false) :: fl)) : Ow C (⟨d, g, .slice 1 none x (some lo) none none⟩ :: os) E H Q := by
  obtain ⟨a, c, rfl⟩ := hv.shape
  obtain ⟨w, hw, hw2⟩ := cut_loU hv hs
  refine Ow.pop hg rfl ?_ (h w hw2)
  simp only [AL.pop, hx, evo, hlo, hw, show Nat.beq 1 0 = false from rfl, cond_false]
/-- x[:hi] -/
theorem Ow.cutHiAU {x hi : Operand} {v : Value} {l : List Int} {n : Nat} (hg : wanted E g = some true) (hx : ev E x = some v) (hhi : ev E hi = some (.int .i64 (n : Int))) (hv : UsB H v l) (hs : n ≤ l.length)
    (h : ∀ w, UsB H w (l.take n) → Ow C os (put E d w) H fun E' H' fl => Q E' H' ((false, false) :: fl)) : Ow C (⟨d, g, .slice 1 none x none (some hi) none⟩ :: os) E H Q := by
  obtain ⟨a, c, rfl⟩ := hv.shape
  obtain ⟨w, hw, hw2⟩ := cut_hiU hv hs
  refine Ow.pop hg rfl ?_ (h w hw2)
  simp only [AL.pop, hx, evo, hhi, hw, show Nat.beq 1 0 = false from rfl, cond_false]
end

theorem UsM.wl {H : AH} {v : Value} {l : List Int} {id x : Nat} (h : UsM H v l id) : UsM { H with wl := x } v l id := h
theorem UsR.wl {H0 H : AH} {v : Value} {l : List Int} {x : Nat} (h : UsR H0 H v l) : UsR H0 { H with wl := x } v l := h
theorem UsG.wl {H0 H : AH} {v : Value} {l : List Int} {x : Nat} (h : UsG H0 H v l) : UsG H0 { H with wl := x } v l := h
end Go.AL
end

/-! ## A whole fresh block of numbers of eight bits, however it was made, never empty. -/
section
set_option linter.unusedSimpArgs false
set_option linter.unusedVariables false
namespace Go.AL
def ux (l : List Int) (i : Nat) : Int := l[i]?.getD 0
theorem ux_lt {l : List Int} {i : Nat} (h : i < l.length) : l[i]? = some (ux l i) := by unfold ux; rw [List.getElem?_eq_getElem h]; rfl
/-- v is all of block id, which holds l; it may be overwritten and appended to. -/
def UsI (H : AH) (v : Value) (l : List Int) (id : Nat) : Prop := ∃ c kd, v = .slice (some ⟨id, 0, none⟩) l.length c ∧ ((c = UC ∧ kd = 3) ∨ (c = l.length ∧ kd = 0)) ∧ id < H.n ∧ H.t.get id = some ⟨l.map uv, kd⟩ ∧ l ≠ []
theorem UsM.isI {H : AH} {v : Value} {l : List Int} {id : Nat} (h : UsM H v l id) (hl : l ≠ []) : UsI H v l id := ⟨_, 0, h.1, .inr ⟨rfl, rfl⟩, h.2.1, h.2.2, hl⟩
theorem UsG.isI {H0 H : AH} {v : Value} {l : List Int} (h : UsG H0 H v l) (hl : l ≠ []) : ∃ id, H0.n ≤ id ∧ UsI H v l id := by
  rcases h with ⟨_, rfl⟩ | ⟨id, rfl, h1, h2, h3⟩
  · exact absurd rfl hl
  · exact ⟨id, h1, _, 3, rfl, .inl ⟨rfl, rfl⟩, h2, h3, hl⟩
theorem UsI.isR {H0 H : AH} {v : Value} {l : List Int} {id : Nat} (h : UsI H v l id) (h0 : H0.n ≤ id) : UsR H0 H v l := by
  obtain ⟨c, kd, rfl, hk, h2, h3, h4⟩ := h
  refine .inr ⟨id, 0, c, _, rfl, ?_, h0, h2, h3, ?_, by simp, fun i b hb => by simp [hb], fun c hc => by obtain ⟨b, _, rfl⟩ := List.mem_map.1 hc; exact ⟨b, rfl⟩⟩
  · rcases hk with ⟨rfl, _⟩ | ⟨rfl, _⟩
    · exact .inl rfl
    · exact .inr (Nat.le_refl _)
  · rcases hk with ⟨_, rfl⟩ | ⟨_, rfl⟩
    · show (3 : Nat) ≠ 1; decide
    · show (0 : Nat) ≠ 1; decide
theorem UsI.isB {H : AH} {v : Value} {l : List Int} {id : Nat} (h : UsI H v l id) : UsB H v l := (h.isR (H0 := ⟨.nil, 0, 0⟩) (Nat.zero_le _)).isB
theorem UsI.ext {H H' : AH} {v : Value} {l : List Int} {id : Nat} (h : UsI H v l id) (he : Ext H H') : UsI H' v l id := by
  obtain ⟨c, kd, h1, hk, h2, h3, h4⟩ := h
  exact ⟨c, kd, h1, hk, Nat.lt_of_lt_of_le h2 he.n, by rw [he.get _ h2]; exact h3, h4⟩
theorem UsI.wl {H : AH} {v : Value} {l : List Int} {id x : Nat} (h : UsI H v l id) : UsI { H with wl := x } v l id := h
/-- H' is H, but for block id. -/
def But (H H' : AH) (id : Nat) : Prop := H.n ≤ H'.n ∧ ∀ k, k < H.n → k ≠ id → H'.t.get k = H.t.get k
theorem But.of_ext {H H' : AH} {id : Nat} (h : Ext H H') : But H H' id := ⟨h.n, fun k hk _ => h.get k hk⟩
theorem But.trans {H H1 H2 : AH} {id : Nat} (h : But H H1 id) (h' : But H1 H2 id) : But H H2 id := ⟨Nat.le_trans h.1 h'.1, fun k hk hne => by rw [h'.2 k (Nat.lt_of_lt_of_le hk h.1) hne, h.2 k hk hne]⟩
theorem But.wl {H H' : AH} {id x : Nat} (h : But H H' id) : But H { H' with wl := x } id := h
theorem UsI.but {H H' : AH} {v : Value} {l : List Int} {id id' : Nat} (h : UsI H v l id) (hb : But H H' id') (hne : id ≠ id') : UsI H' v l id := by
  obtain ⟨c, kd, h1, hk, h2, h3, h4⟩ := h
  exact ⟨c, kd, h1, hk, Nat.lt_of_lt_of_le h2 hb.1, by rw [hb.2 _ h2 hne]; exact h3, h4⟩
theorem UsB.but {H H' : AH} {v : Value} {l : List Int} {id' : Nat} {H1 : AH} (h : UsB H1 v l) (he : Ext H1 H) (hb : But H H' id') (hid : H1.n ≤ id') : UsB H' v l := by
  obtain ⟨a, c, rfl, hc, h2⟩ := h
  refine ⟨a, c, rfl, hc, fun hl => ?_⟩
  obtain ⟨ad, bk, rfl, h4, h5, h6⟩ := h2 hl
  have h4' := Nat.lt_of_lt_of_le h4 he.n
  exact ⟨ad, bk, rfl, Nat.lt_of_lt_of_le h4' hb.1, by rw [hb.2 _ h4' (by omega), he.get _ h4]; exact h5, h6⟩
theorem Bx.but {H H' : AH} {id id' : Nat} {vs : List Value} (h : Bx H id vs) (hb : But H H' id') (hne : id ≠ id') : Bx H' id vs := ⟨Nat.lt_of_lt_of_le h.1 hb.1, by rw [hb.2 _ h.1 hne]; exact h.2⟩
/-- Behind H0, all the same. -/
theorem Ext.but {H0 H H' : AH} {id : Nat} (h0 : Ext H0 H) (hb : But H H' id) (hid : H0.n ≤ id) (hw : min H0.wl H0.n ≤ H'.wl) : Ext H0 H' :=
  ⟨Nat.le_trans h0.n hb.1, fun k hk => by rw [hb.2 k (Nat.lt_of_lt_of_le hk h0.n) (by omega), h0.get k hk], hw⟩
section
variable {C : Ctx} {E : Env} {H : AH} {d : Option Nat} {g : Option (Nat × Bool)} {i : IOp} {os : List IOper} {Q : Env → AH → List (Bool × Bool) → Prop}
/-- One cell is written. -/
theorem Ow.storeI {H0 : AH} {a x : Operand} {id j : Nat} {l : List Int} {v : Value} {bb : Int} (hg : wanted E g = some true) (ha : ev E a = some (.pointer (some ⟨id, j, none⟩))) (hx : ev E x = some (.int .u8 bb)) (hm : UsI H v l id) (hj : j < l.length) (h0 : Ext H0 H) (hid : H0.n ≤ id)
    (h : ∀ H' b, Ext H0 H' → But H H' id → UsI H' v (l.set j bb) id → Ow C os (put E d (.tuple ⟨[]⟩)) H' fun E' H'' fl => Q E' H'' ((true, b) :: fl)) :
    Ow C (⟨d, g, .store 1 a x⟩ :: os) E H Q := by
  obtain ⟨c, kd, q1, hk, q2, q3, q4⟩ := hm
  have hkd : kd ≠ 1 := by rcases hk with ⟨_, rfl⟩ | ⟨_, rfl⟩ <;> decide
  refine Ow.store1 (b := Nat.blt (min H.n id) H.n) (ad := ⟨id, j, none⟩) (v := .int .u8 bb) hg ha hx rfl rfl q3 hkd (by simpa using hj) rfl ?_
  intro wl hwl
  have n0 := h0.n
  have w0 := h0.wl
  have hbut : But H { (H.write id ⟨(l.map uv).set j (.int .u8 bb), kd⟩) with wl := wl } id := ⟨Nat.le_refl _, fun k hk hne => by show (H.t.set id _).get k = _; rw [T.get_set_ne _ _ hne]⟩
  refine h _ _ (h0.but hbut hid ?_) hbut ⟨c, kd, by rw [List.length_set]; exact q1, by rw [List.length_set]; exact hk, q2, ?_, fun e => q4 (by simpa using congrArg List.length e)⟩
  · show _ ≤ wl
    rw [hwl]
    show min H0.wl H0.n ≤ min H.wl (min H.n id)
    omega
  · show (H.t.set id _).get id = _
    rw [T.get_set_self, List.map_set]
/-- append. -/
theorem Ow.appI {H0 : AH} {x y : Operand} {v u : Value} {l m : List Int} {id z : Nat} (hg : wanted E g = some true) (hx : ev E x = some v) (hy : ev E y = some u) (hv : UsI H v l id) (hu : UsB H u m) (hm : m ≠ []) (h0 : Ext H0 H) (hid : H0.n ≤ id) (hl : l.length + m.length < 2 ^ 36)
    (h : ∀ r H' b, Ext H0 H' → But H H' id → UsI H' r (l ++ m) H.n → Ow C os (put E d r) H' fun E' H'' fl => Q E' H'' ((true, b) :: fl)) :
    Ow C (⟨d, g, .append 1 z x y⟩ :: os) E H Q := by
  obtain ⟨xa, xc, rfl, hrx⟩ := rdSlice_BU hu
  obtain ⟨va, vc, hve, hrv⟩ := rdSlice_BU hv.isB
  have n0 := h0.n
  have w0 := h0.wl
  have hz : m.length.beq 0 = false := beq_zero (fun e => hm (List.length_eq_zero_iff.1 e))
  have hm0 : m.length ≠ 0 := fun e => hm (List.length_eq_zero_iff.1 e)
  have hle : Nat.ble (2 ^ 36) (l.length + m.length) = false := ble_false hl
  obtain ⟨c, kd, rfl, hk, q2, q3, q4⟩ := hv
  simp only [Value.slice.injEq] at hve
  obtain ⟨rfl, -, rfl⟩ := hve
  have e : rdSlice { H with wl := H.n } (m.length * 1) xa = some (m.map uv) := hrx
  have e2 : rdSlice { H with wl := H.n } (l.length * 1) (some ⟨id, 0, none⟩) = some (l.map uv) := hrv
  have hne : l ++ m ≠ [] := by simp [q4]
  rcases hk with ⟨rfl, rfl⟩ | ⟨rfl, rfl⟩
  · refine Ow.wop (v := .slice (some ⟨H.n, 0, none⟩) (l.length + m.length) UC) (H1 := (({ H with wl := H.n } : AH).kill id).new ⟨l.map uv ++ m.map uv, 3⟩) hg rfl rfl ?_ rfl ?_
    · simp only [AL.hop, hx, hy, hz, cond_false]
      simp only [e, e2, all_boolsU, hle, Bool.not_true, Bool.or_false, cond_false, Nat.beq_refl, cond_true, q3]
      rfl
    · have hbut : But H { ((({ H with wl := H.n } : AH).kill id).new ⟨l.map uv ++ m.map uv, 3⟩) with wl := min H.wl ((({ H with wl := H.n } : AH).kill id).new ⟨l.map uv ++ m.map uv, 3⟩).wl } id :=
        ⟨Nat.le_succ _, fun k hk hne => by show ((H.t.del id).set H.n _).get k = _; rw [T.get_set_ne _ _ (by omega), T.get_del, if_neg hne]⟩
      refine h _ _ _ (h0.but hbut hid ?_) hbut ⟨UC, 3, by simp, .inl ⟨rfl, rfl⟩, Nat.lt_succ_self _, ?_, hne⟩
      · show _ ≤ min H.wl (min H.n id); omega
      · show ((H.t.del id).set H.n _).get H.n = _
        rw [T.get_set_self, List.map_append]
  · refine Ow.wop (v := .slice (some ⟨H.n, 0, none⟩) (l.length + m.length) UC) (H1 := ({ H with wl := H.n } : AH).new ⟨l.map uv ++ m.map uv, 3⟩) (b := false) hg rfl rfl ?_ (blt_self _) ?_
    · simp only [AL.hop, hx, hy, hz, cond_false]
      have e3 : l.length.beq UC = false := beq_false (by unfold UC; omega)
      have e4 : Nat.blt l.length (l.length + m.length) = true := Nat.ble_eq_true_of_le (by omega)
      simp only [e, e2, all_boolsU, hle, Bool.not_true, Bool.or_false, cond_false, e3, e4, cond_true]
    · have hbut : But H { (({ H with wl := H.n } : AH).new ⟨l.map uv ++ m.map uv, 3⟩) with wl := min H.wl (({ H with wl := H.n } : AH).new ⟨l.map uv ++ m.map uv, 3⟩).wl } id :=
        ⟨Nat.le_succ _, fun k hk hne => by show (H.t.set H.n _).get k = _; rw [T.get_set_ne _ _ (by omega)]⟩
      refine h _ _ _ (h0.but hbut hid ?_) hbut ⟨UC, 3, by simp, .inl ⟨rfl, rfl⟩, Nat.lt_succ_self _, ?_, hne⟩
      · show _ ≤ min H.wl H.n; omega
      · show (H.t.set H.n _).get H.n = _
        rw [T.get_set_self, List.map_append]
/-- A call of a function that changes one block of what was there. -/
theorem Ow.callI {H0 : AH} {f : Operand} {args : List Operand} {k id : Nat} {fs cs vs : List Value} {R : Value → AH → Prop} (hg : wanted E g = some true)
    (hf : ev E f = some (.func (.func k) ⟨fs⟩ ⟨cs⟩)) (ha : evs E args = some vs) (h0 : Ext H0 H) (hid : H0.n ≤ id) (hc : Run C k (fs ++ (vs ++ cs)) { H with wl := H.n } fun v H1 => (min H.n id ≤ H1.wl ∧ But H H1 id) ∧ R v H1)
    (hR : ∀ v H1 x, R v H1 → R v { H1 with wl := x })
    (h : ∀ v H' b, Ext H0 H' → But H H' id → R v H' → Ow C os (put E d v) H' fun E' H'' fl => Q E' H'' ((true, b) :: fl)) : Ow C (⟨d, g, .call f args⟩ :: os) E H Q := by
  refine Ow.call hg hf ha hc fun v H1 h1 => ⟨_, rfl, h v _ _ (h0.but h1.1.2.wl hid ?_) h1.1.2.wl (hR _ _ _ h1.2)⟩
  have w0 := h0.wl
  have n0 := h0.n
  have w1 := h1.1.1
  show min H0.wl H0.n ≤ min H.wl H1.wl
  omega
end
end Go.AL
end

/-! ## Functions of plain arguments with plain answers, told from without. -/
section
set_option linter.unusedSimpArgs false
set_option linter.unusedVariables false
namespace Go.AL
theorem plain_eq1 {β : BM} {v w : Value} (h : VR β v w) (hp : AL.plainS v = true) : w = v := by
  cases h <;> first | rfl | (simp [AL.plainS] at hp)
theorem plain_eqs {β : BM} : ∀ {vs ws : List Value}, VRs β vs ws → vs.all AL.plainS = true → ws = vs
  | [], _, h, _ => by cases h; rfl
  | v :: vs, _, .cons h hs, hp => by
    simp only [List.all_cons, Bool.and_eq_true] at hp
    rw [plain_eq1 h hp.1, plain_eqs hs hp.2]
/-- A call with plain arguments that answers a plain value, and looks at nothing but the package-level variables. -/
def closedA (ft : T FI) (G N f : Nat) : List Value → AH → Option (Value × AH) := fun args H =>
  bif globOk H G && args.all plainS then (match evF ft noExt N f args (globH H G) with
    | some (v, _) => bif plainS v then some (v, H) else none
    | none => none) else none
theorem closedA_sim {P : Program} (hm : P.follows .mixedOrders = true) {ft : T FI} (hft : ∀ f fi, ft.get f = some fi → cfunc P f = some fi) (N f : Nat) : SimG P f (closedA ft P.globals.size N f) := by
  intro args H v H1 h
  unfold closedA at h
  rw [cond_eq_ite] at h
  split at h
  · rename_i hok0
    simp only [Bool.and_eq_true] at hok0
    obtain ⟨hok, hpa⟩ := hok0
    split at h
    · rename_i u Hu he
      rw [cond_eq_ite] at h
      split at h
      · rename_i hpl
        simp only [Option.some.injEq, Prod.mk.injEq] at h
        obtain ⟨rfl, rfl⟩ := h
        have hF : SimF P (evF ft noExt N) := evF_sim hm hft (fun f g hg => by cases hg) N
        obtain ⟨_, hfn, hc⟩ := hF f args _ _ _ he
        refine ⟨AP.refl _, hfn, ?_⟩
        intro β w cargs hargs hr _
        obtain rfl := plain_eqs hargs hpa
        have hsub : ∀ id bk, (globH H P.globals.size).t.get id = some bk → id < P.globals.size ∧ H.t.get id = some bk := by
          intro id bk hb
          simp only [globH, globsOf_get] at hb
          split at hb
          · rename_i hlt; exact ⟨hlt, hb⟩
          · cases hb
        have hr0 : Rel P (fun id => if id < P.globals.size then some ⟨id, 0, 0⟩ else none) (globH H P.globals.size) w := by
          refine ⟨fun id bk hb => (hsub id bk hb).1, Nat.le_refl _, fun g hg => by rw [if_pos hg], ?_, ?_⟩
          · intro id bi bk e1 e2
            obtain ⟨h1, h2⟩ := hsub id bk e2
            rw [if_pos h1] at e1
            cases e1
            obtain ⟨c, el, fz, g1, g2⟩ := hr.blk id ⟨id, 0, 0⟩ bk (hr.glob id h1) h2
            obtain ⟨k1, k2⟩ := globOk_get hok id bk h1 h2
            obtain ⟨rest, cs, p1, p2⟩ := g2.pre
            have hcs : cs = bk.cells := plain_eqs p2 k2
            exact ⟨c, el, fz, g1, ⟨⟨rest, bk.cells, by rw [← hcs]; exact p1, VRs.plain k2⟩, fun h => absurd k1 h, fun s hs => by omega⟩⟩
          · intro i j bi bj ki kj e1 e2 e3 e4 e5 e6
            obtain ⟨h1, h2⟩ := hsub i ki e1
            obtain ⟨h3, h4⟩ := hsub j kj e2
            rw [if_pos h1] at e3
            rw [if_pos h3] at e4
            cases e3; cases e4
            exact e5
        refine (hc _ w cargs (VRs.plain hpa) hr0 (fun id h1 _ => by
          have : P.globals.size ≤ id := h1
          show (if id < P.globals.size then some (⟨id, 0, 0⟩ : BI) else none) = none
          rw [if_neg (by omega)])).mono ?_
        rintro e w' ⟨β', v', rfl, hvr, hp⟩
        have hsame : ∀ k, k < w.heap.size → w'.heap[k]? = w.heap[k]? := fun k hk => hp.frame k hk fun id bi bk h1 h2 _ => by
          obtain ⟨h3, h4⟩ := hsub id bk h1
          exact absurd (globOk_get hok id bk h3 h4).1 h2
        obtain rfl := plain_eq1 hvr hpl
        refine ⟨β, v', rfl, ?_, ⟨BM.le.refl β, fun _ _ => rfl, ⟨hr.lt, hr.glt, hr.glob, fun id bi bk e1 e2 => ?_, hr.inj⟩, hp.size, fun b hb _ => hsame b hb, fun id bi e1 e2 => (by rw [e1] at e2; cases e2), hp.os, hp.tape, hp.output⟩⟩
        · have := VRs.plain (β := β) (vs := [v']) (by simp [hpl])
          cases this; assumption
        · obtain ⟨c, el, fz, g1, g2⟩ := hr.blk id bi bk e1 e2
          exact ⟨c, el, fz, by rw [hsame bi.b (Array.getElem?_eq_some_iff.1 g1).1]; exact g1, g2⟩
      · cases h
    · cases h
  · cases h
/-- More fuel does no harm. -/
theorem backLoop_mono {c c' : Call} (h : CallLe c c') {B : BackIR} {y y' : Value → Value → AH → Option (Bool × AH)} (hy : ∀ v x H r, y v x H = some r → y' v x H = some r) : ∀ {n m : Nat} {E : Env} {H : AH} {r : Bool × AH}, n ≤ m → backLoop c B y n E H = some r → backLoop c' B y' m E H = some r
  | 0, _, _, _, _, _, he => by cases he
  | n + 1, 0, _, _, _, hm, _ => by omega
  | n + 1, m + 1, E, H, r, hm, he => by
    unfold backLoop at he ⊢
    split at he
    · cases he
    · rename_i h1
      rw [evOps_mono h h1]
      simp only
      split at he
      · rename_i h8; try rw [h8]
        exact he
      · rename_i h8
        try rw [h8]
        try simp only
        split at he
        · cases he
        · rename_i h2
          rw [evOps_mono h h2]
          simp only
          split at he
          · rename_i hv hx
            try rw [hv, hx]
            try simp only
            split at he
            · cases he
            · rename_i h3
              rw [hy _ _ _ _ h3]
              simp only
              split at he
              · cases he
              · rename_i h4
                rw [evOps_mono h h4]
                simp only
                split at he
                · rename_i h18; try rw [h18]
                  exact he
                · rename_i h18
                  try rw [h18]
                  simp only [cond_eq_ite] at he ⊢
                  split at he
                  · rename_i hb
                    rw [if_pos hb]
                    split at he
                    · cases he
                    · rename_i h5
                      rw [evOps_mono h h5]
                      exact backLoop_mono h hy (by omega) he
                  · cases he
                · cases he
          · cases he
      · cases he
theorem backRun_mono {c c' : Call} (h : CallLe c c') {B : BackIR} {y y' : Value → Value → AH → Option (Bool × AH)} (hy : ∀ v x H r, y v x H = some r → y' v x H = some r) {n m : Nat} (hm : n ≤ m) {cap : Value} {H : AH} {r : Bool × AH} (he : backRun c B y n cap H = some r) : backRun c' B y' m cap H = some r := by
  unfold backRun at he ⊢
  split at he
  · cases he
  · rename_i h1
    rw [evOps_mono h h1]
    exact backLoop_mono h hy hm he
theorem bodyY_mono {c c' : Call} (h : CallLe c c') {n m p1 p2 : Nat} (hm : n ≤ m) {ia ib : IC} {E : Env} {v x : Value} {H : AH} {r : Bool × AH} (he : bodyY c n p1 p2 ia ib E v x H = some r) : bodyY c' m p1 p2 ia ib E v x H = some r := by
  unfold bodyY at he ⊢
  split at he
  · rename_i h1
    rw [evC_mono h hm h1]
    simp only
    split at he
    · rename_i h2; rw [evC_mono h hm h2]; exact he
    · rename_i h2; rw [evC_mono h hm h2]; exact he
    · cases he
  · cases he
theorem rangeEv_mono {c c' : Call} (h : CallLe c c') {n m t p1 p2 g : Nat} (hm : n ≤ m) {B : BackIR} {ia ib : IC} {E : Env} {H : AH} {r : Bool × AH} (he : rangeEv c n n t p1 p2 g B ia ib E H = some r) : rangeEv c' m m t p1 p2 g B ia ib E H = some r := by
  unfold rangeEv at he ⊢
  split at he
  · rename_i k cap hk
    rw [cond_eq_ite] at he ⊢
    split at he
    · rename_i hb
      rw [if_pos hb]
      exact backRun_mono h (fun v x H r hr => bodyY_mono h hm hr) hm he
    · cases he
  · cases he
theorem catEv_mono {c c' : Call} (h : CallLe c c') {n m g : Nat} (hm : n ≤ m) {B : BackIR} {K : CatIR} {args : List Value} {H : AH} {r : Value × AH} (he : catEv c n n g B K args H = some r) : catEv c' m m g B K args H = some r := by
  unfold catEv at he ⊢
  split at he
  · rename_i h1
    rw [evC_mono h hm h1]
    simp only
    split at he
    · rename_i h2; rw [evC_mono h hm h2]; exact he
    · rename_i h2
      rw [evC_mono h hm h2]
      simp only
      split at he
      · rename_i h3
        rw [evC_mono h hm h3]
        simp only
        split at he
        · rename_i h4
          rw [evC_mono h hm h4]
          simp only
          split at he
          · rename_i h5
            rw [rangeEv_mono h hm h5]
            simp only
            split at he
            · rename_i h6; rw [evC_mono h hm h6]; exact he
            · cases he
          · rename_i h5; rw [rangeEv_mono h hm h5]; exact he
          · cases he
        · cases he
      · cases he
    · cases he
  · cases he
/-- What comes out with fuel enough. -/
noncomputable def anyN (f : Nat → List Value → AH → Option (Value × AH)) : List Value → AH → Option (Value × AH) := fun args H =>
  open Classical in if h : ∃ r, ∃ N, f N args H = some r then some h.choose else none
theorem anyN_sim {P : Program} {k : Nat} {f : Nat → List Value → AH → Option (Value × AH)} (h : ∀ N, SimG P k (f N)) : SimG P k (anyN f) := by
  intro args H v H1 he
  unfold anyN at he
  split at he
  · rename_i hx
    obtain ⟨N, hN⟩ := hx.choose_spec
    rw [Option.some.inj he] at hN
    exact h N args H v H1 hN
  · cases he
theorem anyN_eq {f : Nat → List Value → AH → Option (Value × AH)} (hm : ∀ n m args H r, n ≤ m → f n args H = some r → f m args H = some r) {N : Nat} {args : List Value} {H : AH} {r : Value × AH} (he : f N args H = some r) : anyN f args H = some r := by
  unfold anyN
  have hx : ∃ r, ∃ N, f N args H = some r := ⟨r, N, he⟩
  rw [dif_pos hx]
  obtain ⟨M, hM⟩ := hx.choose_spec
  have a := hm N (max N M) args H _ (Nat.le_max_left _ _) he
  have b := hm M (max N M) args H _ (Nat.le_max_right _ _) hM
  rw [a] at b
  exact b.symm
end Go.AL
end
