/- An interpreter of Go code over a heap of its own, and the proof that the model does what it does (part a). -/
import Derived.WalkKit
import Derived.Laws.StructEq
import Derived.Laws.Tables
import Derived.Laws.CopyRow
import Derived.Laws.MakeOwn
import Derived.Laws.Small
import Derived.Lib.SliceRun
import Derived.WalkSpells
import Derived.ChangeKeysEq
import Derived.Deep.AppendSrc
import Derived.Deep.Upon
section
namespace Go.AL
inductive T (α:Type) where
 | nil
 | node (v:Option α) (l r:T α)
namespace T
variable {α:Type}
def get:T α→Nat→Option α
 | .nil,_=>none
 | .node v l r,n=>bif n.beq 0 then v else bif (n % 2).beq 1 then l.get (n / 2) else r.get (n / 2-1)
def ins (x:Option α):Nat→T α→Nat→T α
 | 0,t,_=>t
 | f+1,.nil,n=>bif n.beq 0 then .node x .nil .nil else bif (n % 2).beq 1 then .node none (ins x f .nil (n / 2)) .nil else .node none .nil (ins x f .nil (n / 2-1))
 | f+1,.node v l r,n=>bif n.beq 0 then .node x l r else bif (n % 2).beq 1 then .node v (ins x f l (n / 2)) r else .node v l (ins x f r (n / 2-1))
def set (t:T α) (n:Nat) (x:α):T α:=ins (some x) (n+1) t n
def del (t:T α) (n:Nat):T α:=ins none (n+1) t n
@[simp] theorem get_nil (n:Nat):(T.nil:T α).get n=none:=rfl
theorem get_ins (x:Option α):∀ (f:Nat) (t:T α) (n m:Nat),n<f→(ins x f t n).get m=if m=n then x else t.get m:=by
 intro f
 induction f with
 | zero=>intro t n m h;omega
 | succ f ih=>
   intro t n m h
   have hb:∀ k:Nat,(k.beq 0)=decide (k=0):=fun k=>by cases k<;>rfl
   have hb1:∀ k:Nat,((k % 2).beq 1)=decide (k % 2=1):=fun k=>by
    rcases Nat.mod_two_eq_zero_or_one k with h | h<;>rw [h]<;>rfl
   cases t with
   | nil=>
     simp only [ins,hb,hb1]
     by_cases hn:n=0
     ·subst hn
      by_cases hm:m=0
      ·subst hm;simp [get]
      ·simp [get,hb,hb1,hm]
     ·by_cases h1:n % 2=1
      ·simp only [hn,h1,decide_true,decide_false,cond_false,cond_true,get,hb,hb1]
       by_cases hm:m=0
       ·subst hm;have:¬ (0=n):=by omega
        simp [this]
       ·by_cases hm1:m % 2=1
        ·simp only [hm,hm1,decide_true,decide_false,cond_false,cond_true]
         rw [ih _ _ _ (by omega)]
         by_cases e:m=n
         ·subst e;simp
         ·have:¬ (m / 2=n / 2):=by omega
          simp [e,this]
        ·simp only [hm,hm1,decide_false,cond_false]
         have:¬ (m=n):=by intro e;subst e;exact hm1 h1
         simp [this]
      ·simp only [hn,h1,decide_false,cond_false,get,hb,hb1]
       by_cases hm:m=0
       ·subst hm;have:¬ (0=n):=by omega
        simp [this]
       ·by_cases hm1:m % 2=1
        ·simp only [hm,hm1,decide_true,decide_false,cond_false,cond_true]
         have:¬ (m=n):=by intro e;subst e;exact h1 hm1
         simp [this]
        ·simp only [hm,hm1,decide_false,cond_false]
         rw [ih _ _ _ (by omega)]
         by_cases e:m=n
         ·subst e;simp
         ·have:¬ (m / 2-1=n / 2-1):=by omega
          simp [e,this]
   | node v l r=>
     simp only [ins,hb,hb1]
     by_cases hn:n=0
     ·subst hn
      by_cases hm:m=0
      ·subst hm;simp [get]
      ·simp [get,hb,hb1,hm]
     ·by_cases h1:n % 2=1
      ·simp only [hn,h1,decide_true,decide_false,cond_false,cond_true,get,hb,hb1]
       by_cases hm:m=0
       ·subst hm;have:¬ (0=n):=by omega
        simp [this]
       ·by_cases hm1:m % 2=1
        ·simp only [hm,hm1,decide_true,decide_false,cond_false,cond_true]
         rw [ih _ _ _ (by omega)]
         by_cases e:m=n
         ·subst e;simp
         ·have:¬ (m / 2=n / 2):=by omega
          simp [e,this]
        ·simp only [hm,hm1,decide_false,cond_false]
         have:¬ (m=n):=by intro e;subst e;exact hm1 h1
         simp [this]
      ·simp only [hn,h1,decide_false,cond_false,get,hb,hb1]
       by_cases hm:m=0
       ·subst hm;have:¬ (0=n):=by omega
        simp [this]
       ·by_cases hm1:m % 2=1
        ·simp only [hm,hm1,decide_true,decide_false,cond_false,cond_true]
         have:¬ (m=n):=by intro e;subst e;exact h1 hm1
         simp [this]
        ·simp only [hm,hm1,decide_false,cond_false]
         rw [ih _ _ _ (by omega)]
         by_cases e:m=n
         ·subst e;simp
         ·have:¬ (m / 2-1=n / 2-1):=by omega
          simp [e,this]
theorem get_set (t:T α) (n m:Nat) (x:α):(t.set n x).get m=if m=n then some x else t.get m:=get_ins _ _ _ _ _ (Nat.lt_succ_self n)
theorem get_del (t:T α) (n m:Nat):(t.del n).get m=if m=n then none else t.get m:=get_ins _ _ _ _ _ (Nat.lt_succ_self n)
@[simp] theorem get_set_self (t:T α) (n:Nat) (x:α):(t.set n x).get n=some x:=by rw [get_set,if_pos rfl]
theorem get_set_ne (t:T α) {n m:Nat} (x:α) (h:m≠n):(t.set n x).get m=t.get m:=by rw [get_set,if_neg h]
end T
def UC:Nat:=2^64
structure Blk where
 cells:List Value
 kind:Nat
structure AH where
 t:T Blk
 n:Nat
 wl:Nat
def AH.new (H:AH) (b:Blk):AH:={ t:=H.t.set H.n b,n:=H.n+1,wl:=H.wl }
def AH.write (H:AH) (id:Nat) (b:Blk):AH:={ t:=H.t.set id b,n:=H.n,wl:=min H.wl id }
def AH.kill (H:AH) (id:Nat):AH:={ t:=H.t.del id,n:=H.n,wl:=min H.wl id }
inductive IOp where
 | mov (x:Operand)
 | pick (c a b:Operand)
 | build (zero:List Value) (parts:List (Nat×Nat×Operand))
 | bin (tk:Nat) (op:BinOp) (x y:Operand)
 | un (op:UnOp) (x:Operand)
 | conv (k:IntKind) (x:Operand)
 | clo (fn:Fn) (first captured:List Operand)
 | slice (esz:Nat) (arr:Option Nat) (x:Operand) (lo hi mx:Option Operand)
 | fieldAddr (off:Nat) (x:Operand)
 | field (agg:Option Nat) (off:Nat) (x:Operand)
 | indexAddr (esz:Nat) (arr:Option Nat) (x i:Operand)
 | index (esz:Nat) (agg:Option Nat) (arr:Nat) (x i:Operand)
 | strIndex (x i:Operand)
 | extract (x:Operand) (i:Nat)
 | len (str:Bool) (x:Operand)
 | lenArr (n:Nat)
 | max (xs:List Operand)
 | min (xs:List Operand)
 | new (zero:List Value)
 | box (x:Operand)
 | buildSlice (zero:List Value) (len:Nat) (parts:List (Nat×Nat×Operand))
 | load (agg:Option Nat) (a:Operand)
 | store (sz:Nat) (a v:Operand)
 | make (esz bytes:Nat) (zero:List Value) (l c:Operand)
 | append (esz bytes:Nat) (s x:Operand)
 | copy (esz:Nat) (d s:Operand)
 | call (f:Operand) (args:List Operand)
structure IOper where
 dst:Option Nat
 guard:Option (Nat×Bool)
 op:IOp
inductive IC where
 | skip
 | region (draw:Bool) (ops:List IOper) (bits:List Nat)
 | seq (a b:IC)
 | cond (c:Operand) (a b:IC)
 | block (id:Nat) (b:IC)
 | loop (b:IC)
 | exit (id:Nat)
 | ret
inductive IRes where
 | tmp (t:Nat)
 | cell (t:Nat) (agg:Option Nat)
structure FI where
 code:IC
 ntmps:Nat
 res:List IRes
inductive Ctl where
 | normal
 | exit (id:Nat)
 | ret
abbrev Env:=T Value
def ev (E:Env):Operand→Option Value
 | .tmp t=>E.get t
 | .const v=>some v
 | .global g=>some (.pointer (some ⟨g,0,none⟩))
 | .func f=>some (.func (.func f) #[] #[])
def evs (E:Env):List Operand→Option (List Value)
 | []=>some []
 | x::xs=>match ev E x with
   | none=>none
   | some v=>match evs E xs with
     | none=>none
     | some vs=>some (v::vs)
def evo (E:Env):Option Operand→Option (Option Value)
 | none=>some none
 | some x=>match ev E x with
   | none=>none
   | some v=>some (some v)
def cellsOf:Value→List Value
 | .agg ⟨cs⟩=>cs
 | v=>[v]
def scalar:Value→Bool
 | .agg _=>false
 | .tuple _=>false
 | .chan _=>false
 | _=>true
def junk:Value→Bool
 | .chan _=>true
 | _=>false
def putCells (cs:List Value) (off:Nat) (vs:List Value):Option (List Value):=
 bif Nat.ble (off+vs.length) cs.length then some (cs.take off++(vs++cs.drop (off+vs.length))) else none
def fillParts (E:Env) (cs:List Value):List (Nat×Nat×Operand)→Option (List Value)
 | []=>some cs
 | (off,sz,x)::ps=>match ev E x with
   | none=>none
   | some v=>bif ((cellsOf v).length.beq sz&&!junk v) then (match putCells cs off (cellsOf v) with
     | none=>none
     | some cs=>fillParts E cs ps) else none
def takeCells (cs:List Value) (off n:Nat):Option (List Value):=
 let r:=(cs.drop off).take n
 bif r.length.beq n then some r else none
def part (agg:Option Nat) (cs:List Value) (off:Nat):Option Value:=
 match agg with
 | none=>cs[off]?
 | some n=>match takeCells cs off n with
   | none=>none
   | some r=>some (.agg ⟨r⟩)
def inKind (k:IntKind):Int→Bool
 | .ofNat m=>Nat.blt m (match k with | .i8=>128 | .i16=>32768 | .i32=>2147483648 | .i64=>9223372036854775808 | .u8=>256 | .u16=>65536 | .u32=>4294967296 | .u64=>18446744073709551616)
 | .negSucc m=>match k with | .i8=>Nat.blt m 128 | .i16=>Nat.blt m 32768 | .i32=>Nat.blt m 2147483648 | .i64=>Nat.blt m 9223372036854775808 | _=>false
def fwrap (k:IntKind) (n:Int):Int:=bif inKind k n then n else k.wrap n
theorem fwrap_eq (k:IntKind) (n:Int):fwrap k n=k.wrap n:=by
 unfold fwrap
 cases h:inKind k n with
 | false=>rfl
 | true=>
   simp only [cond_true]
   have key:(if k.signed then -(2^(k.bits-1):Int) else 0)≤n∧n<(if k.signed then 2^(k.bits-1) else 2^k.bits:Int):=by
    cases n with
    | ofNat m=>
      unfold inKind at h
      have h':=Nat.le_of_ble_eq_true h
      have e:(Int.ofNat m:Int)=(m:Int):=rfl
      rw [e]
      cases k<;>simp [IntKind.signed,IntKind.bits] at h' ⊢<;>omega
    | negSucc m=>
      have e:Int.negSucc m=-((m:Int)+1):=by omega
      rw [e]
      cases k<;>simp only [inKind,reduceCtorEq] at h
      all_goals
       have h':=Nat.le_of_ble_eq_true h
       simp [IntKind.signed,IntKind.bits] at h' ⊢
       omega
   unfold IntKind.wrap
   cases k<;>simp [IntKind.signed,IntKind.bits] at key ⊢<;>omega
def intArith (op:BinOp) (k:IntKind) (a b:Int):Option Value:=
 match op with
 | .add=>some (.int k (fwrap k (a+b)))
 | .sub=>some (.int k (fwrap k (a-b)))
 | .mul=>some (.int k (fwrap k (a*b)))
 | .quo=>if b=0 then none else some (.int k (fwrap k (a.tdiv b)))
 | .rem=>if b=0 then none else some (.int k (a.tmod b))
 | .and=>some (.int k (k.wrap (BitVec.ofInt k.bits a &&& BitVec.ofInt k.bits b).toNat))
 | .or=>some (.int k (k.wrap (BitVec.ofInt k.bits a ||| BitVec.ofInt k.bits b).toNat))
 | .xor=>some (.int k (k.wrap (BitVec.ofInt k.bits a ^^^ BitVec.ofInt k.bits b).toNat))
 | .andNot=>some (.int k (k.wrap (BitVec.ofInt k.bits a &&& ~~~ BitVec.ofInt k.bits b).toNat))
 | .eql=>some (.bool (a == b))
 | .neq=>some (.bool (a != b))
 | .lss=>some (.bool (a<b))
 | .leq=>some (.bool (a≤b))
 | .gtr=>some (.bool (a > b))
 | .geq=>some (.bool (a≥b))
 | _=>none
def aShift (op:BinOp) (k:IntKind) (a b:Int):Option Value:=
 if b<0 then none else
 match op with
 | .shl=>some (.int k (k.wrap (a*2^(Nat.min b.toNat k.bits))))
 | .shr=>some (.int k (a.fdiv (2^(Nat.min b.toNat k.bits))))
 | _=>none
def eqCells:List Value→List Value→Option Bool
 | [],[]=>some true
 | .int k a::xs,.int k' b::ys=>if k=k' then (match eqCells xs ys with
   | none=>none
   | some r=>some (a == b&&r)) else none
 | _,_=>none
def abin (tk:Nat) (op:BinOp) (x y:Value):Option Value:=
 match x,y with
 | .int k a,.int k' b=>(match op with
   | .shl=>aShift .shl k a b
   | .shr=>aShift .shr k a b
   | op=>if k=k' then intArith op k a b else none)
 | .bool a,.bool b=>bif tk.beq 1 then (match op with
   | .eql=>some (.bool (a == b))
   | .neq=>some (.bool (a != b))
   | _=>none) else none
 | .string a,.string b=>(match op with
   | .add=>if a.size+b.size<2^40 then some (.string (a++b)) else none
   | .eql=>some (.bool (a.toList == b.toList))
   | .neq=>some (.bool !(a.toList == b.toList))
   | _=>none)
 | .slice a _ _,.slice none _ _=>bif tk.beq 2 then (match op with
   | .eql=>some (.bool a.isNone)
   | .neq=>some (.bool !a.isNone)
   | _=>none) else none
 | .agg ⟨xs⟩,.agg ⟨ys⟩=>bif (Nat.ble 3 tk&&(xs.length.beq (tk-2)&&ys.length.beq (tk-2))) then (match eqCells xs ys with
   | some r=>(match op with
     | .eql=>some (.bool r)
     | .neq=>some (.bool !r)
     | _=>none)
   | none=>none) else none
 | _,_=>none
def aun (op:UnOp) (x:Value):Option Value:=
 match op,x with
 | .neg,.int k n=>intArith .sub k 0 n
 | .xor,.int k n=>intArith .xor k (if k.signed then -1 else k.max) n
 | .not,.bool b=>some (.bool !b)
 | _,_=>none
def addOff (a:Addr) (n:Nat):Addr:=⟨a.block,a.off+n,none⟩
def asNat (v:Value) (bound:Nat):Option Nat:=
 match v with
 | .int _ i=>if 0≤i∧i≤(bound:Int) then some i.toNat else none
 | _=>none
def optNat (v:Option Value) (dflt bound:Nat):Option Nat:=
 match v with
 | none=>some dflt
 | some v=>asNat v bound
def aslice (esz:Nat) (a:Option Addr) (len cap:Nat) (lo hi mx:Option Value):Option Value:=
 match mx with
 | some mv=>(match asNat mv len with
   | none=>none
   | some m=>bif (cap.beq UC&&len.beq 0||Nat.ble UC m) then none else
     match hi with
     | none=>none
     | some hv=>match asNat hv m with
       | none=>none
       | some h=>match optNat lo 0 h with
         | none=>none
         | some l=>some (.slice (bif m.beq l then a else a.map (addOff · (l*esz))) (h-l) (m-l)))
 | none=>match optNat hi len len with
   | none=>none
   | some h=>match optNat lo 0 h with
     | none=>none
     | some l=>bif cap.beq UC then some (.slice (a.map (addOff · (l*esz))) (h-l) UC)
       else some (.slice (bif cap.beq l then a else a.map (addOff · (l*esz))) (h-l) (cap-l))
def amax2:Value→Value→Option Value
 | .int k x,.int _ y=>some (.int k (if y > x then y else x))
 | _,_=>none
def amin2:Value→Value→Option Value
 | .int k x,.int _ y=>some (.int k (if y<x then y else x))
 | _,_=>none
def foldV (f:Value→Value→Option Value):Value→List Value→Option Value
 | x,[]=>some x
 | x,y::r=>match f x y with
   | none=>none
   | some z=>foldV f z r
def pop (E:Env):IOp→Option Value
 | .mov x=>ev E x
 | .pick c a b=>match ev E c with
   | some (.bool true)=>ev E a
   | some (.bool false)=>ev E b
   | _=>none
 | .build zero ps=>match fillParts E zero ps with
   | none=>none
   | some cs=>some (.agg ⟨cs⟩)
 | .bin tk op x y=>match ev E x,ev E y with
   | some a,some b=>abin tk op a b
   | _,_=>none
 | .un op x=>match ev E x with
   | some a=>aun op a
   | _=>none
 | .conv k x=>match ev E x with
   | some (.int _ n)=>some (.int k (fwrap k n))
   | _=>none
 | .clo fn fs cs=>match evs E fs,evs E cs with
   | some fs,some cs=>some (.func fn ⟨fs⟩ ⟨cs⟩)
   | _,_=>none
 | .slice esz none x lo hi mx=>match ev E x,evo E lo,evo E hi,evo E mx with
   | some (.slice a len cap),some lo,some hi,some mx=>bif esz.beq 0 then none else aslice esz a len cap lo hi mx
   | some (.string s),some lo,some hi,some none=>bif !(esz.beq 0) then none else (match optNat hi s.size s.size with
     | none=>none
     | some h=>match optNat lo 0 h with
       | none=>none
       | some l=>some (.string (s.extract l h)))
   | _,_,_,_=>none
 | .slice esz (some n) x lo hi mx=>match ev E x,evo E lo,evo E hi,evo E mx with
   | some (.pointer (some a)),some lo,some hi,some none=>aslice esz (some a) n n lo hi none
   | _,_,_,_=>none
 | .fieldAddr off x=>match ev E x with
   | some (.pointer (some a))=>some (.pointer (some (addOff a off)))
   | _=>none
 | .field agg off x=>match ev E x with
   | some (.agg ⟨cs⟩)=>part agg cs off
   | _=>none
 | .indexAddr esz none x i=>match ev E x,ev E i with
   | some (.slice (some a) len _),some (.int _ i)=>if 0≤i∧i<(len:Int) then some (.pointer (some (addOff a (i.toNat*esz)))) else none
   | _,_=>none
 | .indexAddr esz (some n) x i=>match ev E x,ev E i with
   | some (.pointer (some a)),some (.int _ i)=>if 0≤i∧i<(n:Int) then some (.pointer (some (addOff a (i.toNat*esz)))) else none
   | _,_=>none
 | .index esz agg n x i=>match ev E x,ev E i with
   | some (.agg ⟨cs⟩),some (.int _ i)=>if 0≤i∧i<(n:Int) then part agg cs (i.toNat*esz) else none
   | _,_=>none
 | .strIndex x i=>match ev E x,ev E i with
   | some (.string s),some (.int _ i)=>if 0≤i then (match s[i.toNat]? with
     | some b=>some (.int .u8 b.toNat)
     | none=>none) else none
   | _,_=>none
 | .extract x i=>match ev E x with
   | some (.tuple ⟨vs⟩)=>vs[i]?
   | _=>none
 | .len str x=>match ev E x with
   | some (.slice _ n _)=>bif str then none else some (.int .i64 n)
   | some (.string s)=>bif str then some (.int .i64 s.size) else none
   | _=>none
 | .lenArr n=>some (.int .i64 n)
 | .max xs=>match evs E xs with
   | some (x::r)=>foldV amax2 x r
   | _=>none
 | .min xs=>match evs E xs with
   | some (x::r)=>foldV amin2 x r
   | _=>none
 | _=>none
def IOp.touch:IOp→Bool
 | .new _ | .box _ | .buildSlice .. | .load .. | .store .. | .make .. | .append .. | .copy .. | .call ..=>true
 | _=>false
def IOp.wrt:IOp→Bool
 | .store .. | .append .. | .copy .. | .call ..=>true
 | _=>false
def rdSlice (H:AH) (n:Nat):Option Addr→Option (List Value)
 | none=>bif n.beq 0 then some [] else none
 | some a=>bif n.beq 0 then some [] else match H.t.get a.block with
   | none=>none
   | some b=>takeCells b.cells a.off n
def hop (E:Env) (H:AH):IOp→Option (Value×AH)
 | .new zero=>some (.pointer (some ⟨H.n,0,none⟩),H.new ⟨zero,0⟩)
 | .box x=>match ev E x with
   | none=>none
   | some v=>bif junk v then none else some (.pointer (some ⟨H.n,0,none⟩),H.new ⟨cellsOf v,0⟩)
 | .buildSlice zero len ps=>match fillParts E zero ps with
   | none=>none
   | some cs=>some (.slice (some ⟨H.n,0,none⟩) len len,H.new ⟨cs,0⟩)
 | .load agg x=>match ev E x with
   | some (.pointer (some a))=>(match H.t.get a.block with
     | none=>none
     | some b=>match part agg b.cells a.off with
       | none=>none
       | some v=>some (v,H))
   | _=>none
 | .store sz x y=>match ev E x,ev E y with
   | some (.pointer (some a)),some v=>(match H.t.get a.block with
     | none=>none
     | some b=>bif (b.kind.beq 1||!(cellsOf v).length.beq sz||!(cellsOf v).all scalar) then none else match putCells b.cells a.off (cellsOf v) with
       | none=>none
       | some cs=>some (.tuple ⟨[]⟩,H.write a.block { b with cells:=cs }))
   | _,_=>none
 | .make esz _ zero l c=>match ev E l,ev E c with
   | some (.int _ l),some (.int _ c)=>if 0≤l∧l≤c∧c≤2^40 then
     some (.slice (some ⟨H.n,0,none⟩) l.toNat c.toNat,H.new ⟨(List.range (c.toNat*esz)).map fun i=>zero.getD (i % esz) (.tuple ⟨[]⟩),0⟩) else none
   | _,_=>none
 | .append esz _ s x=>match ev E s,ev E x with
   | some (.slice a len cap),some (.slice xa xlen _)=>bif xlen.beq 0 then some (.slice a len cap,H) else
     (match rdSlice H (xlen*esz) xa with
     | none=>none
     | some new=>match rdSlice H (len*esz) a with
       | none=>none
       | some old=>bif (Nat.ble (2^36) (len+xlen)||!new.all scalar) then none else
         match a with
         | none=>bif (len.beq 0&&cap.beq 0) then some (.slice (some ⟨H.n,0,none⟩) xlen UC,H.new ⟨new,esz+2⟩) else none
         | some ad=>bif cap.beq UC then (match H.t.get ad.block with
           | none=>none
           | some b=>bif (ad.off.beq 0&&b.kind.beq (esz+2)) then some (.slice (some ⟨H.n,0,none⟩) (len+xlen) UC,(H.kill ad.block).new ⟨old++new,esz+2⟩) else none)
           else bif Nat.blt cap (len+xlen) then some (.slice (some ⟨H.n,0,none⟩) (len+xlen) UC,H.new ⟨old++new,esz+2⟩) else none)
   | _,_=>none
 | .copy esz d s=>match ev E d,ev E s with
   | some (.slice a dlen _),some (.slice sa slen _)=>
     let n:=Nat.min slen dlen
     bif n.beq 0 then some (.int .i64 0,H) else
     (match rdSlice H (n*esz) sa with
     | none=>none
     | some vs=>match a with
       | none=>none
       | some ad=>match H.t.get ad.block with
         | none=>none
         | some b=>bif (b.kind.beq 1||!vs.all scalar) then none else match putCells b.cells ad.off vs with
           | none=>none
           | some cs=>some (.int .i64 n,H.write ad.block { b with cells:=cs }))
   | _,_=>none
 | _=>none
abbrev Call:=Nat→List Value→AH→Option (Value×AH)
def stepOp (call:Call) (E:Env) (H:AH):IOp→Option (Value×AH)
 | .call f args=>match ev E f,evs E args with
   | some (.func (.func k) ⟨fs⟩ ⟨cs⟩),some vs=>call k (fs++(vs++cs)) H
   | _,_=>none
 | op=>bif op.touch then hop E H op else match pop E op with
   | none=>none
   | some v=>some (v,H)
def put (E:Env) (d:Option Nat) (v:Value):Env:=
 match d with
 | none=>E
 | some d=>E.set d v
def wanted (E:Env):Option (Nat×Bool)→Option Bool
 | none=>some true
 | some (t,b)=>match E.get t with
   | some (.bool c)=>some (b == c)
   | some (.tuple ⟨[]⟩)=>some false
   | _=>none
def undefA:Value:=.tuple ⟨[]⟩
def evOps (call:Call):List IOper→Env→AH→Option (Env×AH×List (Bool×Bool))
 | [],E,H=>some (E,H,[])
 | o::os,E,H=>match wanted E o.guard with
   | none=>none
   | some true=>bif o.op.wrt then (match stepOp call E { H with wl:=H.n } o.op with
     | none=>none
     | some (v,H1)=>match evOps call os (put E o.dst v) { H1 with wl:=min H.wl H1.wl } with
       | none=>none
       | some (E2,H2,fl)=>some (E2,H2,(true,Nat.blt H1.wl H.n)::fl))
     else (match stepOp call E H o.op with
     | none=>none
     | some (v,H1)=>match evOps call os (put E o.dst v) H1 with
       | none=>none
       | some (E2,H2,fl)=>some (E2,H2,(o.op.touch,false)::fl))
   | some false=>match evOps call os (put E o.dst undefA) H with
     | none=>none
     | some (E2,H2,fl)=>some (E2,H2,(false,false)::fl)
def pairOk (bits:List Nat) (fl:List (Bool×Bool)) (i j:Nat):Bool:=
 let a:=fl.getD i (false,false);let b:=fl.getD j (false,false)
 !((a.2&&b.1)||(a.1&&b.2))||(bits.getD j 0).testBit i
def okDraw (bits:List Nat) (fl:List (Bool×Bool)):Bool:=
 fl.all (fun x=>!x.2)||(List.range fl.length).all fun j=>(List.range j).all fun i=>pairOk bits fl i j
def oldLoad (n:Nat) (E:Env) (o:IOper) (os:List IOper):Bool:=
 match o.op with
 | .load _ (.tmp t)=>(match E.get t with
   | some (.pointer (some ad))=>Nat.blt ad.block n&&(o::os).all (fun p=>match p.dst with
     | some d=>!(d.beq t)
     | none=>true)
   | _=>false)
 | _=>false
def mark (n:Nat) (E:Env):List IOper→List (Bool×Bool)→List (Bool×Bool)
 | o::os,f::fs=>(bif oldLoad n E o os then (false,f.2) else f)::mark n E os fs
 | _,fs=>fs
def tgtOf (E:Env):IOp→Option (Nat×Nat)
 | .store _ (.tmp t) _=>(match E.get t with
   | some (.pointer (some ad))=>some (t,ad.block)
   | _=>none)
 | .append _ _ (.tmp t) _=>(match E.get t with
   | some (.slice (some ad) _ _)=>some (t,ad.block)
   | _=>none)
 | .copy _ (.tmp t) _=>(match E.get t with
   | some (.slice (some ad) _ _)=>some (t,ad.block)
   | _=>none)
 | _=>none
def unset (t:Nat) (os:List IOper):Bool:=os.all fun p=>match p.dst with
 | some d=>!(d.beq t)
 | none=>true
def missed (b:Nat) (E:Env) (wl:Nat):List IOper→List (Bool×Bool)→Bool
 | o::os,f::fs=>(!f.2||(Nat.blt b wl||(match tgtOf E o.op with
   | some (t,b')=>!(b'.beq b)&&unset t (o::os)
   | none=>false)))&&missed b E wl os fs
 | _,_=>true
def loadBlk (E:Env):IOp→Option Nat
 | .load _ (.tmp t)=>(match E.get t with
   | some (.pointer (some ad))=>some ad.block
   | _=>none)
 | _=>none
def mark2 (n:Nat) (E:Env) (wl:Nat) (all:List IOper) (fa:List (Bool×Bool)):List IOper→List (Bool×Bool)→List (Bool×Bool)
 | o::os,f::fs=>(bif (oldLoad n E o os&&(match loadBlk E o.op with
   | some b=>missed b E wl all fa
   | none=>false)) then (false,f.2) else f)::mark2 n E wl all fa os fs
 | _,fs=>fs
def loopN (f:Env→AH→Option (Ctl×Env×AH)):Nat→Env→AH→Option (Ctl×Env×AH)
 | 0,_,_=>none
 | n+1,E,H=>match f E H with
   | some (.normal,E,H)=>loopN f n E H
   | r=>r
def evC (call:Call) (lf:Nat):IC→Env→AH→Option (Ctl×Env×AH)
 | .skip,E,H=>some (.normal,E,H)
 | .region dr ops bits,E,H=>match evOps call ops E H with
   | none=>none
   | some (E1,H1,fl)=>bif (!dr||okDraw bits fl) then some (.normal,E1,H1) else
     match evOps call ops E { H with wl:=H.n } with
     | none=>none
     | some (E2,H2,fl2)=>bif (Nat.ble H.n H2.wl&&okDraw bits (mark H.n E2 ops fl2)) then some (.normal,E2,{ H2 with wl:=min H.wl H2.wl }) else
       bif okDraw bits (mark2 H.n E2 H2.wl ops fl2 ops fl2) then some (.normal,E2,{ H2 with wl:=min H.wl H2.wl }) else none
 | .seq a b,E,H=>match evC call lf a E H with
   | some (.normal,E,H)=>evC call lf b E H
   | r=>r
 | .cond c a b,E,H=>match ev E c with
   | some (.bool true)=>evC call lf a E H
   | some (.bool false)=>evC call lf b E H
   | _=>none
 | .block id b,E,H=>match evC call lf b E H with
   | some (.exit k,E,H)=>some (bif k.beq id then .normal else .exit k,E,H)
   | r=>r
 | .loop b,E,H=>loopN (evC call lf b) lf E H
 | .exit id,E,H=>some (.exit id,E,H)
 | .ret,E,H=>some (.ret,E,H)
def envOf:List Value→Nat→Env
 | [],_=>.nil
 | v::vs,k=>(envOf vs (k+1)).set k v
def resOf (E:Env) (H:AH):List IRes→Option (List Value)
 | []=>some []
 | .tmp t::rs=>(match E.get t with
   | none=>none
   | some v=>match resOf E H rs with
     | none=>none
     | some vs=>some (v::vs))
 | .cell t agg::rs=>(match E.get t with
   | some (.pointer (some a))=>(match H.t.get a.block with
     | none=>none
     | some b=>match part agg b.cells a.off with
       | none=>none
       | some v=>match resOf E H rs with
         | none=>none
         | some vs=>some (v::vs))
   | _=>none)
def tupled:List Value→Value
 | [v]=>v
 | vs=>.tuple ⟨vs⟩
def evF (ft:T FI) (ext:Nat→Option (List Value→AH→Option (Value×AH))):Nat→Call
 | 0,_,_,_=>none
 | n+1,f,args,H=>match ext f with
   | some g=>g args H
   | none=>match ft.get f with
     | none=>none
     | some fi=>match evC (evF ft ext n) n fi.code (envOf args 0) H with
       | some (.normal,E,H) | some (.ret,E,H)=>(match resOf E H fi.res with
         | none=>none
         | some vs=>some (tupled vs,H))
       | _=>none
end Go.AL
end
section
set_option linter.unusedVariables false
namespace Go.AL
def plainS:Value→Bool
 | .bool _ | .int _ _ | .string _ | .pointer none | .slice none 0 0 | .nilFunc=>true
 | _=>false
def plainV:Value→Bool
 | .agg ⟨cs⟩=>cs.all plainS
 | .tuple ⟨cs⟩=>cs.all plainS
 | v=>plainS v
def opOk (P:Program):Operand→Bool
 | .tmp _=>true
 | .const v=>plainV v
 | .global g=>decide (g<P.globals.size)
 | .func _=>true
def IOp.opnds:IOp→List Operand
 | .mov x=>[x]
 | .pick c a b=>[c,a,b]
 | .build _ ps=>ps.map fun p=>p.2.2
 | .bin _ _ x y=>[x,y]
 | .un _ x=>[x]
 | .conv _ x=>[x]
 | .clo _ fs cs=>fs++cs
 | .slice _ _ x lo hi mx=>x::(lo.toList++(hi.toList++mx.toList))
 | .fieldAddr _ x=>[x]
 | .field _ _ x=>[x]
 | .indexAddr _ _ x i=>[x,i]
 | .index _ _ _ x i=>[x,i]
 | .strIndex x i=>[x,i]
 | .extract x _=>[x]
 | .len _ x=>[x]
 | .lenArr _=>[]
 | .max xs=>xs
 | .min xs=>xs
 | .new _=>[]
 | .box x=>[x]
 | .buildSlice _ _ ps=>ps.map fun p=>p.2.2
 | .load _ a=>[a]
 | .store _ a v=>[a,v]
 | .make _ _ _ l c=>[l,c]
 | .append _ _ s x=>[s,x]
 | .copy _ d s=>[d,s]
 | .call f args=>f::args
def flatF (P:Program):List Field→Nat→Bool
 | [],_=>true
 | f :: fs, i => f.name != "_" && f.offset.beq i && (match P.underlying f.type with
   | some (.int _)=>true
   | _=>false)&&flatF P fs (i+1)
def flatS (P:Program) (t:TypeId):Bool:=!P.stoodInHeld t&&!P.eqGuardType P.depth t&&flatF P (P.fieldsOf t).toList 0
def arrI (P:Program) (t e:TypeId):Bool:=!P.eqGuardType P.depth t&&((match P.underlying e with
 | some (.int _)=>true
 | _=>false)&&(match P.info? e with
 | some i=>i.size.beq 1
 | none=>false))
def aggOf (P:Program) (t:TypeId):Option (Option Nat):=
 match P.underlying t,P.info? t with
 | some (.struct _),some i=>some (some i.size)
 | some (.array _ _),some i=>some (some i.size)
 | some _,some _=>some none
 | _,_=>none
def tsz (P:Program) (t:TypeId):Option Nat:=
 match P.info? t with
 | some i=>some i.size
 | none=>none
def zeroOf (P:Program) (t:TypeId):Option (List Value):=
 match P.info? t with
 | some i=>(match i.zero with
   | some z=>if (cellsOf z).all plainS then some (cellsOf z) else none
   | none=>none)
 | none=>none
def structParts (P:Program) (fs:Array Field):List (Nat×Operand)→Option (List (Nat×Nat×Operand))
 | []=>some []
 | (i,x)::ps=>match fs[i]? with
   | none=>none
   | some f=>match tsz P f.type with
     | none=>none
     | some s=>match structParts P fs ps with
       | none=>none
       | some r=>some ((f.offset,s,x)::r)
def arrParts (s:Nat) (ps:List (Nat×Operand)):List (Nat×Nat×Operand):=ps.map fun p=>(p.1*s,s,p.2)
def knownFields (P:Program) (fs:List Field):Bool:=fs.all fun f=>(P.info? f.type).isSome
def cop0 (P:Program) (o:Op):Option IOp:=
 match o with
 | .move x=>some (.mov x)
 | .assign x=>some (.mov x)
 | .pick c a b=>some (.pick c a b)
 | .alloc e=>match zeroOf P e with
   | some z=>some (.new z)
   | none=>none
 | .box _ x=>some (.box x)
 | .build t ps=>(match P.underlying t,zeroOf P t with
   | some (.struct fs),some z=>if knownFields P fs.toList then (match structParts P fs ps.toList with
     | some qs=>some (.build z qs)
     | none=>none) else none
   | some (.array _ e),some z=>(match tsz P e with
     | some s=>some (.build z (arrParts s ps.toList))
     | none=>none)
   | _,_=>none)
 | .buildSlice t n ps=>(match P.underlying t with
   | some (.slice e)=>(match tsz P e,zeroOf P e with
     | some s,some z=>if n*s≤4096∧z.length=s∧0<s then some (.buildSlice ((List.range (n*s)).map fun i=>z.getD (i % s) (.tuple ⟨[]⟩)) n (arrParts s ps.toList)) else none
     | _,_=>none)
   | _=>none)
 | .load t a=>(match aggOf P t with
   | some g=>some (.load g a)
   | none=>none)
 | .store t a v=>(match tsz P t with
   | some s=>some (.store s a v)
   | none=>none)
 | .binOp op t x y _=>(match P.underlying t with
   | some .bool=>some (.bin 1 op x y)
   | some (.struct fs)=>(match flatS P t&&Nat.ble 1 fs.toList.length with
     | true=>some (.bin (fs.toList.length+2) op x y)
     | false=>none)
   | some (.slice _)=>some (.bin 2 op x y)
   | some (.array n e)=>(match arrI P t e&&Nat.ble 1 n with
     | true=>some (.bin (n+2) op x y)
     | false=>none)
   | _=>some (.bin 0 op x y))
 | .unOp op _ x=>some (.un op x)
 | .convert s d x=>(match P.underlying s,P.underlying d with
   | some _,some (.int k)=>some (.conv k x)
   | _,_=>none)
 | .makeFunc fn f c=>some (.clo fn f.toList c.toList)
 | .makeSlice t l c=>(match P.underlying t with
   | some (.slice e)=>(match P.info? e,zeroOf P e with
     | some i,some z=>if i.bytes≤128∧z.length=i.size∧0<i.size then some (.make i.size i.bytes z l c) else none
     | _,_=>none)
   | _=>none)
 | .slice t x lo hi mx=>(match P.underlying t with
   | some (.slice e)=>(match tsz P e with
     | some (s+1)=>some (.slice (s+1) none x lo hi mx)
     | _=>none)
   | some (.array n e)=>(match tsz P e,mx with
     | some (s+1),none=>if n<2^40 then some (.slice (s+1) (some n) x lo hi none) else none
     | _,_=>none)
   | some .string=>(match mx with
     | none=>some (.slice 0 none x lo hi none)
     | some _=>none)
   | _=>none)
 | .fieldAddr s x f=>(match P.underlying s with
   | some (.struct fs)=>(match fs[f]? with
     | some fd=>(match tsz P fd.type with
       | some (_+1)=>some (.fieldAddr fd.offset x)
       | _=>none)
     | none=>none)
   | _=>none)
 | .field s x f=>(match P.underlying s with
   | some (.struct fs)=>(match fs[f]? with
     | some fd=>(match aggOf P fd.type with
       | some g=>some (.field g fd.offset x)
       | none=>none)
     | none=>none)
   | _=>none)
 | .indexAddr t x i=>(match P.underlying t with
   | some (.slice e)=>(match tsz P e with
     | some s=>some (.indexAddr s none x i)
     | none=>none)
   | some (.array n e)=>(match tsz P e with
     | some s=>some (.indexAddr s (some n) x i)
     | none=>none)
   | _=>none)
 | .index t x i=>(match P.underlying t with
   | some (.array n e)=>(match tsz P e,aggOf P e with
     | some s,some g=>some (.index s g n x i)
     | _,_=>none)
   | some .string=>some (.strIndex x i)
   | _=>none)
 | .extract x i=>some (.extract x i)
 | .call c=>(match c.callee with
   | .value f=>some (.call f c.args.toList)
   | .builtin .len=>(match c.argTypes.toList,c.args.toList with
     | [t],[x]=>(match P.underlying t with
       | some (.slice _)=>some (.len false x)
       | some .string=>some (.len true x)
       | some (.array m _)=>some (.lenArr m)
       | _=>none)
     | _,_=>none)
   | .builtin .append=>(match c.argTypes.toList,c.args.toList with
     | [t,u],[x,y]=>(match P.underlying t,P.underlying u with
       | some (.slice e),some (.slice _)=>(match P.info? e,zeroOf P e with
         | some i,some z=>if i.bytes≤128∧z.length=i.size∧0<i.size then some (.append i.size i.bytes x y) else none
         | _,_=>none)
       | _,_=>none)
     | _,_=>none)
   | .builtin .copy=>(match c.argTypes.toList,c.args.toList with
     | [t,_],[x,y]=>(match P.underlying t with
       | some (.slice e)=>(match tsz P e with
         | some 1=>some (.copy 1 x y)
         | _=>none)
       | _=>none)
     | _,_=>none)
   | .builtin .max=>some (.max c.args.toList)
   | .builtin .min=>some (.min c.args.toList)
   | _=>none)
 | .makeInterface _ _=>some (.extract (.const (.bool false)) 0)
 | .panic _=>some (.extract (.const (.bool false)) 0)
 | _=>none
def cop (P:Program) (o:Op):Option IOp:=
 match cop0 P o with
 | none=>none
 | some i=>if i.opnds.all (opOk P) then some i else none
def cguard (ops:Array Oper):Option (Nat×Bool)→Option (Option (Nat×Bool))
 | none=>some none
 | some (j,b)=>match ops[j]? with
   | none=>none
   | some o=>match o.dst with
     | none=>none
     | some t=>some (some (t,b))
def dstOk (nt:Nat):Option Nat→Bool
 | none=>true
 | some d=>Nat.blt d nt
def coper (P:Program) (nt:Nat) (ops:Array Oper) (o:Oper):Option IOper:=
 match cop P o.op,cguard ops o.guard with
 | some i,some g=>if dstOk nt o.dst=true then some ⟨o.dst,g,i⟩ else none
 | _,_=>none
def copers (P:Program) (nt:Nat) (ops:Array Oper):List Oper→Option (List IOper)
 | []=>some []
 | o::os=>match coper P nt ops o with
   | none=>none
   | some i=>match copers P nt ops os with
     | none=>none
     | some r=>some (i::r)
def IOper.reads (o:IOper):List Nat:=
 (o.op.opnds.filterMap fun | .tmp t=>some t | _=>none)++(match o.guard with | none=>[] | some (t,_)=>[t])
def mkW:List IOper→Nat→T Nat→Option (T Nat)
 | [],_,W=>some W
 | o::os,k,W=>match o.dst with
   | none=>mkW os (k+1) W
   | some t=>match W.get t with
     | some _=>none
     | none=>mkW os (k+1) (W.set t k)
def rdOk (W:T Nat) (bits:List Nat) (b j t:Nat):Bool:=
 match W.get t with
 | none=>true
 | some i=>i.beq j||b.testBit i||(bits.getD i 0).testBit j
def rdsOk (W:T Nat) (bits:List Nat):List IOper→List Nat→Nat→Bool
 | [],_,_=>true
 | o::os,b::bs,j=>o.reads.all (rdOk W bits b j)&&rdsOk W bits os bs (j+1)
 | _::_,[],_=>false
def apartOk (bits:List Nat) (is:List IOper):Bool:=
 match mkW is 0 .nil with
 | none=>false
 | some W=>rdsOk W bits is bits 0
def edgesOk (ops:Array Oper):Bool:=
 (List.range ops.size).all fun i=>match ops[i]? with
  | some o=>o.after.all fun e=>!(Region.binds .any e)||decide (e.on<i)
  | none=>true
def upB (bits:List Nat):List Edge→Nat
 | []=>0
 | e::r=>if Region.binds .any e then 2^e.on ||| bits.getD e.on 0 ||| upB bits r else upB bits r
def bitsOk (ops:Array Oper) (bits:List Nat):Bool:=
 (List.range ops.size).all fun d=>match ops[d]? with
  | some o=>(bits.getD d 0).beq (upB bits o.after.toList)
  | none=>true
def ccode (P:Program) (nt:Nat):Code→Option IC
 | .skip=>some .skip
 | .region _ ops draw=>match copers P nt ops ops.toList with
   | none=>none
   | some is=>if draw then (if edgesOk ops&&bitsOk ops (Region.before ops).toList&&apartOk (Region.before ops).toList is then some (.region true is (Region.before ops).toList) else none) else some (.region false is [])
 | .seq a b=>match ccode P nt a with
   | none=>none
   | some x=>match ccode P nt b with
     | none=>none
     | some y=>some (.seq x y)
 | .cond c a b=>if opOk P c then (match ccode P nt a with
   | none=>none
   | some x=>match ccode P nt b with
     | none=>none
     | some y=>some (.cond c x y)) else none
 | .block id b=>match ccode P nt b with
   | none=>none
   | some x=>some (.block id x)
 | .loop b=>match ccode P nt b with
   | none=>none
   | some x=>some (.loop x)
 | .exit id=>some (.exit id)
 | .ret=>some .ret
 | _=>none
def cres (P:Program):List ResultVar→Option (List IRes)
 | []=>some []
 | .tmp t::r=>(match cres P r with
   | none=>none
   | some s=>some (.tmp t::s))
 | .cell a t::r=>(match aggOf P t,cres P r with
   | some g,some s=>some (.cell a g::s)
   | _,_=>none)
def cfunc (P:Program) (f:Nat):Option FI:=
 match P.funcs[f]? with
 | none=>none
 | some fn=>match fn.body with
   | none=>none
   | some b=>match ccode P fn.ntmps b,cres P fn.results.toList with
     | some c, some r => if fn.name == "runtime.NumGoroutine" then none else some ⟨c, fn.ntmps, r⟩
     | _,_=>none
end Go.AL
end
section
namespace Go.AL
structure BI where
 b:Nat
 tot:Nat
 esz:Nat
abbrev BM:=Nat→Option BI
mutual
inductive VR (β:BM):Value→Value→Prop where
 | bool (b:Bool):VR β (.bool b) (.bool b)
 | int (k:IntKind) (n:Int):VR β (.int k n) (.int k n)
 | string (s:ByteArray):VR β (.string s) (.string s)
 | pnil:VR β (.pointer none) (.pointer none)
 | ptr {id:Nat} {bi:BI} (o:Nat) (h:β id=some bi):VR β (.pointer (some ⟨id,o,none⟩)) (.pointer (some ⟨bi.b,o,none⟩))
 | snil:VR β (.slice none 0 0) (.slice none 0 0)
 | sl {id:Nat} {bi:BI} (o len cap:Nat) (h:β id=some bi) (hl:len≤cap) (hc:cap<UC):VR β (.slice (some ⟨id,o,none⟩) len cap) (.slice (some ⟨bi.b,o,none⟩) len cap)
 | slu {id:Nat} {bi:BI} (o len c:Nat) (h:β id=some bi) (hl:len≤c) (ht:o=0→bi.tot=c*bi.esz):VR β (.slice (some ⟨id,o,none⟩) len UC) (.slice (some ⟨bi.b,o,none⟩) len c)
 | sle {id:Nat} {bi:BI} (o o' c:Nat) (h:β id=some bi) (ho:o≠0):VR β (.slice (some ⟨id,o,none⟩) 0 UC) (.slice (some ⟨bi.b,o',none⟩) 0 c)
 | sl0 (id o cap:Nat) (a':Addr) (hc:cap<UC):VR β (.slice (some ⟨id,o,none⟩) 0 cap) (.slice (some a') 0 cap)
 | junk (v:Value):VR β (.chan none) v
 | nilFunc:VR β .nilFunc .nilFunc
 | func (fn:Fn) {fs fs' cs cs':List Value} (hf:VRs β fs fs') (hc:VRs β cs cs'):VR β (.func fn ⟨fs⟩ ⟨cs⟩) (.func fn ⟨fs'⟩ ⟨cs'⟩)
 | agg {cs cs':List Value} (h:VRs β cs cs'):VR β (.agg ⟨cs⟩) (.agg ⟨cs'⟩)
 | tuple {cs cs':List Value} (h:VRs β cs cs'):VR β (.tuple ⟨cs⟩) (.tuple ⟨cs'⟩)
inductive VRs (β:BM):List Value→List Value→Prop where
 | nil:VRs β [] []
 | cons {v w:Value} {vs ws:List Value} (h:VR β v w) (hs:VRs β vs ws):VRs β (v::vs) (w::ws)
end
def BM.le (β β':BM):Prop:=∀ id bi,β id=some bi→β' id=some bi
theorem BM.le.refl (β:BM):β.le β:=fun _ _ h=>h
theorem BM.le.trans {β β' β'':BM} (h:β.le β') (h':β'.le β''):β.le β'':=fun id bi e=>h' _ _ (h id bi e)
mutual
theorem VR.mono {β β':BM} (hb:β.le β') {v w:Value}:VR β v w→VR β' v w
 | .bool b=>.bool b
 | .int k n=>.int k n
 | .string s=>.string s
 | .pnil=>.pnil
 | .ptr o h=>.ptr o (hb _ _ h)
 | .snil=>.snil
 | .sl o len cap h hl hc=>.sl o len cap (hb _ _ h) hl hc
 | .slu o len c h hl ht=>.slu o len c (hb _ _ h) hl ht
 | .sle o o' c h ho=>.sle o o' c (hb _ _ h) ho
 | .sl0 id o cap a' hc=>.sl0 id o cap a' hc
 | .junk v=>.junk v
 | .nilFunc=>.nilFunc
 | .func fn hf hc=>.func fn (VRs.mono hb hf) (VRs.mono hb hc)
 | .agg h=>.agg (VRs.mono hb h)
 | .tuple h=>.tuple (VRs.mono hb h)
theorem VRs.mono {β β':BM} (hb:β.le β') {v w:List Value}:VRs β v w→VRs β' v w
 | .nil=>.nil
 | .cons h hs=>.cons (VR.mono hb h) (VRs.mono hb hs)
end
section
variable {β:BM}
theorem VRs.length {vs ws:List Value} (h:VRs β vs ws):vs.length=ws.length:=by
 induction vs generalizing ws with
 | nil=>cases h;rfl
 | cons v vs ih=>cases h with | cons h hs=>simp [ih hs]
theorem VRs.get {vs ws:List Value} (h:VRs β vs ws) {i:Nat} {v:Value} (hv:vs[i]?=some v):∃ w,ws[i]?=some w∧VR β v w:=by
 induction vs generalizing ws i with
 | nil=>simp at hv
 | cons x vs ih=>
   cases h with
   | cons h hs=>
     cases i with
     | zero=>simp at hv;subst hv;exact ⟨_,rfl,h⟩
     | succ i=>exact ih hs (by simpa using hv)
theorem VRs.of_get {vs ws:List Value} (hl:vs.length=ws.length) (h:∀ (i:Nat) (v w:Value),vs[i]?=some v→ws[i]?=some w→VR β v w):VRs β vs ws:=by
 induction vs generalizing ws with
 | nil=>cases ws with
   | nil=>exact .nil
   | cons=>simp at hl
 | cons v vs ih=>cases ws with
   | nil=>simp at hl
   | cons w ws=>exact .cons (h 0 v w rfl rfl) (ih (by simpa using hl) (fun i v w h1 h2=>h (i+1) v w (by simpa using h1) (by simpa using h2)))
theorem VRs.append {a b c d:List Value} (h:VRs β a b) (h':VRs β c d):VRs β (a++c) (b++d):=by
 induction a generalizing b with
 | nil=>cases h;exact h'
 | cons v a ih=>cases h with | cons h hs=>exact .cons h (ih hs)
theorem VRs.take {a b:List Value} (h:VRs β a b) (n:Nat):VRs β (a.take n) (b.take n):=by
 induction a generalizing b n with
 | nil=>cases h;simp;exact .nil
 | cons v a ih=>cases h with
   | cons h hs=>cases n with
     | zero=>simp;exact .nil
     | succ n=>simp;exact .cons h (ih hs n)
theorem VRs.drop {a b:List Value} (h:VRs β a b) (n:Nat):VRs β (a.drop n) (b.drop n):=by
 induction a generalizing b n with
 | nil=>cases h;simp;exact .nil
 | cons v a ih=>cases h with
   | cons h hs=>cases n with
     | zero=>exact .cons h hs
     | succ n=>simp;exact ih hs n
theorem VRs.one {v w:Value} (h:VR β v w):VRs β [v] [w]:=.cons h .nil
theorem VR.cellsOf {v w:Value} (h:VR β v w) (hj:AL.junk v=false):VRs β (cellsOf v) w.cells.toList:=by
 cases h
 case junk=>cases hj
 case agg h=>exact h
 all_goals first | exact VRs.one (by constructor<;>assumption) | exact VRs.one (by constructor)
theorem VR.plainS {v:Value} (h:plainS v=true):VR β v v:=by
 unfold AL.plainS at h
 split at h
 all_goals first | constructor | (simp at h)
theorem VRs.plain {vs:List Value} (h:vs.all AL.plainS=true):VRs β vs vs:=by
 induction vs with
 | nil=>exact .nil
 | cons v vs ih=>
   simp only [List.all_cons,Bool.and_eq_true] at h
   exact .cons (VR.plainS h.1) (ih h.2)
theorem VR.plainV {v:Value} (h:plainV v=true):VR β v v:=by
 unfold AL.plainV at h
 split at h
 ·exact .agg (VRs.plain h)
 ·exact .tuple (VRs.plain h)
 ·exact VR.plainS h
theorem VR.oneCell {v w:Value} (h:VR β v w) (hs:scalar v=true):w.oneCell'=true:=by
 cases h<;>first | rfl | simp [scalar] at hs
theorem VRs.oneCell {vs ws:List Value} (h:VRs β vs ws) (hs:vs.all scalar=true):∀ w∈ws,w.oneCell'=true:=by
 induction vs generalizing ws with
 | nil=>cases h;simp
 | cons v vs ih=>
   cases h with
   | cons h1 h2=>
     simp only [List.all_cons,Bool.and_eq_true] at hs
     intro w hw
     rcases List.mem_cons.1 hw with rfl | hw
     ·exact h1.oneCell hs.1
     ·exact ih h2 hs.2 w hw
end
structure BR (β:BM) (bk:Blk) (bi:BI) (c:Array Value) (fz:Nat×Nat):Prop where
 pre:∃ rest,∃ cs,c.toList=cs++rest∧VRs β bk.cells cs
 rw:bk.kind≠1→fz=(0,0)
 grow:∀ s,bk.kind=s+2→bi.tot=c.size∧bi.esz=s
structure Rel (P:Program) (β:BM) (H:AH) (w:World):Prop where
 lt:∀ id bk,H.t.get id=some bk→id<H.n
 glt:P.globals.size≤H.n
 glob:∀ g,g<P.globals.size→β g=some ⟨g,0,0⟩
 blk:∀ id bi bk,β id=some bi→H.t.get id=some bk→∃ c el fz,w.heap[bi.b]?=some (.cells c el fz)∧BR β bk bi c fz
 inj:∀ i j bi bj ki kj,H.t.get i=some ki→H.t.get j=some kj→β i=some bi→β j=some bj→bi.b=bj.b→(ki.kind≠1∨kj.kind≠1)→i=j
structure AP (H H':AH):Prop where
 mono:H.n≤H'.n
 wl:H'.wl≤H.wl
 keep:∀ id,id<H.n→id<H'.wl→H'.t.get id=H.t.get id
 live:∀ id bk,id<H.n→H'.t.get id=some bk→∃ b0,H.t.get id=some b0∧b0.kind=bk.kind
 lt:(∀ id bk,H.t.get id=some bk→id<H.n)→∀ id bk,H'.t.get id=some bk→id<H'.n
theorem AP.refl (H:AH):AP H H:=⟨Nat.le_refl _,Nat.le_refl _,fun _ _ _=>rfl,fun _ bk _ h=>⟨bk,h,rfl⟩,fun h=>h⟩
theorem AP.trans {H H1 H2:AH} (h:AP H H1) (h':AP H1 H2):AP H H2 where
 mono:=Nat.le_trans h.mono h'.mono
 wl:=Nat.le_trans h'.wl h.wl
 keep id h1 h2:=by rw [h'.keep id (Nat.lt_of_lt_of_le h1 h.mono) h2,h.keep id h1 (Nat.lt_of_lt_of_le h2 h'.wl)]
 live id bk h1 h2:=by
  obtain ⟨b1,e1,k1⟩:=h'.live id bk (Nat.lt_of_lt_of_le h1 h.mono) h2
  obtain ⟨b0,e0,k0⟩:=h.live id b1 h1 e1
  exact ⟨b0,e0,k0.trans k1⟩
 lt hh:=h'.lt (h.lt hh)
theorem AP.new (H:AH) (b:Blk):AP H (H.new b) where
 mono:=Nat.le_succ _
 wl:=Nat.le_refl _
 keep id h1 _:=by simp only [AH.new];rw [T.get_set_ne _ _ (Nat.ne_of_lt h1)]
 live id bk h1 h2:=by
  simp only [AH.new] at h2
  rw [T.get_set_ne _ _ (Nat.ne_of_lt h1)] at h2
  exact ⟨bk,h2,rfl⟩
 lt hh id bk h2:=by
  simp only [AH.new] at h2 ⊢
  rw [T.get_set] at h2
  split at h2
  ·omega
  ·have:=hh id bk h2;omega
theorem AP.write {H:AH} {id:Nat} {b b':Blk} (hb:H.t.get id=some b) (hk:b.kind=b'.kind):AP H (H.write id b') where
 mono:=Nat.le_refl _
 wl:=Nat.min_le_left _ _
 keep j h1 h2:=by
  simp only [AH.write] at h2 ⊢
  rw [T.get_set_ne _ _ (by have:=Nat.lt_of_lt_of_le h2 (Nat.min_le_right _ _);omega)]
 live j bk h1 h2:=by
  simp only [AH.write] at h2
  rw [T.get_set] at h2
  split at h2
  ·rename_i e;subst e;cases h2;exact ⟨b,hb,hk⟩
  ·exact ⟨bk,h2,rfl⟩
 lt hh j bk h2:=by
  simp only [AH.write] at h2 ⊢
  rw [T.get_set] at h2
  split at h2
  ·rename_i e;subst e;exact hh _ _ hb
  ·exact hh j bk h2
theorem AP.kill (H:AH) (id:Nat):AP H (H.kill id) where
 mono:=Nat.le_refl _
 wl:=Nat.min_le_left _ _
 keep j h1 h2:=by
  simp only [AH.kill] at h2 ⊢
  rw [T.get_del,if_neg (by have:=Nat.lt_of_lt_of_le h2 (Nat.min_le_right _ _);omega)]
 live j bk h1 h2:=by
  simp only [AH.kill] at h2
  rw [T.get_del] at h2
  split at h2
  ·cases h2
  ·exact ⟨bk,h2,rfl⟩
 lt hh j bk h2:=by
  simp only [AH.kill] at h2 ⊢
  rw [T.get_del] at h2
  split at h2
  ·cases h2
  ·exact hh j bk h2
structure Post (P:Program) (β:BM) (H:AH) (w:World) (β':BM) (H':AH) (w':World):Prop where
 ext:β.le β'
 old:∀ id,id<H.n∨H'.n≤id→β' id=β id
 rel:Rel P β' H' w'
 size:w.heap.size≤w'.heap.size
 frame:∀ b,b<w.heap.size→(∀ id bi bk,H.t.get id=some bk→bk.kind≠1→β id=some bi→bi.b≠b)→w'.heap[b]?=w.heap[b]?
 fresh:∀ id bi,β id=none→β' id=some bi→w.heap.size≤bi.b∨∃ id0 bi0 bk,H.t.get id0=some bk∧bk.kind≠1∧β id0=some bi0∧bi0.b=bi.b
 os:w'.os=w.os
 tape:w'.tape=w.tape
 output:w'.output=w.output
theorem Post.refl {P:Program} {β:BM} {H:AH} {w:World} (h:Rel P β H w):Post P β H w β H w:=
 ⟨BM.le.refl β,fun _ _=>rfl,h,Nat.le_refl _,fun _ _ _=>rfl,fun id bi h1 h2=>(by rw [h1] at h2;cases h2),rfl,rfl,rfl⟩
theorem Rel.wl {P:Program} {β:BM} {H:AH} {w:World} (h:Rel P β H w) (x:Nat):Rel P β { H with wl:=x } w:=⟨h.lt,h.glt,h.glob,h.blk,h.inj⟩
theorem Rel.of_wl {P:Program} {β:BM} {H:AH} {w:World} {x:Nat} (h:Rel P β { H with wl:=x } w):Rel P β H w:=⟨h.lt,h.glt,h.glob,h.blk,h.inj⟩
theorem Post.wl {P:Program} {β:BM} {H:AH} {w:World} {β':BM} {H':AH} {w':World} {x y:Nat} (h:Post P β { H with wl:=x } w β' H' w'):Post P β H w β' { H' with wl:=y } w':=
 ⟨h.ext,h.old,h.rel.wl y,h.size,h.frame,h.fresh,h.os,h.tape,h.output⟩
theorem Post.trans {P:Program} {β β1 β2:BM} {H H1 H2:AH} {w w1 w2:World} (a1:AP H H1) (a2:AP H1 H2) (hn:∀ id,H.n≤id→id<H2.n→β id=none) (h:Post P β H w β1 H1 w1) (h':Post P β1 H1 w1 β2 H2 w2):Post P β H w β2 H2 w2 where
 ext:=h.ext.trans h'.ext
 old id hid:=by
  have m1:=a1.mono
  have m2:=a2.mono
  rw [h'.old id (by omega),h.old id (by omega)]
 rel:=h'.rel
 size:=Nat.le_trans h.size h'.size
 frame b hb hf:=by
  rw [h'.frame b (Nat.lt_of_lt_of_le hb h.size) ?_,h.frame b hb hf]
  intro id bi bk e1 e2 e3
  cases hβ:β id with
  | some bi'=>
    have:=h.ext id bi' hβ
    rw [e3] at this
    cases this
    have hlt1:=h.rel.lt id bk e1
    have hlt:id<H.n:=by
     rcases Nat.lt_or_ge id H.n with h1 | h1
     ·exact h1
     ·have:=hn id h1 (Nat.lt_of_lt_of_le hlt1 a2.mono)
      rw [hβ] at this
      cases this
    obtain ⟨b0,e0,k0⟩:=a1.live id bk hlt e1
    exact hf id bi b0 e0 (by rw [k0];exact e2) hβ
  | none=>
    intro he
    rcases h.fresh id bi hβ e3 with h1 | ⟨id0,bi0,b0,f1,f2,f3,f4⟩
    ·omega
    ·exact hf id0 bi0 b0 f1 f2 f3 (by omega)
 fresh id bi e1 e2:=by
  cases hβ:β1 id with
  | some bi'=>
    have:=h'.ext id bi' hβ
    rw [e2] at this
    cases this
    exact h.fresh id bi e1 hβ
  | none=>
    rcases h'.fresh id bi hβ e2 with h1 | ⟨id0,bi0,b0,f1,f2,f3,f4⟩
    ·left;have:=h.size;omega
    ·cases hβ0:β id0 with
     | some bi'=>
       have:=h.ext id0 bi' hβ0
       rw [f3] at this
       cases this
       have hlt1:=h.rel.lt id0 b0 f1
       have hlt:id0<H.n:=by
        rcases Nat.lt_or_ge id0 H.n with h1 | h1
        ·exact h1
        ·have:=hn id0 h1 (Nat.lt_of_lt_of_le hlt1 a2.mono)
         rw [hβ0] at this
         cases this
       obtain ⟨b1,e0,k0⟩:=a1.live id0 b0 hlt f1
       right;exact ⟨id0,bi0,b1,e0,by rw [k0];exact f2,hβ0,f4⟩
     | none=>
       rcases h.fresh id0 bi0 hβ0 f3 with h1 | ⟨id1,bi1,b1,g1,g2,g3,g4⟩
       ·left;omega
       ·right;exact ⟨id1,bi1,b1,g1,g2,g3,by omega⟩
 os:=h'.os.trans h.os
 tape:=h'.tape.trans h.tape
 output:=h'.output.trans h.output
theorem Post.new {P:Program} {β:BM} {H:AH} {w w1:World} {bk:Blk} {c:Array Value} {el:TypeId} {bi:BI} (h:Rel P β H w) (hn:β H.n=none)
  (hw:w1.heap=w.heap.push (.cells c el (0,0))) (h1:w1.os=w.os) (h2:w1.tape=w.tape) (h3:w1.output=w.output) (hb:bi.b=w.heap.size)
  (hr:BR β bk bi c (0,0)):Post P β H w (fun i=>if i=H.n then some bi else β i) (H.new bk) w1 where
 ext id b e:=by
  show (if id=H.n then some bi else β id)=some b
  rw [if_neg (by intro e';subst e';rw [hn] at e;cases e)];exact e
 old id hid:=by
  show (if id=H.n then some bi else β id)=β id
  rw [if_neg (by have:(H.new bk).n=H.n+1:=rfl;omega)]
 size:=by rw [hw];simp
 os:=h1
 tape:=h2
 output:=h3
 frame b hb _:=by rw [hw,Array.getElem?_push_lt hb,Array.getElem?_eq_getElem hb]
 fresh id b e e2:=by
  left
  have e2:(if id=H.n then some bi else β id)=some b:=e2
  split at e2
  ·cases e2;omega
  ·rw [e] at e2;cases e2
 rel:=by
  have hle:β.le (fun i=>if i=H.n then some bi else β i):=fun id b e=>by
   show (if id=H.n then some bi else β id)=some b
   rw [if_neg (by intro e';subst e';rw [hn] at e;cases e)];exact e
  refine ⟨(AP.new H bk).lt h.lt,Nat.le_trans h.glt (Nat.le_succ _),fun g hg=>hle _ _ (h.glob g hg),?_,?_⟩
  ·intro id b k e e2
   have e:(if id=H.n then some bi else β id)=some b:=e
   simp only [AH.new] at e2
   rw [T.get_set] at e2
   by_cases hid:id=H.n
   ·rw [if_pos hid] at e e2
    cases e;cases e2
    refine ⟨c,el,(0,0),by rw [hw,hb];simp,?_⟩
    obtain ⟨rest,cs,p1,p2⟩:=hr.pre
    exact ⟨⟨rest,cs,p1,p2.mono hle⟩,hr.rw,hr.grow⟩
   ·rw [if_neg hid] at e e2
    obtain ⟨c',el',fz,g1,g2⟩:=h.blk id b k e e2
    refine ⟨c',el',fz,?_,?_⟩
    ·have hlt:=(Array.getElem?_eq_some_iff.1 g1).1
     rw [hw,Array.getElem?_push_lt hlt,←Array.getElem?_eq_getElem hlt]
     exact g1
    ·obtain ⟨rest,cs,p1,p2⟩:=g2.pre
     exact ⟨⟨rest,cs,p1,p2.mono hle⟩,g2.rw,g2.grow⟩
  ·intro i j bi' bj ki kj e1 e2 e3 e4 e5 e6
   have e3:(if i=H.n then some bi else β i)=some bi':=e3
   have e4:(if j=H.n then some bi else β j)=some bj:=e4
   simp only [AH.new] at e1 e2
   rw [T.get_set] at e1 e2
   have bound:∀ id b k,β id=some b→H.t.get id=some k→b.b<w.heap.size:=fun id b k f1 f2=>by
    obtain ⟨_,_,_,g1,_⟩:=h.blk id b k f1 f2
    exact (Array.getElem?_eq_some_iff.1 g1).1
   by_cases hi:i=H.n<;>by_cases hj:j=H.n
   ·omega
   ·rw [if_pos hi] at e3 e1;rw [if_neg hj] at e4 e2
    cases e3
    have:=bound _ _ _ e4 e2
    omega
   ·rw [if_neg hi] at e3 e1;rw [if_pos hj] at e4 e2
    cases e4
    have:=bound _ _ _ e3 e1
    omega
   ·rw [if_neg hi] at e3 e1;rw [if_neg hj] at e4 e2
    exact h.inj i j bi' bj ki kj e1 e2 e3 e4 e5 e6
theorem Post.drew {P:Program} {β:BM} {H:AH} {w w1:World} (h:Rel P β H w) (hw:w1.heap=w.heap) (h1:w1.os=w.os) (h2:w1.tape=w.tape) (h3:w1.output=w.output):Post P β H w β H w1:=
 ⟨BM.le.refl β,fun _ _=>rfl,⟨h.lt,h.glt,h.glob,fun id bi bk e1 e2=>by rw [hw];exact h.blk id bi bk e1 e2,h.inj⟩,by rw [hw];exact Nat.le_refl _,fun b _ _=>by rw [hw],
  fun id bi e1 e2=>(by rw [e1] at e2;cases e2),h1,h2,h3⟩
theorem Post.write {P:Program} {β:BM} {H:AH} {w:World} {id:Nat} {bi:BI} {bk:Blk} {cs:List Value} {c c':Array Value} {el:TypeId} (h:Rel P β H w)
  (hb:H.t.get id=some bk) (hβ:β id=some bi) (hk:bk.kind≠1) (hg:w.heap[bi.b]?=some (.cells c el (0,0))) (hs:c'.size=c.size)
  (hr:∃ rest,∃ ds,c'.toList=ds++rest∧VRs β cs ds):Post P β H w β (H.write id { bk with cells:=cs }) (w.setRow bi.b c') where
 ext:=BM.le.refl β
 old _ _:=rfl
 size:=by simp
 os:=rfl
 tape:=rfl
 output:=rfl
 frame b _ hf:=setRow_other w bi.b b c' (fun e=>hf id bi bk hb hk hβ e.symm)
 fresh i b e e2:=by rw [e] at e2;cases e2
 rel:=by
  refine ⟨(AP.write (b':={ bk with cells:=cs }) hb rfl).lt h.lt,h.glt,h.glob,?_,?_⟩
  ·intro i b k e e2
   simp only [AH.write] at e2
   rw [T.get_set] at e2
   by_cases hi:i=id
   ·subst hi
    rw [if_pos rfl] at e2
    cases e2
    rw [hβ] at e;cases e
    refine ⟨c',el,(0,0),setRow_heap w bi.b c c' el (0,0) hg,hr,fun _=>rfl,fun s hs2=>?_⟩
    obtain ⟨c0,el0,fz,g1,g2⟩:=h.blk i bi bk hβ hb
    rw [hg] at g1;cases g1
    have:=g2.grow s hs2
    exact ⟨by rw [this.1,hs],this.2⟩
   ·rw [if_neg hi] at e2
    obtain ⟨c0,el0,fz,g1,g2⟩:=h.blk i b k e e2
    refine ⟨c0,el0,fz,?_,g2⟩
    rw [setRow_other w bi.b b.b c' ?_]
    ·exact g1
    ·intro e3
     exact hi (h.inj i id b bi k bk e2 hb e hβ e3 (.inr hk))
  ·intro i j b1 b2 k1 k2 e1 e2 e3 e4 e5 e6
   have lv:∀ i k,(H.write id { bk with cells:=cs }).t.get i=some k→∃ k',H.t.get i=some k'∧k'.kind=k.kind:=fun i k e=>by
    simp only [AH.write] at e
    rw [T.get_set] at e
    split at e
    ·rename_i e';subst e';cases e;exact ⟨_,hb,rfl⟩
    ·exact ⟨_,e,rfl⟩
   obtain ⟨k1',f1,q1⟩:=lv _ _ e1
   obtain ⟨k2',f2,q2⟩:=lv _ _ e2
   exact h.inj i j b1 b2 k1' k2' f1 f2 e3 e4 e5 (by rw [q1,q2];exact e6)
theorem Post.regrow {P:Program} {β:BM} {H:AH} {w:World} {id:Nat} {bi:BI} {bk bk':Blk} {c c':Array Value} {el:TypeId} (h:Rel P β H w) (hn:β H.n=none)
  (hb:H.t.get id=some bk) (hβ:β id=some bi) (hk:bk.kind≠1) (hg:w.heap[bi.b]?=some (.cells c el (0,0)))
  (hr:BR β bk' bi c' (0,0)):Post P β H w (fun i=>if i=H.n then some bi else β i) ((H.kill id).new bk') (w.setRow bi.b c'):=by
 have hle:β.le (fun i=>if i=H.n then some bi else β i):=fun id b e=>by
  show (if id=H.n then some bi else β id)=some b
  rw [if_neg (by intro e';subst e';rw [hn] at e;cases e)];exact e
 have hid:=h.lt id bk hb
 have gt:∀ i,((H.kill id).new bk').t.get i=if i=H.n then some bk' else if i=id then none else H.t.get i:=fun i=>by
  simp only [AH.new,AH.kill]
  rw [T.get_set]
  split
  ·rfl
  ·rw [T.get_del]
 exact {
  ext:=hle
  old:=fun i hi=>by
   show (if i=H.n then some bi else β i)=β i
   rw [if_neg (by have:((H.kill id).new bk').n=H.n+1:=rfl;omega)]
  size:=by simp
  os:=rfl
  tape:=rfl
  output:=rfl
  frame:=fun b _ hf=>setRow_other w bi.b b c' (fun e=>hf id bi bk hb hk hβ e.symm)
  fresh:=fun i b e e2=>by
   right
   have e2:(if i=H.n then some bi else β i)=some b:=e2
   split at e2
   ·cases e2;exact ⟨id,bi,bk,hb,hk,hβ,rfl⟩
   ·rw [e] at e2;cases e2
  rel:=by
   refine ⟨((AP.kill H id).trans (AP.new _ bk')).lt h.lt,Nat.le_trans h.glt (Nat.le_succ _),fun g hg=>hle _ _ (h.glob g hg),?_,?_⟩
   ·intro i b k e e2
    rw [gt] at e2
    have e:(if i=H.n then some bi else β i)=some b:=e
    by_cases hi:i=H.n
    ·rw [if_pos hi] at e e2
     cases e;cases e2
     obtain ⟨rest,cs,p1,p2⟩:=hr.pre
     exact ⟨c',el,(0,0),setRow_heap w bi.b c c' el (0,0) hg,⟨rest,cs,p1,p2.mono hle⟩,hr.rw,hr.grow⟩
    ·rw [if_neg hi] at e e2
     split at e2
     ·cases e2
     ·rename_i hne
      obtain ⟨c0,el0,fz,g1,g2⟩:=h.blk i b k e e2
      obtain ⟨rest,cs,p1,p2⟩:=g2.pre
      refine ⟨c0,el0,fz,?_,⟨rest,cs,p1,p2.mono hle⟩,g2.rw,g2.grow⟩
      rw [setRow_other w bi.b b.b c' ?_]
      ·exact g1
      ·intro e3
       exact hne (h.inj i id b bi k bk e2 hb e hβ e3 (.inr hk))
   ·intro i j b1 b2 k1 k2 e1 e2 e3 e4 e5 e6
    rw [gt] at e1 e2
    have e3:(if i=H.n then some bi else β i)=some b1:=e3
    have e4:(if j=H.n then some bi else β j)=some b2:=e4
    by_cases hi:i=H.n<;>by_cases hj:j=H.n
    ·omega
    ·rw [if_pos hi] at e3;rw [if_neg hj] at e4 e2
     cases e3
     split at e2
     ·cases e2
     ·rename_i hne
      exact absurd (h.inj j id b2 bi k2 bk e2 hb e4 hβ e5.symm (.inr hk)) hne
    ·rw [if_pos hj] at e4;rw [if_neg hi] at e3 e1
     cases e4
     split at e1
     ·cases e1
     ·rename_i hne
      exact absurd (h.inj i id b1 bi k1 bk e1 hb e3 hβ e5 (.inr hk)) hne
    ·rw [if_neg hi] at e3 e1;rw [if_neg hj] at e4 e2
     split at e1
     ·cases e1
     ·split at e2
      ·cases e2
      ·exact h.inj i j b1 b2 k1 k2 e1 e2 e3 e4 e5 e6 }
end Go.AL
end
section
set_option linter.unusedSimpArgs false
set_option linter.unusedVariables false
namespace Go.AL
section
variable {β:BM} {u:Value}
theorem VR.int_inv {k:IntKind} {n:Int} (h:VR β (.int k n) u):u=.int k n:=by cases h;rfl
theorem VR.bool_inv {b:Bool} (h:VR β (.bool b) u):u=.bool b:=by cases h;rfl
theorem VR.str_inv {s:ByteArray} (h:VR β (.string s) u):u=.string s:=by cases h;rfl
theorem VR.ptr_inv {a:Addr} (h:VR β (.pointer (some a)) u):∃ bi,a.spot=none∧β a.block=some bi∧u=.pointer (some ⟨bi.b,a.off,none⟩):=by
 cases h with | ptr o h=>exact ⟨_,rfl,h,rfl⟩
theorem VR.slice_none {len cap:Nat} (h:VR β (.slice none len cap) u):len=0∧cap=0∧u=.slice none 0 0:=by cases h;exact ⟨rfl,rfl,rfl⟩
inductive SR (β:BM) (a:Addr) (len cap:Nat) (u:Value):Prop where
 | sl (bi:BI) (hs:a.spot=none) (h:β a.block=some bi) (hl:len≤cap) (hc:cap<UC) (hu:u=.slice (some ⟨bi.b,a.off,none⟩) len cap)
 | slu (bi:BI) (c:Nat) (hs:a.spot=none) (h:β a.block=some bi) (hc:cap=UC) (hl:len≤c) (ht:a.off=0→bi.tot=c*bi.esz) (hu:u=.slice (some ⟨bi.b,a.off,none⟩) len c)
 | sl0 (a':Addr) (hs:a.spot=none) (hl:len=0) (hc:cap<UC) (hu:u=.slice (some a') 0 cap)
 | sle (bi:BI) (o' c:Nat) (hs:a.spot=none) (h:β a.block=some bi) (hc:cap=UC) (hl:len=0) (ho:a.off≠0) (hu:u=.slice (some ⟨bi.b,o',none⟩) 0 c)
theorem VR.slice_inv {a:Addr} {len cap:Nat} (h:VR β (.slice (some a) len cap) u):SR β a len cap u:=by
 cases h with
 | sl o len cap h hl hc=>exact .sl _ rfl h hl hc rfl
 | slu o len c h hl ht=>exact .slu _ c rfl h rfl hl ht rfl
 | sle o o' c h ho=>exact .sle _ o' c rfl h rfl rfl ho rfl
 | sl0 id o cap a' hc=>exact .sl0 a' rfl rfl hc rfl
theorem VR.agg_inv {cs:List Value} (h:VR β (.agg ⟨cs⟩) u):∃ ds,u=.agg ⟨ds⟩∧VRs β cs ds:=by cases h with | agg h=>exact ⟨_,rfl,h⟩
theorem VR.tuple_inv {cs:List Value} (h:VR β (.tuple ⟨cs⟩) u):∃ ds,u=.tuple ⟨ds⟩∧VRs β cs ds:=by cases h with | tuple h=>exact ⟨_,rfl,h⟩
theorem VR.func_inv {fn:Fn} {fs cs:List Value} (h:VR β (.func fn ⟨fs⟩ ⟨cs⟩) u):∃ fs' cs',u=.func fn ⟨fs'⟩ ⟨cs'⟩∧VRs β fs fs'∧VRs β cs cs':=by
 cases h with | func fn hf hc=>exact ⟨_,_,rfl,hf,hc⟩
end
section
variable {P:Program} {β:BM} {E:Env} {a:Act}
def Ok1 (β:BM) (E:Env) (a:Act) (x:Operand):Prop:=∀ v,ev E x=some v→VR β v (a.eval x)
theorem evs_sim:∀ {xs:List Operand} {vs:List Value},(∀ x∈xs,Ok1 β E a x)→evs E xs=some vs→VRs β vs (xs.map a.eval)
 | [],vs,_,h=>by simp [evs] at h;subst h;exact .nil
 | x::xs,vs,hok,h=>by
   unfold evs at h
   cases h1:ev E x with
   | none=>simp [h1] at h
   | some v=>
     cases h2:evs E xs with
     | none=>simp [h1,h2] at h
     | some ws=>
       simp [h1,h2] at h
       subst h
       exact .cons (hok x (by simp) v h1) (evs_sim (fun y hy=>hok y (by simp [hy])) h2)
inductive OptR (β:BM):Option Value→Option Value→Prop where
 | none:OptR β none none
 | some {v u:Value} (h:VR β v u):OptR β (some v) (some u)
theorem evo_sim {x:Option Operand} {v:Option Value} (hok:∀ y,x=some y→Ok1 β E a y) (h:evo E x=some v):OptR β v (x.map a.eval):=by
 cases x with
 | none=>simp [evo] at h;subst h;exact .none
 | some y=>
   unfold evo at h
   cases h1:ev E y with
   | none=>simp [h1] at h
   | some w=>simp [h1] at h;subst h;exact .some (hok y rfl w h1)
theorem foldl_set (off:Nat):∀ (vs:List Value) (k:Nat) (cs:Array Value),off+k+vs.length≤cs.size →
  ((vs.zipIdx k).foldl (fun (cs:Array Value) (p:Value×Nat)=>cs.setIfInBounds (off+p.2) p.1) cs).toList=cs.toList.take (off+k)++(vs++cs.toList.drop (off+k+vs.length))
 | [],k,cs,_=>by simp
 | v::vs,k,cs,h=>by
   simp only [List.zipIdx_cons,List.foldl_cons]
   rw [foldl_set off vs (k+1) (cs.setIfInBounds (off+k) v) (by simp at h ⊢;omega)]
   have hk:off+k<cs.toList.length:=by simp at h ⊢;omega
   rw [Array.toList_setIfInBounds]
   have e1:off+(k+1)=off+k+1:=by omega
   rw [e1]
   apply List.ext_getElem?
   intro i
   simp only [List.length_cons]
   rw [List.getElem?_append,List.getElem?_append,List.getElem?_append,List.getElem?_append]
   simp only [List.length_take,List.length_set,List.getElem?_take,List.getElem?_drop,List.length_cons,List.getElem?_set]
   have e2:min (off+k+1) cs.toList.length=off+k+1:=by omega
   have e3:min (off+k) cs.toList.length=off+k:=by omega
   rw [e2,e3]
   by_cases c1:i<off+k
   ·rw [if_pos (by omega),if_pos (by omega),if_neg (by omega),if_pos c1,if_pos c1]
   ·by_cases c2:i=off+k
    ·subst c2
     have hk2:off+k<cs.size:=by simpa using hk
     simp [hk2]
    ·rw [if_neg (by omega),if_neg c1]
     have e4:i-(off+k)=(i-(off+k+1))+1:=by omega
     rw [e4,List.getElem?_cons_succ]
     by_cases c3:i-(off+k+1)<vs.length
     ·rw [if_pos c3,if_pos (by omega)]
     ·rw [if_neg c3,if_neg (by omega),if_neg (by omega)]
      congr 1
      omega
theorem fill_set {off:Nat} {v:Value} {cs:Array Value} (h:off+v.cells.size≤cs.size) :
  (v.cells.zipIdx.foldl (fun cs (p:Value×Nat)=>cs.setIfInBounds (off+p.2) p.1) cs).toList=cs.toList.take off++(v.cells.toList++cs.toList.drop (off+v.cells.size)):=by
 have:=foldl_set off v.cells.toList 0 cs (by simpa using h)
 rw [←Array.foldl_toList,Array.toList_zipIdx]
 simpa using this
theorem putCells_some {cs vs r:List Value} {off:Nat} (h:putCells cs off vs=some r):off+vs.length≤cs.length∧r=cs.take off++(vs++cs.drop (off+vs.length)):=by
 unfold putCells at h
 cases hb:Nat.ble (off+vs.length) cs.length with
 | false=>simp [hb] at h
 | true=>simp [hb] at h;exact ⟨Nat.le_of_ble_eq_true hb,h.symm⟩
theorem takeCells_some {cs r:List Value} {off n:Nat} (h:takeCells cs off n=some r):r=(cs.drop off).take n∧r.length=n:=by
 unfold takeCells at h
 simp only at h
 cases hb:((cs.drop off).take n).length.beq n with
 | false=>simp only [hb,cond_false] at h;cases h
 | true=>simp only [hb,cond_true,Option.some.injEq] at h;exact ⟨h.symm,by rw [←h];exact Nat.eq_of_beq_eq_true hb⟩
theorem fill_sim {place:Nat→Option (Nat×Nat)}:∀ {qs:List (Nat×Nat×Operand)} {ps:List (Nat×Operand)} {cs cs':List Value} {ds:Array Value},
  (qs.map (fun q=>(q.1,q.2.1)))=ps.map (fun p=>(place p.1).getD (0,0))→(∀ p∈ps,(place p.1).isSome=true)→(qs.map (fun q=>q.2.2))=ps.map (fun p=>p.2) →
  (∀ q∈qs,Ok1 β E a q.2.2)→fillParts E cs qs=some cs'→VRs β cs ds.toList→∃ ds',Instr.fill place ds (ps.map fun p=>(p.1,a.eval p.2))=some ds'∧VRs β cs' ds'.toList
 | [],[],cs,cs',ds,_,_,_,_,h,hv=>by
   simp [fillParts] at h
   subst h
   exact ⟨ds,rfl,hv⟩
 | [],p::ps,_,_,_,h,_,_,_,_,_=>by simp at h
 | q::qs,[],_,_,_,h,_,_,_,_,_=>by simp at h
 | q::qs,p::ps,cs,cs',ds,h1,h2,h3,hok,h,hv=>by
   obtain ⟨off,sz,x⟩:=q
   obtain ⟨i,y⟩:=p
   simp only [List.map_cons,List.cons.injEq] at h1 h3
   obtain ⟨h1,h1'⟩:=h1
   obtain ⟨h3,h3'⟩:=h3
   have h2i:=h2 (i,y) (by simp)
   obtain ⟨pl,hpl⟩:=Option.isSome_iff_exists.mp h2i
   simp only at h3 hpl
   simp only [hpl,Option.getD_some] at h1
   subst h3
   cases h1
   unfold fillParts at h
   cases hx:ev E x with
   | none=>simp [hx] at h
   | some v=>
     simp only [hx] at h
     cases hb:((cellsOf v).length.beq sz&&!junk v) with
     | false=>simp [hb] at h
     | true=>
       simp only [hb,cond_true] at h
       simp only [Bool.and_eq_true,Bool.not_eq_true'] at hb
       obtain ⟨hb,hj⟩:=hb
       cases hp:putCells cs off (cellsOf v) with
       | none=>simp [hp] at h
       | some cs1=>
         simp only [hp] at h
         obtain ⟨hle,rfl⟩:=putCells_some hp
         have hvx:=hok (off,sz,x) (by simp) v hx
         have hc:=hvx.cellsOf hj
         have hl:=hc.length
         have hsz:=Nat.eq_of_beq_eq_true hb
         have hdl:=hv.length
         simp only [List.map_cons,Instr.fill,hpl]
         have e1:(a.eval x).cells.size=sz:=by rw [←hsz,hl];simp
         have e2:off+(a.eval x).cells.size≤ds.size:=by rw [e1,←hsz];simpa [hdl] using hle
         rw [if_neg (by simp [e1];omega)]
         refine fill_sim h1' (fun p hp=>h2 p (by simp [hp])) h3' (fun q hq=>hok q (by simp [hq])) h ?_
         rw [fill_set e2]
         refine VRs.append (hv.take _) (VRs.append hc ?_)
         rw [hl]
         have:=hv.drop (off+(a.eval x).cells.toList.length)
         simpa using this
theorem structParts_some:∀ {fs:Array Field} {ps:List (Nat×Operand)} {qs:List (Nat×Nat×Operand)},structParts P fs ps=some qs →
  (qs.map (fun q=>(q.1,q.2.1)))=ps.map (fun p=>(((fs[p.1]?).bind fun f=>(P.info? f.type).map fun i=>(f.offset,i.size))).getD (0,0))∧(∀ p∈ps,((fs[p.1]?).bind fun f=>(P.info? f.type).map fun i=>(f.offset,i.size)).isSome=true) ∧
   (qs.map (fun q=>q.2.2))=ps.map (fun p=>p.2)
 | fs,[],qs,h=>by simp [structParts] at h;subst h;simp
 | fs,(i,x)::ps,qs,h=>by
   unfold structParts at h
   cases h1:fs[i]? with
   | none=>simp [h1] at h
   | some f=>
     simp only [h1,tsz] at h
     cases h2:P.info? f.type with
     | none=>simp [h2] at h
     | some inf=>
       simp only [h2] at h
       cases h3:structParts P fs ps with
       | none=>simp [h3] at h
       | some r=>
         simp only [h3,Option.some.injEq] at h
         subst h
         obtain ⟨e1,e2,e3⟩:=structParts_some h3
         refine ⟨?_,?_,?_⟩
         ·simp [h1,h2,e1]
         ·intro p hp
          rcases List.mem_cons.1 hp with rfl | hp
          ·simp [h1,h2]
          ·exact e2 p hp
         ·simp [e3]
theorem zeroOf_some {t:TypeId} {z:List Value} (h:zeroOf P t=some z):∃ i v,P.info? t=some i∧i.zero=some v∧z=cellsOf v∧(cellsOf v).all plainS=true:=by
 unfold zeroOf at h
 cases h1:P.info? t with
 | none=>simp [h1] at h
 | some i=>
   cases h2:i.zero with
   | none=>simp [h1,h2] at h
   | some v=>
     simp only [h1,h2] at h
     split at h
     ·rename_i hp;simp at h;exact ⟨i,v,rfl,h2,h.symm,hp⟩
     ·cases h
theorem cells_toList (v:Value):v.cells.toList=cellsOf v:=by cases v<;>rfl
theorem knownFields_mapM:∀ (fs:List Field),knownFields P fs=true→∃ pl,fs.mapM (fun f=>(P.info? f.type).map fun i=>(f.offset,i.size))=some pl∧∀ i:Nat,pl[i]?=(fs[i]?).bind fun (f:Field)=>(P.info? f.type).map fun i=>(f.offset,i.size)
 | [],_=>⟨[],by simp,by simp⟩
 | f::fs,h=>by
   simp only [knownFields,List.all_cons,Bool.and_eq_true] at h
   obtain ⟨inf,hinf⟩:=Option.isSome_iff_exists.mp h.1
   obtain ⟨pl,h1,h2⟩:=knownFields_mapM fs h.2
   refine ⟨(f.offset,inf.size)::pl,by simp [hinf,h1],fun i=>?_⟩
   cases i with
   | zero=>simp [hinf]
   | succ i=>simpa using h2 i
end
end Go.AL
end
section
set_option linter.unusedSimpArgs false
set_option linter.unusedVariables false
namespace Go.AL
section
variable {P:Program} {β:BM} {E:Env} {a:Act} {w:World}
theorem intArith_run {op:BinOp} {t:TypeId} {X Y:Operand} {k:IntKind} {m n:Int} {v:Value} (h:intArith op k m n=some v) (h1:op≠.shl) (h2:op≠.shr) :
  ((do eqGuard op t X Y (.int k m) (.int k n);binOp op t (.int k m) (.int k n)):Sem Value).run P w=.ok v w∧VR β v v:=by
 cases op<;>simp only [intArith,fwrap_eq,Option.some.injEq,reduceCtorEq] at h
 case quo=>
  split at h
  ·cases h
  ·rename_i hn;cases h;exact ⟨by simp [eqGuard_at_int,binOp_quo,Op.intDiv,hn],by constructor⟩
 case rem=>
  split at h
  ·cases h
  ·rename_i hn;cases h;exact ⟨by simp [eqGuard_at_int,binOp_rem,Op.intDiv,hn],by constructor⟩
 all_goals first | (exact absurd rfl h1) | (exact absurd rfl h2) | skip
 all_goals
  subst h
  exact ⟨by simp [eqGuard_at_int,binOp_add,binOp_sub,binOp_mul,binOp_and,binOp_or,binOp_xor,binOp_andNot,binOp_eql,binOp_neq,binOp_lss,binOp_leq,binOp_gtr,binOp_geq,Op.intArith,Op.intBits],by constructor⟩
theorem aShift_run {op:BinOp} {t:TypeId} {X Y:Operand} {k k':IntKind} {m n:Int} {v:Value} (h:aShift op k m n=some v) :
  ((do eqGuard op t X Y (.int k m) (.int k' n);binOp op t (.int k m) (.int k' n)):Sem Value).run P w=.ok v w∧VR β v v:=by
 unfold aShift at h
 split at h
 ·cases h
 ·rename_i hn
  cases op<;>simp only [Option.some.injEq,reduceCtorEq] at h
  all_goals
   subst h
   exact ⟨by simp [eqGuard_at_int,binOp_shl,binOp_shr,Op.shift,hn,Nat.min_def],by constructor⟩
theorem part1_run {t:TypeId} {d:TypeDesc} (hu:P.underlying t=some d) (hd:(∃ k,d=.int k)∨d=.bool) {cs:List Value} {off:Nat} {v:Value} (h:cs[off]?=some v):(Go.part t ⟨cs⟩ off).run P w=.ok v w:=by
 have hr:(isAgg t).run P w=.ok false w:=by
  rcases hd with ⟨k,rfl⟩ | rfl<;>simp [isAgg,run_underlying hu]
 simp [Go.part,hr,h]
theorem eqFields_run {X Y X' Y':List Value} (hx:VRs β X X') (hy:VRs β Y Y') (d:Nat):∀ (fs:List Field) (i:Nat) (r:Bool),flatF P fs i=true→X.length=i+fs.length→Y.length=i+fs.length→eqCells (X.drop i) (Y.drop i)=some r →
  (Op.eqFields (d+1) ⟨X'⟩ ⟨Y'⟩ fs).run P w=.ok r w
 | [],i,r,_,h1,h2,he=>by
   rw [List.drop_eq_nil_iff.2 (by simp at h1;omega),List.drop_eq_nil_iff.2 (by simp at h2;omega)] at he
   obtain rfl:=Option.some.inj he
   simp [Op.eqFields]
 | f::fs,i,r,hf,h1,h2,he=>by
   simp only [flatF,Bool.and_eq_true] at hf
   obtain ⟨⟨⟨hn,ho⟩,ht⟩,hfs⟩:=hf
   have ho:=Nat.eq_of_beq_eq_true ho
   simp only [List.length_cons] at h1 h2
   have hX:i<X.length:=by omega
   have hY:i<Y.length:=by omega
   rw [List.drop_eq_getElem_cons hX,List.drop_eq_getElem_cons hY] at he
   obtain ⟨x',ex,vx⟩:=hx.get (List.getElem?_eq_getElem hX)
   obtain ⟨y',ey,vy⟩:=hy.get (List.getElem?_eq_getElem hY)
   have ih:=fun r=>eqFields_run hx hy d fs (i+1) r hfs (by omega) (by omega)
   obtain ⟨kk,hu⟩:∃ k,P.underlying f.type=some (.int k):=by
    split at ht
    ·rename_i k hu;exact ⟨k,hu⟩
    ·cases ht
   have px:=part1_run (w:=w) hu (.inl ⟨kk,rfl⟩) ex
   have py:=part1_run (w:=w) hu (.inl ⟨kk,rfl⟩) ey
   have hn' : f.name ≠ "_" := by simpa using hn
   have key:∀ q:Bool,(Op.equalIn (d+1) f.type x' y').run P w=.ok q w→(∃ r',eqCells (X.drop (i+1)) (Y.drop (i+1))=some r'∧r=(q&&r'))→(Op.eqFields (d+1) ⟨X'⟩ ⟨Y'⟩ (f::fs)).run P w=.ok r w:=by
    rintro q hq ⟨r',hr',rfl⟩
    simp only [Op.eqFields,hn',ne_eq,not_false_eq_true,if_true,Sem.run_bind,ho,px,py,Result.andThen_ok,hq]
    cases q with
    | false=>simp
    | true=>simpa using ih r' hr'
   generalize X[i]=x at *
   generalize Y[i]=y at *
   unfold eqCells at he
   split at he
   ·rename_i h;simp at h
   ·rename_i k m xs k' n ys h3 h4
    obtain ⟨rfl,rfl⟩:=List.cons.inj h3
    obtain ⟨rfl,rfl⟩:=List.cons.inj h4
    obtain rfl:=vx.int_inv
    obtain rfl:=vy.int_inv
    split at he
    ·rename_i hk
     subst hk
     split at he
     ·cases he
     ·rename_i r' hr'
      obtain rfl:=Option.some.inj he
      exact key _ (run_equalIn_int w d _ _ _ _ _ hu) ⟨r',hr',rfl⟩
    ·cases he
   ·cases he
theorem eqItems_run {X Y X' Y':List Value} (hx:VRs β X X') (hy:VRs β Y Y') (d:Nat) {e:TypeId} {kk:IntKind} (hu:P.underlying e=some (.int kk)):∀ (m i:Nat) (r:Bool),X.length=i+m→Y.length=i+m→eqCells (X.drop i) (Y.drop i)=some r →
  (Op.eqItems (d+1) e 1 ⟨X'⟩ ⟨Y'⟩ (List.range' i m)).run P w=.ok r w
 | 0,i,r,h1,h2,he=>by
   rw [List.drop_eq_nil_iff.2 (by omega),List.drop_eq_nil_iff.2 (by omega)] at he
   obtain rfl:=Option.some.inj he
   simp [Op.eqItems]
 | m+1,i,r,h1,h2,he=>by
   have hX:i<X.length:=by omega
   have hY:i<Y.length:=by omega
   rw [List.drop_eq_getElem_cons hX,List.drop_eq_getElem_cons hY] at he
   obtain ⟨x',ex,vx⟩:=hx.get (List.getElem?_eq_getElem hX)
   obtain ⟨y',ey,vy⟩:=hy.get (List.getElem?_eq_getElem hY)
   have ih:=fun r=>eqItems_run hx hy d hu m (i+1) r (by omega) (by omega)
   have px:=part1_run (w:=w) hu (.inl ⟨kk,rfl⟩) ex
   have py:=part1_run (w:=w) hu (.inl ⟨kk,rfl⟩) ey
   have key:∀ q:Bool,(Op.equalIn (d+1) e x' y').run P w=.ok q w→(∃ r',eqCells (X.drop (i+1)) (Y.drop (i+1))=some r'∧r=(q&&r'))→(Op.eqItems (d+1) e 1 ⟨X'⟩ ⟨Y'⟩ (List.range' i (m+1))).run P w=.ok r w:=by
    rintro q hq ⟨r',hr',rfl⟩
    simp only [List.range'_succ,Op.eqItems,Sem.run_bind,Nat.mul_one,px,py,Result.andThen_ok,hq]
    cases q with
    | false=>simp
    | true=>simpa using ih r' hr'
   generalize X[i]=x at *
   generalize Y[i]=y at *
   unfold eqCells at he
   split at he
   ·rename_i h;simp at h
   ·rename_i k m xs k' n ys h3 h4
    obtain ⟨rfl,rfl⟩:=List.cons.inj h3
    obtain ⟨rfl,rfl⟩:=List.cons.inj h4
    obtain rfl:=vx.int_inv
    obtain rfl:=vy.int_inv
    split at he
    ·rename_i hk
     subst hk
     split at he
     ·cases he
     ·rename_i r' hr'
      obtain rfl:=Option.some.inj he
      exact key _ (run_equalIn_int w d _ _ _ _ _ hu) ⟨r',hr',rfl⟩
    ·cases he
   ·cases he
theorem abin_run {tk:Nat} {op:BinOp} {t:TypeId} {X Y:Operand} {x y x' y' v:Value} (hk1:tk=1→P.underlying t=some .bool) (hk2:∀ n,tk=n+3→(flatS P t=true∧∃ fs,P.underlying t=some (.struct fs)∧fs.toList.length=n+1)∨∃ e,P.underlying t=some (.array (n+1) e)∧arrI P t e=true) (hk3:tk=2→∃ e,P.underlying t=some (.slice e)) (h:abin tk op x y=some v) (hx:VR β x x') (hy:VR β y y') :
  ((do eqGuard op t X Y x' y';binOp op t x' y'):Sem Value).run P w=.ok v w∧VR β v v:=by
 unfold abin at h
 split at h
 ·rename_i k m k' n
  obtain rfl:=hx.int_inv
  obtain rfl:=hy.int_inv
  split at h
  ·exact aShift_run h
  ·exact aShift_run h
  ·rename_i h1 h2
   split at h
   ·rename_i hk;subst hk;exact intArith_run h h1 h2
   ·cases h
 ·rename_i b c
  obtain rfl:=hx.bool_inv
  obtain rfl:=hy.bool_inv
  cases ht:tk.beq 1 with
  | false=>simp [ht] at h
  | true=>
    have hu:=hk1 (Nat.eq_of_beq_eq_true ht)
    simp only [ht,cond_true] at h
    split at h<;>simp only [Option.some.injEq,reduceCtorEq] at h
    all_goals
     subst h
     exact ⟨by simp [eqGuard_at_bool,binOp,run_equal_bool w t _ _ hu,bne],by constructor⟩
 ·rename_i s r
  obtain rfl:=hx.str_inv
  obtain rfl:=hy.str_inv
  split at h
  ·split at h
   ·rename_i hlt
    cases h
    have:((s.size:Int)+r.size≤9223372036854775807):=by omega
    exact ⟨by simp [eqGuard_at_string,binOp,Op.stringOp,this],by constructor⟩
   ·cases h
  ·cases h;exact ⟨by simp [eqGuard_at_string,binOp,Op.stringOp],by constructor⟩
  ·cases h;exact ⟨by simp [eqGuard_at_string,binOp,Op.stringOp],by constructor⟩
  ·cases h
 ·rename_i a1 n1 c1 n2 c2
  cases ht:tk.beq 2 with
  | false=>simp [ht] at h
  | true=>
    obtain ⟨e,hu⟩:=hk3 (Nat.eq_of_beq_eq_true ht)
    simp only [ht,cond_true] at h
    have key:∃ a1' m1 d1 m2 d2,x'=.slice a1' m1 d1∧y'=.slice none m2 d2∧a1'.isNone=a1.isNone:=by
     obtain ⟨m2,d2,rfl⟩:∃ m2 d2,y'=.slice none m2 d2:=by cases hy;exact ⟨0,0,rfl⟩
     cases hx<;>exact ⟨_,_,_,_,_,rfl,rfl,rfl⟩
    obtain ⟨a1',m1,d1,m2,d2,rfl,rfl,ha⟩:=key
    split at h
    ·cases h;rw [←ha];exact ⟨by rw [Sem.run_bind,eqGuard_at_slice];simpa using Lib.run_eql_slice_nil w t e a1' m1 d1 m2 d2 hu,by constructor⟩
    ·cases h;rw [←ha];exact ⟨by rw [Sem.run_bind,eqGuard_at_slice];simpa using run_neq_slice_nil_any w t e a1' m1 d1 m2 d2 hu,by constructor⟩
    ·cases h
 ·rename_i xs ys
  cases hc:(Nat.ble 3 tk&&(xs.length.beq (tk-2)&&ys.length.beq (tk-2))) with
  | false=>simp [hc] at h
  | true=>
    simp only [hc,cond_true] at h
    simp only [Bool.and_eq_true] at hc
    obtain ⟨h2,hxl,hyl⟩:=hc
    have h2:=Nat.le_of_ble_eq_true h2
    have hxl:=Nat.eq_of_beq_eq_true hxl
    have hyl:=Nat.eq_of_beq_eq_true hyl
    have fin:P.eqGuardType P.depth t=false→∀ xs' ys',x'=.agg ⟨xs'⟩→y'=.agg ⟨ys'⟩→(∀ r,eqCells xs ys=some r→(Op.equalIn 10000 t (.agg ⟨xs'⟩) (.agg ⟨ys'⟩)).run P w=.ok r w)→((do eqGuard op t X Y x' y';binOp op t x' y'):Sem Value).run P w=.ok v w∧VR β v v:=by
     rintro heg xs' ys' rfl rfl hall
     split at h
     ·rename_i r he
      have hr:=hall r he
      have hg:=run_eqGuard_agg (P:=P) w op t X Y
      split at h
      ·cases h;exact ⟨by rw [Sem.run_bind,hg _ _ heg,Result.andThen_ok,run_eql_struct,hr,Result.andThen_ok],by constructor⟩
      ·cases h;exact ⟨by rw [Sem.run_bind,hg _ _ heg,Result.andThen_ok,run_neq_struct,hr,Result.andThen_ok],by constructor⟩
      ·cases h
     ·cases h
    rcases hk2 (tk-3) (by omega) with ⟨hfl,fs,hu,hlen⟩ | ⟨e,hu,har⟩
    ·simp only [flatS,Bool.and_eq_true,Bool.not_eq_true'] at hfl
     obtain ⟨⟨hst,heg⟩,hff⟩:=hfl
     have hfo:P.fieldsOf t=fs:=by simp [Program.fieldsOf,hu]
     cases hx with
     | @agg _ xs' hvx=>
       cases hy with
       | @agg _ ys' hvy=>
         refine fin heg xs' ys' rfl rfl fun r he=>?_
         rw [run_equalIn_struct w 9999 t _ _ (by rw [hfo];exact hu) hst]
         exact eqFields_run hvx hvy 9998 _ 0 r hff (by rw [hfo];omega) (by rw [hfo];omega) (by simpa using he)
    ·simp only [arrI,Bool.and_eq_true,Bool.not_eq_true'] at har
     obtain ⟨heg,hint,hsz⟩:=har
     obtain ⟨kk,hk⟩:∃ k,P.underlying e=some (.int k):=by
      split at hint
      ·rename_i k hu;exact ⟨k,hu⟩
      ·cases hint
     obtain ⟨i,hi,hsz⟩:∃ i,P.info? e=some i∧i.size=1:=by
      split at hsz
      ·rename_i i hi;exact ⟨i,hi,Nat.eq_of_beq_eq_true hsz⟩
      ·cases hsz
     have hc1:P.cellsOf e=1:=by simp [Program.cellsOf,hi,hsz]
     cases hx with
     | @agg _ xs' hvx=>
       cases hy with
       | @agg _ ys' hvy=>
         refine fin heg xs' ys' rfl rfl fun r he=>?_
         rw [run_equalIn_array w 9999 _ _ hu hi,hc1,List.range_eq_range']
         exact eqItems_run hvx hvy 9998 hk _ 0 r (by omega) (by omega) (by simpa using he)
 ·cases h
theorem aun_run {op:UnOp} {x x' v:Value} (h:aun op x=some v) (hx:VR β x x'):(Op.unary op x').run P w=.ok v w∧VR β v v:=by
 unfold aun at h
 split at h
 ·obtain rfl:=hx.int_inv
  simp only [intArith,fwrap_eq,Option.some.injEq] at h
  subst h
  exact ⟨by simp [Op.unary,Op.intArith],by constructor⟩
 ·obtain rfl:=hx.int_inv
  simp only [intArith,fwrap_eq,Option.some.injEq] at h
  subst h
  exact ⟨by simp [Op.unary,Op.intBits],by constructor⟩
 ·obtain rfl:=hx.bool_inv
  simp only [Option.some.injEq] at h
  subst h
  exact ⟨by simp [Op.unary],by constructor⟩
 ·cases h
theorem beq_ne {m l:Nat} (h:¬ m=l):m.beq l=false:=by
 cases hb:m.beq l with
 | false=>rfl
 | true=>exact absurd (Nat.eq_of_beq_eq_true hb) h
theorem asNat_run {v u:Value} {b n y:Nat} {c:BoundsCode} (h:asNat v b=some n) (hv:VR β v u) (hb:b≤y):(Instr.sliceBound u y c).run P w=.ok n w∧n≤b:=by
 unfold asNat at h
 split at h
 ·rename_i k i
  obtain rfl:=hv.int_inv
  split at h
  ·rename_i hi
   simp only [Option.some.injEq] at h
   subst h
   have:0≤i∧i≤(y:Int):=by omega
   exact ⟨by simp [Instr.sliceBound,asIntOf,this],by omega⟩
  ·cases h
 ·cases h
theorem optNat_run {v u:Option Value} {d b n y:Nat} {c:BoundsCode} (h:optNat v d b=some n) (hv:OptR β v u) (hb:b≤y) (hd:d≤b) :
  ((match u with | some x=>Instr.sliceBound x y c | none=>pure d):Sem Nat).run P w=.ok n w∧n≤b:=by
 cases hv with
 | none=>simp only [optNat,Option.some.injEq] at h;subst h;exact ⟨rfl,hd⟩
 | some hv=>exact asNat_run h hv hb
theorem Nat.beq_true {a b:Nat} (h:a.beq b=true):a=b:=Nat.eq_of_beq_eq_true h
theorem Nat.beq_false {a b:Nat} (h:a.beq b=false):a≠b:=Nat.ne_of_beq_eq_false h
theorem aslice_run {esz len cap:Nat} {ad:Option Addr} {lo hi mx lo' hi' mx':Option Value} {v u:Value} {t e:TypeId} {inf:TypeInfo} (h:aslice esz ad len cap lo hi mx=some v)
  (hu:VR β (.slice ad len cap) u) (hlo:OptR β lo lo') (hhi:OptR β hi hi') (hmx:OptR β mx mx') (ht:P.underlying t=some (.slice e)) (hi1:P.info? e=some inf) (hsz:inf.size=esz) (hpos:0<esz) :
  ∃ v',(Instr.slice t u lo' hi' mx').run P w=.ok v' w∧VR β v v':=by
 have key:∃ au lu cu,u=.slice au lu cu∧lu=len∧len≤cu∧(cap≠UC→cu=cap):=by
  cases ad with
  | none=>
    obtain ⟨h1,h2,h3⟩:=hu.slice_none
    exact ⟨none,0,0,h3,h1.symm,by omega,fun _=>h2.symm⟩
  | some ad=>
    cases hu.slice_inv with
    | sl bi hs hb hl hc hu=>exact ⟨_,_,_,hu,rfl,hl,fun _=>rfl⟩
    | slu bi c hs hb hc hl ht hu=>exact ⟨_,_,_,hu,rfl,hl,fun h=>absurd hc h⟩
    | sle bi o' c hs hb hc hl ho hu=>exact ⟨_,_,_,hu,hl.symm,by omega,fun h=>absurd hc h⟩
    | sl0 a' hs hl hc hu=>exact ⟨_,_,_,hu,hl.symm,by omega,fun _=>rfl⟩
 obtain ⟨au,lu,cu,rfl,rfl,hle,hcap⟩:=key
 have hsize:(sizeOf e).run P w=.ok esz w:=by simp [sizeOf,typeInfo,hi1,hsz]
 unfold aslice at h
 cases hmx with
 | some hmv=>
   rename_i mv mu
   simp only at h
   cases hm:asNat mv lu with
   | none=>simp [hm] at h
   | some m=>
     simp only [hm] at h
     obtain ⟨r1,b1⟩:=asNat_run (P:=P) (w:=w) (c:=.slice3Acap) hm hmv hle
     cases hbad:(cap.beq UC&&lu.beq 0||Nat.ble UC m) with
     | true=>simp [hbad] at h
     | false=>
       simp only [hbad,cond_false] at h
       have hmu:m<UC:=by
        cases hq:Nat.ble UC m with
        | true=>simp [hq] at hbad
        | false=>rcases Nat.lt_or_ge m UC with h' | h';exact h';rw [Nat.ble_eq_true_of_le h'] at hq;cases hq
       cases hhi with
       | none=>simp at h
       | some hhv=>
         rename_i hv' hu'
         simp only at h
         cases hh:asNat hv' m with
         | none=>simp [hh] at h
         | some hn=>
           simp only [hh] at h
           obtain ⟨r2,b2⟩:=asNat_run (P:=P) (w:=w) (c:=.slice3B) hh hhv (Nat.le_refl m)
           cases hl:optNat lo 0 hn with
           | none=>simp [hl] at h
           | some l=>
             simp only [hl,Option.some.injEq] at h
             obtain ⟨r3,b3⟩:=optNat_run (P:=P) (w:=w) (c:=.slice3C) hl hlo (Nat.le_refl hn) (Nat.zero_le _)
             refine ⟨.slice (if m=l then au else au.map (·.add (l*esz))) (hn-l) (m-l),?_,?_⟩
             ·cases hlo with
              | none=>simp at r3;simp [Instr.slice,run_underlying ht,Instr.sliceBounds,r1,r2,r3,hsize]
              | some hlv=>simp at r3;simp [Instr.slice,run_underlying ht,Instr.sliceBounds,r1,r2,r3,hsize]
             ·subst h
              have mapped:∀ (ad:Addr) (bi:BI),ad.spot=none→β ad.block=some bi →
                VR β (.slice (bif m.beq l then some ad else (some ad:Option Addr).map (addOff · (l*esz))) (hn-l) (m-l)) (.slice (if m=l then some ⟨bi.b,ad.off,none⟩ else (some (⟨bi.b,ad.off,none⟩:Addr)).map (·.add (l*esz))) (hn-l) (m-l)):=by
               intro ad bi hs hb
               obtain ⟨blk,off,spot⟩:=ad
               simp only at hs hb;subst hs
               by_cases hml:m=l
               ·subst hml
                simp only [if_true]
                rw [show m.beq m=true from by simp]
                exact .sl _ _ _ hb (by omega) (by omega)
               ·rw [if_neg hml,beq_ne hml]
                simp only [cond_false,Option.map_some,addOff,Addr.add_lit]
                exact .sl _ _ _ hb (by omega) (by omega)
              cases ad with
              | none=>
                obtain ⟨h1,h2,h3⟩:=hu.slice_none
                cases h3
                have e0:m=0:=by omega
                have e1:hn=0:=by omega
                have e2:l=0:=by omega
                subst e0;subst e1;subst e2
                simp
                exact .snil
              | some ad=>
                have hne:¬ (cap=UC∧lu=0):=by
                 rintro ⟨h1,h2⟩
                 subst h1;subst h2
                 simp [UC] at hbad
                cases hu.slice_inv with
                | sl bi hs hb hl hc hu=>
                  simp only [Value.slice.injEq] at hu
                  obtain ⟨rfl,_,_⟩:=hu
                  exact mapped ad bi hs hb
                | slu bi c hs hb hc hl ht hu=>
                  simp only [Value.slice.injEq] at hu
                  obtain ⟨rfl,_,_⟩:=hu
                  exact mapped ad bi hs hb
                | sle bi o' c hs hb hc hl ho hu=>exact absurd ⟨hc,by omega⟩ hne
                | sl0 a' hs hl0 hc hu=>
                  simp only [Value.slice.injEq] at hu
                  obtain ⟨rfl,_,_⟩:=hu
                  have e0:m=0:=by omega
                  have e1:hn=0:=by omega
                  have e2:l=0:=by omega
                  subst e0;subst e1;subst e2
                  simp only [if_true]
                  rw [show Nat.beq 0 0=true from rfl]
                  obtain ⟨blk,off,spot⟩:=ad
                  simp only at hs;subst hs
                  exact .sl0 _ _ _ _ (by decide)
 | none=>
   simp only at h
   cases hh:optNat hi lu lu with
   | none=>simp [hh] at h
   | some hn=>
     simp only [hh] at h
     obtain ⟨r2,b2⟩:=optNat_run (P:=P) (w:=w) (c:=.sliceAcap) hh hhi hle (Nat.le_refl _)
     cases hl:optNat lo 0 hn with
     | none=>simp [hl] at h
     | some l=>
       simp only [hl] at h
       obtain ⟨r3,b3⟩:=optNat_run (P:=P) (w:=w) (c:=.sliceB) hl hlo (Nat.le_refl hn) (Nat.zero_le _)
       refine ⟨.slice (if cu=l then au else au.map (·.add (l*esz))) (hn-l) (cu-l),?_,?_⟩
       ·cases hlo<;>cases hhi<;>simp at r2 r3<;>simp [Instr.slice,run_underlying ht,Instr.sliceBounds,r2,r3,hsize]
       ·cases hb:cap.beq UC with
        | true=>
          simp only [hb,cond_true,Option.some.injEq] at h
          subst h
          have hcu:=Nat.beq_true hb
          cases ad with
          | none=>
            obtain ⟨h1,h2,h3⟩:=hu.slice_none
            rw [h2] at hcu;exact absurd hcu (by decide)
          | some ad=>
            cases hu.slice_inv with
            | sl bi hs hb' hl hc hu=>omega
            | sl0 a' hs hl0 hc hu=>omega
            | slu bi c hs hb' hc hl ht hu=>
              simp only [Value.slice.injEq] at hu
              obtain ⟨rfl,_,rfl⟩:=hu
              simp only [Option.map_some,addOff]
              by_cases hl0:l=0
              ·subst hl0
               simp only [Nat.zero_mul,Nat.add_zero,Nat.sub_zero,Addr.add_lit]
               rw [show (if cu=0 then some (⟨bi.b,ad.off,none⟩:Addr) else some ⟨bi.b,ad.off,none⟩)=some ⟨bi.b,ad.off,none⟩ from by split<;>rfl]
               exact .slu _ _ _ hb' (by omega) ht
              ·have hpos2:0<l*esz:=Nat.mul_pos (by omega) hpos
               by_cases hcl:cu=l
               ·rw [if_pos hcl]
                have:hn-l=0:=by omega
                rw [this]
                exact .sle _ _ _ hb' (by omega)
               ·rw [if_neg hcl]
                simp only [Addr.add_lit]
                exact .slu _ _ _ hb' (by omega) (fun h=>by omega)
            | sle bi o' c hs hb' hc hl ho hu=>
              simp only [Value.slice.injEq] at hu
              obtain ⟨rfl,_,rfl⟩:=hu
              have e1:hn=0:=by omega
              have e2:l=0:=by omega
              subst e1;subst e2
              simp only [Option.map_some,addOff,Nat.zero_mul,Nat.add_zero,Nat.sub_zero]
              rw [show (if cu=0 then some (⟨bi.b,o',none⟩:Addr) else some ((⟨bi.b,o',none⟩:Addr).add 0))=some ⟨bi.b,o',none⟩ from by rw [Addr.add_lit];split<;>rfl]
              exact .sle _ _ _ hb' ho
        | false=>
          simp only [hb,cond_false,Option.some.injEq] at h
          subst h
          have hne:=Nat.beq_false hb
          obtain rfl:=hcap hne
          cases ad with
          | none=>
            obtain ⟨h1,h2,h3⟩:=hu.slice_none
            cases h3
            have e1:hn=0:=by omega
            have e2:l=0:=by omega
            subst e1;subst e2
            simp
            exact .snil
          | some ad=>
            cases hu.slice_inv with
            | sl bi hs hb' hl hc hu=>
              simp only [Value.slice.injEq] at hu
              obtain ⟨rfl,_,_⟩:=hu
              by_cases hml:cu=l
              ·subst hml
               simp only [if_true]
               rw [show cu.beq cu=true from by simp]
               obtain ⟨blk,off,spot⟩:=ad
               simp only at hs;subst hs
               exact .sl _ _ _ hb' (by omega) (by omega)
              ·rw [if_neg hml,beq_ne hml]
               simp only [cond_false,Option.map_some,addOff,Addr.add_lit]
               exact .sl _ _ _ hb' (by omega) (by omega)
            | slu bi c hs hb' hc hl ht hu=>exact absurd hc hne
            | sle bi o' c hs hb' hc hl ho hu=>exact absurd hc hne
            | sl0 a' hs hl0 hc hu'=>
              simp only [Value.slice.injEq] at hu'
              obtain ⟨rfl,_,_⟩:=hu'
              have e1:hn=0:=by omega
              have e2:l=0:=by omega
              subst e1;subst e2
              obtain ⟨blk,off,spot⟩:=ad
              simp only at hs;subst hs
              simp only [Option.map_some,addOff,Nat.zero_mul,Nat.add_zero,Nat.sub_zero,Addr.add_zero',ite_self]
              cases hq:cu.beq 0<;>exact .sl0 _ _ _ _ hc
end
end Go.AL
end
section
set_option linter.unusedSimpArgs false
set_option linter.unusedVariables false
namespace Go.AL
section
variable {P:Program} {β:BM} {E:Env} {a:Act}
theorem aggOf_some {t:TypeId} {g:Option Nat} (h:aggOf P t=some g):∃ d i,P.underlying t=some d∧P.info? t=some i∧(match g with | none=>(isAgg t:Sem Bool)=(isAgg t)∧(∀ w,(isAgg t).run P w=.ok false w) | some n=>n=i.size∧(∀ w,(isAgg t).run P w=.ok true w)):=by
 unfold aggOf at h
 split at h
 ·rename_i fs i h1 h2;cases h;exact ⟨_,_,h1,h2,rfl,fun w=>by simp [isAgg,run_underlying h1]⟩
 ·rename_i n e i h1 h2;cases h;exact ⟨_,_,h1,h2,rfl,fun w=>by simp [isAgg,run_underlying h1]⟩
 ·rename_i d i h1 h2 h3 h4
  cases h
  refine ⟨_,_,h3,h4,rfl,fun w=>?_⟩
  cases d<;>first | (simp [isAgg,run_underlying h3];done) | skip
  ·exact (h2 _ _ rfl).elim
  ·exact (h1 _ rfl).elim
 ·cases h
theorem part_run {t:TypeId} {g:Option Nat} {cs ds:List Value} {off:Nat} {v:Value} (hg:aggOf P t=some g) (h:AL.part g cs off=some v) (hv:VRs β cs ds) (w:World) :
  ∃ v',(Go.part t ⟨ds⟩ off).run P w=.ok v' w∧VR β v v':=by
 obtain ⟨d,i,hu,hi,hh⟩:=aggOf_some hg
 cases g with
 | none=>
   obtain ⟨_,hr⟩:=hh
   obtain ⟨v',e1,e2⟩:=hv.get h
   exact ⟨v',by simp [Go.part,hr,e1],e2⟩
 | some n=>
   obtain ⟨hn,hr⟩:=hh
   simp only [AL.part] at h
   cases ht:takeCells cs off n with
   | none=>simp [ht] at h
   | some r=>
     simp only [ht,Option.some.injEq] at h
     subst h
     obtain ⟨rfl,hl⟩:=takeCells_some ht
     refine ⟨.agg ((⟨ds⟩:Array Value).extract off (off+i.size)),by simp [Go.part,hr,sizeOf,typeInfo,hi],?_⟩
     have e:(⟨ds⟩:Array Value).extract off (off+i.size)=⟨(ds.drop off).take n⟩:=by
      apply Array.ext'
      simp [Array.toList_extract,List.extract_eq_take_drop,hn]
     rw [e]
     exact .agg ((hv.drop off).take n)
theorem foldMax:∀ {vs us:List Value} {x u v:Value},foldV amax2 x vs=some v→VR β x u→VRs β vs us→∀ w:World,∃ v',(us.foldlM Builtin.max2 u:Sem Value).run P w=.ok v' w∧VR β v v'
 | [],us,x,u,v,h,hx,hv,w=>by
   cases hv
   simp only [foldV,Option.some.injEq] at h
   subst h
   exact ⟨u,rfl,hx⟩
 | y::vs,us,x,u,v,h,hx,hv,w=>by
   cases hv with
   | cons hy hv=>
     simp only [foldV] at h
     cases hm:amax2 x y with
     | none=>simp [hm] at h
     | some z=>
       simp only [hm] at h
       unfold amax2 at hm
       split at hm
       ·obtain rfl:=hx.int_inv
        obtain rfl:=hy.int_inv
        simp only [Option.some.injEq] at hm
        obtain ⟨v',h1,h2⟩:=foldMax h (by rw [←hm];constructor) hv w
        refine ⟨v',?_,h2⟩
        simp only [List.foldlM_cons,Builtin.max2,Sem.run_bind,Sem.run_pure,Result.andThen_ok]
        exact h1
       ·cases hm
theorem foldMin:∀ {vs us:List Value} {x u v:Value},foldV amin2 x vs=some v→VR β x u→VRs β vs us→∀ w:World,∃ v',(us.foldlM Builtin.min2 u:Sem Value).run P w=.ok v' w∧VR β v v'
 | [],us,x,u,v,h,hx,hv,w=>by
   cases hv
   simp only [foldV,Option.some.injEq] at h
   subst h
   exact ⟨u,rfl,hx⟩
 | y::vs,us,x,u,v,h,hx,hv,w=>by
   cases hv with
   | cons hy hv=>
     simp only [foldV] at h
     cases hm:amin2 x y with
     | none=>simp [hm] at h
     | some z=>
       simp only [hm] at h
       unfold amin2 at hm
       split at hm
       ·obtain rfl:=hx.int_inv
        obtain rfl:=hy.int_inv
        simp only [Option.some.injEq] at hm
        obtain ⟨v',h1,h2⟩:=foldMin h (by rw [←hm];constructor) hv w
        refine ⟨v',?_,h2⟩
        simp only [List.foldlM_cons,Builtin.min2,Sem.run_bind,Sem.run_pure,Result.andThen_ok]
        exact h1
       ·cases hm
theorem tsz_some {t:TypeId} {s:Nat} (h:tsz P t=some s):∃ i,P.info? t=some i∧i.size=s:=by
 unfold tsz at h
 cases hi:P.info? t with
 | none=>simp [hi] at h
 | some i=>simp [hi] at h;exact ⟨i,rfl,h⟩
theorem mapPairs (ps:Array (Nat×Operand)):(ps.map fun (i,x)=>(i,a.eval x)).toList=ps.toList.map fun p=>(p.1,a.eval p.2):=by simp
theorem build_run {t:TypeId} {ps:Array (Nat×Operand)} {z:List Value} {qs:List (Nat×Nat×Operand)} {cs:List Value}
  (hc:cop0 P (.build t ps)=some (.build z qs)) (hok:∀ q∈qs,Ok1 β E a q.2.2) (h:fillParts E z qs=some cs) (w:World) :
  ∃ v',(Instr.build t (ps.map fun (i,x)=>(i,a.eval x))).run P w=.ok v' w∧VR β (.agg ⟨cs⟩) v':=by
 simp only [cop0] at hc
 split at hc
 ·rename_i fs z' hu hz
  split at hc
  ·rename_i hk
   split at hc
   ·rename_i qs' hq
    simp only [Option.some.injEq,IOp.build.injEq] at hc
    obtain ⟨rfl,rfl⟩:=hc
    obtain ⟨i,v,hi,hiz,rfl,hp⟩:=zeroOf_some hz
    obtain ⟨pl,hm,hpl⟩:=knownFields_mapM (P:=P) fs.toList hk
    obtain ⟨e1,e2,e3⟩:=structParts_some hq
    have hpl':∀ j,(pl.toArray)[j]?=(fs[j]?).bind fun (f:Field)=>(P.info? f.type).map fun i=>(f.offset,i.size):=fun j=>by rw [List.getElem?_toArray,hpl j,Array.getElem?_toList]
    obtain ⟨ds,hf,hv⟩:=fill_sim (β:=β) (E:=E) (a:=a) (place:=(pl.toArray[·]?)) (qs:=qs') (ps:=ps.toList) (cs:=cellsOf v) (cs':=cs) (ds:=v.cells)
     (by rw [e1];exact List.map_congr_left fun p _=>by show _=((pl.toArray)[p.1]?).getD (0,0);rw [hpl']) (fun p hp=>by show ((pl.toArray)[p.1]?).isSome=true;rw [hpl'];exact e2 p hp) e3 hok h (by rw [cells_toList];exact VRs.plain hp)
    have hb:P.built t (ps.map fun (i,x)=>(i,a.eval x)).toList=some ds:=by
     simp only [Program.built,hi,hu,hiz,hm,mapPairs]
     exact hf
    exact ⟨.agg ds,run_build w t _ ds hb,by have:=VR.agg hv;simpa using this⟩
   ·cases hc
  ·cases hc
 ·rename_i n e z' hu hz
  split at hc
  ·rename_i s hs
   simp only [Option.some.injEq,IOp.build.injEq] at hc
   obtain ⟨rfl,rfl⟩:=hc
   obtain ⟨i,v,hi,hiz,rfl,hp⟩:=zeroOf_some hz
   obtain ⟨ie,hie,rfl⟩:=tsz_some hs
   obtain ⟨ds,hf,hv⟩:=fill_sim (β:=β) (E:=E) (a:=a) (place:=fun j=>some (j*ie.size,ie.size)) (qs:=arrParts ie.size ps.toList) (ps:=ps.toList) (cs:=cellsOf v) (cs':=cs) (ds:=v.cells)
    (by simp [arrParts]) (fun p hp=>rfl) (by simp [arrParts]) hok h (by rw [cells_toList];exact VRs.plain hp)
   have hb:P.built t (ps.map fun (i,x)=>(i,a.eval x)).toList=some ds:=by
    simp only [Program.built,hi,hu,hiz,hie,mapPairs]
    exact hf
   exact ⟨.agg ds,run_build w t _ ds hb,by have:=VR.agg hv;simpa using this⟩
  ·cases hc
 ·cases hc
theorem run_value {s:Sem Value} {v:Value} {w w':World} (h:s.run P w=.ok v w'):((do pure (Next.value (←s))):Sem Next).run P w=.ok (.value v) w':=by
 simp [h]
end
end Go.AL
end
section
set_option linter.unusedSimpArgs false
set_option linter.unusedVariables false
set_option maxHeartbeats 1000000
namespace Go.AL
section
variable {P:Program} {β:BM} {E:Env} {a:Act}
theorem slice_case {esz:Nat} {arr:Option Nat} {x:Operand} {lo hi mx:Option Operand} {t:TypeId} {v:Value}
  (hc:cop0 P (.slice t x lo hi mx)=some (.slice esz arr x lo hi mx)) (hok:∀ y∈(IOp.slice esz arr x lo hi mx).opnds,Ok1 β E a y) (hp:pop E (.slice esz arr x lo hi mx)=some v) (w:World) :
  ∃ v',(Instr.sliceAt t (a.eval x) (lo.map a.eval) (hi.map a.eval) (mx.map a.eval)).run P w=.ok v' w∧VR β v v':=by
 have hx:Ok1 β E a x:=hok x (by simp [IOp.opnds])
 have hlo:∀ y,lo=some y→Ok1 β E a y:=fun y h=>hok y (by simp [IOp.opnds,h])
 have hhi:∀ y,hi=some y→Ok1 β E a y:=fun y h=>hok y (by simp [IOp.opnds,h])
 have hmx:∀ y,mx=some y→Ok1 β E a y:=fun y h=>hok y (by simp [IOp.opnds,h])
 simp only [cop0] at hc
 split at hc
 ·rename_i e hu
  split at hc
  ·rename_i s hs
   simp only [Option.some.injEq,IOp.slice.injEq] at hc
   obtain ⟨rfl,rfl,_⟩:=hc
   obtain ⟨i,hi1,hi2⟩:=tsz_some hs
   simp only [pop] at hp
   split at hp
   ·rename_i ad len cap lo1 hi1' mx1 h1 h2 h3 h4
    have hb:(s+1).beq 0=false:=rfl
    simp only [hb,cond_false] at hp
    obtain ⟨v',r1,r2⟩:=aslice_run (P:=P) (w:=w) hp (hx _ h1) (evo_sim hlo h2) (evo_sim hhi h3) (evo_sim hmx h4) hu hi1 hi2 (Nat.succ_pos s)
    exact ⟨v',by simp [Instr.sliceAt,run_underlying hu,r1],r2⟩
   ·have hb:(s+1).beq 0=false:=rfl
    simp [hb] at hp
   ·cases hp
  ·cases hc
 ·rename_i n e hu
  split at hc
  ·rename_i s hs
   split at hc
   ·rename_i hn
    simp only [Option.some.injEq,IOp.slice.injEq] at hc
    obtain ⟨rfl,rfl,_⟩:=hc
    obtain ⟨i,hi1,hi2⟩:=tsz_some hs
    simp only [pop] at hp
    split at hp
    ·rename_i ad lo1 hi1' h1 h2 h3 h4
     obtain ⟨bi,hsp,hβ,he⟩:=(hx _ h1).ptr_inv
     have hcap:n≠UC:=by unfold UC;omega
     simp only [aslice] at hp
     have hbq:n.beq UC=false:=beq_ne hcap
     simp only [hbq,cond_false] at hp
     cases hh:optNat hi1' n n with
     | none=>simp [hh] at hp
     | some h=>
       simp only [hh] at hp
       obtain ⟨r2,b2⟩:=optNat_run (P:=P) (w:=w) (c:=.sliceAlen) hh (evo_sim hhi h3) (Nat.le_refl n) (Nat.le_refl n)
       cases hl:optNat lo1 0 h with
       | none=>simp [hl] at hp
       | some l=>
         simp only [hl,Option.some.injEq] at hp
         obtain ⟨r3,b3⟩:=optNat_run (P:=P) (w:=w) (c:=.sliceB) hl (evo_sim hlo h2) (Nat.le_refl h) (Nat.zero_le _)
         refine ⟨.slice (some (if n=l then ⟨bi.b,ad.off,none⟩ else ⟨bi.b,ad.off+l*(s+1),none⟩)) (h-l) (n-l),?_,?_⟩
         ·have hsz:(sizeOf e).run P w=.ok (s+1) w:=by simp [sizeOf,typeInfo,hi1,hi2]
          rw [he]
          cases lo<;>cases hi<;>simp at r2 r3<;>simp [Instr.sliceAt,run_underlying hu,Instr.sliceBounds,Instr.sureAddr,r2,r3,hsz,Addr.add_lit]
         ·subst hp
          by_cases hml:n=l
          ·subst hml
           simp only [if_true]
           rw [show n.beq n=true from by simp]
           obtain ⟨blk,off,spot⟩:=ad
           simp only at hsp;subst hsp
           exact .sl _ _ _ hβ (by omega) (by unfold UC;omega)
          ·rw [if_neg hml,beq_ne hml]
           simp only [cond_false,Option.map_some,addOff]
           exact .sl _ _ _ hβ (by omega) (by unfold UC;omega)
    ·cases hp
   ·cases hc
  ·cases hc
 ·rename_i hu
  split at hc
  ·simp only [Option.some.injEq,IOp.slice.injEq] at hc
   obtain ⟨rfl,rfl,_⟩:=hc
   simp only [pop] at hp
   split at hp
   ·have hb:Nat.beq 0 0=true:=rfl
    simp [hb] at hp
   ·rename_i s lo1 hi1' h1 h2 h3 h4
    have hb:Nat.beq 0 0=true:=rfl
    simp only [hb,Bool.not_true,cond_false] at hp
    have he:=(hx _ h1).str_inv
    cases hh:optNat hi1' s.size s.size with
    | none=>simp [hh] at hp
    | some h=>
      simp only [hh] at hp
      obtain ⟨r2,b2⟩:=optNat_run (P:=P) (w:=w) (c:=.sliceAlen) hh (evo_sim hhi h3) (Nat.le_refl _) (Nat.le_refl _)
      cases hl:optNat lo1 0 h with
      | none=>simp [hl] at hp
      | some l=>
        simp only [hl,Option.some.injEq] at hp
        obtain ⟨r3,b3⟩:=optNat_run (P:=P) (w:=w) (c:=.sliceB) hl (evo_sim hlo h2) (Nat.le_refl h) (Nat.zero_le _)
        subst hp
        refine ⟨.string (s.extract l h),?_,.string _⟩
        rw [he]
        cases lo<;>cases hi<;>simp at r2 r3<;>simp [Instr.sliceAt,Instr.slice,run_underlying hu,Instr.sliceBounds,r2,r3]
   ·cases hp
  ·cases hc
 ·cases hc
theorem pop_sim {o:Oper} {i:IOp} {v:Value} (hc:cop0 P o.op=some i) (ht:i.touch=false) (hok:∀ x∈i.opnds,Ok1 β E a x) (hp:pop E i=some v) (w:World) :
  ∃ v',(execOp a.eval o).run P w=.ok (.value v') w∧VR β v v':=by
 obtain ⟨dst,op,type,pos,after,guard⟩:=o
 simp only at hc
 cases op
 case move x=>
  simp only [cop0,Option.some.injEq] at hc;subst hc
  exact ⟨a.eval x,by simp [execOp],hok x (by simp [IOp.opnds]) v (by simpa [pop] using hp)⟩
 case assign x=>
  simp only [cop0,Option.some.injEq] at hc;subst hc
  exact ⟨a.eval x,by simp [execOp],hok x (by simp [IOp.opnds]) v (by simpa [pop] using hp)⟩
 case pick c x y=>
  simp only [cop0,Option.some.injEq] at hc;subst hc
  simp only [pop] at hp
  split at hp
  ·rename_i h1
   have:=(hok c (by simp [IOp.opnds]) _ h1).bool_inv
   exact ⟨a.eval x,by simp [execOp,this,asBool],hok x (by simp [IOp.opnds]) v hp⟩
  ·rename_i h1
   have:=(hok c (by simp [IOp.opnds]) _ h1).bool_inv
   exact ⟨a.eval y,by simp [execOp,this,asBool],hok y (by simp [IOp.opnds]) v hp⟩
  ·cases hp
 case build t ps=>
  have hc0:=hc
  simp only [cop0] at hc
  have hi:∃ z qs,i=.build z qs:=by
   split at hc
   ·split at hc
    ·split at hc
     ·cases hc;exact ⟨_,_,rfl⟩
     ·cases hc
    ·cases hc
   ·split at hc
    ·cases hc;exact ⟨_,_,rfl⟩
    ·cases hc
   ·cases hc
  obtain ⟨z,qs,rfl⟩:=hi
  simp only [pop] at hp
  cases hf:fillParts E z qs with
  | none=>simp [hf] at hp
  | some cs=>
    simp only [hf,Option.some.injEq] at hp
    subst hp
    obtain ⟨v',h1,h2⟩:=build_run (P:=P) (β:=β) (E:=E) (a:=a) hc0 (fun q hq=>hok _ (by simp only [IOp.opnds,List.mem_map];exact ⟨q,hq,rfl⟩)) hf w
    exact ⟨v',by simp only [execOp];exact run_value h1,h2⟩
 case binOp op t x y yt=>
  have hk:∃ tk,i=.bin tk op x y∧(tk=1→P.underlying t=some .bool)∧(∀ n,tk=n+3→(flatS P t=true∧∃ fs,P.underlying t=some (.struct fs)∧fs.toList.length=n+1)∨∃ e,P.underlying t=some (.array (n+1) e)∧arrI P t e=true)∧(tk=2→∃ e,P.underlying t=some (.slice e)):=by
   simp only [cop0] at hc
   split at hc
   ·rename_i hu;cases hc;exact ⟨1,rfl,fun _=>hu,fun n h=>by omega,fun h=>by omega⟩
   ·rename_i fs hu
    cases hfl:(flatS P t&&Nat.ble 1 fs.toList.length) with
    | false=>rw [hfl] at hc;cases hc
    | true=>
      rw [hfl] at hc
      cases hc
      simp only [Bool.and_eq_true] at hfl
      have:=Nat.le_of_ble_eq_true hfl.2
      exact ⟨_,rfl,fun h=>by omega,fun n h=>.inl ⟨hfl.1,fs,hu,by omega⟩,fun h=>by omega⟩
   ·rename_i e hu;cases hc;exact ⟨2,rfl,fun h=>(by omega),fun n h=>(by omega),fun _=>⟨e,hu⟩⟩
   ·rename_i n0 e hu
    cases hfl:(arrI P t e&&Nat.ble 1 n0) with
    | false=>rw [hfl] at hc;cases hc
    | true=>
      rw [hfl] at hc
      cases hc
      simp only [Bool.and_eq_true] at hfl
      have:=Nat.le_of_ble_eq_true hfl.2
      exact ⟨_,rfl,fun h=>by omega,fun n h=>.inr ⟨e,by rw [show n+1=n0 by omega];exact hu,hfl.1⟩,fun h=>by omega⟩
   ·cases hc;exact ⟨0,rfl,fun h=>(by cases h),fun n h=>(by omega),fun h=>(by omega)⟩
  obtain ⟨tk,rfl,hk,hk2,hk3⟩:=hk
  simp only [pop] at hp
  split at hp
  ·rename_i u1 u2 h1 h2
   obtain ⟨r1,r2⟩:=abin_run (P:=P) (w:=w) (t:=t) (X:=x) (Y:=y) hk hk2 hk3 hp (hok x (by simp [IOp.opnds]) _ h1) (hok y (by simp [IOp.opnds]) _ h2)
   exact ⟨v,by simp only [execOp];exact run_value r1,r2⟩
  ·cases hp
 case unOp op t x=>
  simp only [cop0,Option.some.injEq] at hc;subst hc
  simp only [pop] at hp
  split at hp
  ·rename_i u1 h1
   obtain ⟨r1,r2⟩:=aun_run (P:=P) (w:=w) hp (hok x (by simp [IOp.opnds]) _ h1)
   exact ⟨v,by simp only [execOp];exact run_value r1,r2⟩
  ·cases hp
 case convert s d x=>
  simp only [cop0] at hc
  split at hc
  ·rename_i d1 k h1 h2
   simp only [Option.some.injEq] at hc;subst hc
   simp only [pop] at hp
   split at hp
   ·rename_i k' n h3
    simp only [fwrap_eq,Option.some.injEq] at hp;subst hp
    have:=(hok x (by simp [IOp.opnds]) _ h3).int_inv
    refine ⟨_,?_,.int _ _⟩
    simp only [execOp]
    refine run_value ?_
    rw [this]
    simp [convert,run_underlying h1,run_underlying h2,Conv.intToInt]
   ·cases hp
  ·cases hc
 case makeFunc fn f c=>
  simp only [cop0,Option.some.injEq] at hc;subst hc
  simp only [pop] at hp
  split at hp
  ·rename_i fs cs h1 h2
   simp only [Option.some.injEq] at hp;subst hp
   have r1:=evs_sim (β:=β) (E:=E) (a:=a) (fun x hx=>hok x (by simp only [IOp.opnds,List.mem_append];exact .inl hx)) h1
   have r2:=evs_sim (β:=β) (E:=E) (a:=a) (fun x hx=>hok x (by simp only [IOp.opnds,List.mem_append];exact .inr hx)) h2
   refine ⟨.func fn (f.map a.eval) (c.map a.eval),by simp [execOp,Instr.makeFunc],?_⟩
   have e1:f.map a.eval=⟨f.toList.map a.eval⟩:=by apply Array.ext';simp
   have e2:c.map a.eval=⟨c.toList.map a.eval⟩:=by apply Array.ext';simp
   rw [e1,e2]
   exact .func fn r1 r2
  ·cases hp
 case slice t x lo hi mx=>
  have hi':∃ esz arr,i=.slice esz arr x lo hi mx:=by
   simp only [cop0] at hc
   split at hc
   ·split at hc
    ·cases hc;exact ⟨_,_,rfl⟩
    ·cases hc
   ·split at hc
    ·split at hc
     ·cases hc;exact ⟨_,_,rfl⟩
     ·cases hc
    ·cases hc
   ·split at hc
    ·cases hc;exact ⟨_,_,rfl⟩
    ·cases hc
   ·cases hc
  obtain ⟨esz,arr,rfl⟩:=hi'
  obtain ⟨v',r1,r2⟩:=slice_case hc hok hp w
  exact ⟨v',by simp only [execOp];exact run_value r1,r2⟩
 case fieldAddr s x f=>
  simp only [cop0] at hc
  split at hc
  ·rename_i fs hu
   split at hc
   ·rename_i fd hf
    split at hc
    ·rename_i n hs
     simp only [Option.some.injEq] at hc;subst hc
     obtain ⟨i,hi1,hi2⟩:=tsz_some hs
     simp only [pop] at hp
     split at hp
     ·rename_i ad h1
      simp only [Option.some.injEq] at hp;subst hp
      obtain ⟨bi,hsp,hβ,he⟩:=(hok x (by simp [IOp.opnds]) _ h1).ptr_inv
      refine ⟨.pointer (some ⟨bi.b,ad.off+fd.offset,none⟩),?_,.ptr _ hβ⟩
      simp only [execOp]
      refine run_value ?_
      rw [he]
      simp [Instr.fieldAt,run_underlying hu,hf,Instr.sureAddr,fieldPlace,sizeOf,typeInfo,hi1,hi2,Addr.add_lit]
     ·cases hp
    ·cases hc
   ·cases hc
  ·cases hc
 case field s x f=>
  simp only [cop0] at hc
  split at hc
  ·rename_i fs hu
   split at hc
   ·rename_i fd hf
    split at hc
    ·rename_i g hg
     simp only [Option.some.injEq] at hc;subst hc
     simp only [pop] at hp
     split at hp
     ·rename_i cs h1
      obtain ⟨ds,he,hv⟩:=(hok x (by simp [IOp.opnds]) _ h1).agg_inv
      obtain ⟨v',r1,r2⟩:=part_run (P:=P) hg hp hv w
      refine ⟨v',?_,r2⟩
      simp only [execOp]
      refine run_value ?_
      rw [he]
      simp [Instr.field,run_underlying hu,hf,asAgg,r1]
     ·cases hp
    ·cases hc
   ·cases hc
  ·cases hc
 case indexAddr t x ix=>
  simp only [cop0] at hc
  split at hc
  ·rename_i e hu
   split at hc
   ·rename_i s hs
    simp only [Option.some.injEq] at hc;subst hc
    obtain ⟨i,hi1,hi2⟩:=tsz_some hs
    simp only [pop] at hp
    split at hp
    ·rename_i ad len cap k n h1 h2
     split at hp
     ·rename_i hn
      simp only [Option.some.injEq] at hp;subst hp
      have e2:=(hok ix (by simp [IOp.opnds]) _ h2).int_inv
      cases (hok x (by simp [IOp.opnds]) _ h1).slice_inv with
      | sl bi hsp hβ hl hc hu'=>
        refine ⟨.pointer (some ⟨bi.b,ad.off+n.toNat*s,none⟩),?_,.ptr _ hβ⟩
        simp only [execOp]
        refine run_value ?_
        rw [hu',e2]
        simp [Instr.indexAt,run_underlying hu,asIntOf,sizeOf,typeInfo,hi1,hi2,Addr.add_lit,hn]
      | slu bi c hsp hβ hc hl ht hu'=>
        refine ⟨.pointer (some ⟨bi.b,ad.off+n.toNat*s,none⟩),?_,.ptr _ hβ⟩
        simp only [execOp]
        refine run_value ?_
        rw [hu',e2]
        simp [Instr.indexAt,run_underlying hu,asIntOf,sizeOf,typeInfo,hi1,hi2,Addr.add_lit,hn]
      | sle bi o' c hsp hβ hc hl ho hu'=>omega
      | sl0 a' _ hl _ _=>omega
     ·cases hp
    ·cases hp
   ·cases hc
  ·rename_i n e hu
   split at hc
   ·rename_i s hs
    simp only [Option.some.injEq] at hc;subst hc
    obtain ⟨i,hi1,hi2⟩:=tsz_some hs
    simp only [pop] at hp
    split at hp
    ·rename_i ad k m h1 h2
     split at hp
     ·rename_i hn
      simp only [Option.some.injEq] at hp;subst hp
      have e2:=(hok ix (by simp [IOp.opnds]) _ h2).int_inv
      obtain ⟨bi,hsp,hβ,he⟩:=(hok x (by simp [IOp.opnds]) _ h1).ptr_inv
      refine ⟨.pointer (some ⟨bi.b,ad.off+m.toNat*s,none⟩),?_,.ptr _ hβ⟩
      simp only [execOp]
      refine run_value ?_
      rw [he,e2]
      simp [Instr.indexAt,run_underlying hu,asIntOf,sizeOf,typeInfo,hi1,hi2,Addr.add_lit,hn,Instr.sureAddr]
     ·cases hp
    ·cases hp
   ·cases hc
  ·cases hc
 case index t x ix=>
  simp only [cop0] at hc
  split at hc
  ·rename_i n e hu
   split at hc
   ·rename_i s g hs hg
    simp only [Option.some.injEq] at hc;subst hc
    obtain ⟨i,hi1,hi2⟩:=tsz_some hs
    simp only [pop] at hp
    split at hp
    ·rename_i cs k m h1 h2
     split at hp
     ·rename_i hn
      have e2:=(hok ix (by simp [IOp.opnds]) _ h2).int_inv
      obtain ⟨ds,he,hv⟩:=(hok x (by simp [IOp.opnds]) _ h1).agg_inv
      obtain ⟨v',r1,r2⟩:=part_run (P:=P) hg hp hv w
      refine ⟨v',?_,r2⟩
      simp only [execOp]
      refine run_value ?_
      rw [he,e2]
      simp [Instr.index,run_underlying hu,asIntOf,sizeOf,typeInfo,hi1,hi2,hn,r1]
     ·cases hp
    ·cases hp
   ·cases hc
  ·rename_i hu
   simp only [Option.some.injEq] at hc;subst hc
   simp only [pop] at hp
   split at hp
   ·rename_i s k m h1 h2
    split at hp
    ·rename_i hn
     split at hp
     ·rename_i b hb
      simp only [Option.some.injEq] at hp;subst hp
      have e1:=(hok x (by simp [IOp.opnds]) _ h1).str_inv
      have e2:=(hok ix (by simp [IOp.opnds]) _ h2).int_inv
      refine ⟨_,?_,.int _ _⟩
      simp only [execOp]
      refine run_value ?_
      rw [e1,e2]
      simp [Instr.index,run_underlying hu,asIntOf,hn,hb]
     ·cases hp
    ·cases hp
   ·cases hp
  ·cases hc
 case makeInterface t x=>
  simp only [cop0,Option.some.injEq] at hc;subst hc
  simp only [pop,ev] at hp
  cases hp
 case panic x=>
  simp only [cop0,Option.some.injEq] at hc;subst hc
  simp only [pop,ev] at hp
  cases hp
 case extract x ix=>
  simp only [cop0,Option.some.injEq] at hc;subst hc
  simp only [pop] at hp
  split at hp
  ·rename_i vs h1
   obtain ⟨ds,he,hv⟩:=(hok x (by simp [IOp.opnds]) _ h1).tuple_inv
   obtain ⟨v',r1,r2⟩:=hv.get hp
   refine ⟨v',?_,r2⟩
   simp only [execOp]
   refine run_value ?_
   rw [he]
   simp [Instr.extract,r1]
  ·cases hp
 case call c=>
  obtain ⟨callee,args,argTypes⟩:=c
  simp only [cop0] at hc
  split at hc
  ·cases hc;cases ht
  ·
   split at hc
   ·rename_i t x ht' hx'
    have ea:args=#[x]:=by apply Array.ext';simpa using hx'
    have et:argTypes=#[t]:=by apply Array.ext';simpa using ht'
    subst ea;subst et
    split at hc
    ·rename_i e hu
     cases hc
     simp only [pop] at hp
     split at hp
     ·rename_i ad n cap h1
      simp only [cond_false,Option.some.injEq] at hp;subst hp
      have hv:=hok x (by simp [IOp.opnds]) _ h1
      have:∃ a' c',a.eval x=.slice a' n c':=by
       cases ad with
       | none=>obtain ⟨rfl,rfl,e⟩:=hv.slice_none;exact ⟨_,_,e⟩
       | some ad=>cases hv.slice_inv with
         | sl bi _ _ _ _ e=>exact ⟨_,_,e⟩
         | slu bi c _ _ _ _ _ e=>exact ⟨_,_,e⟩
         | sle bi o' c _ _ _ hl _ e=>subst hl;exact ⟨_,_,e⟩
         | sl0 a' _ hl _ e=>subst hl;exact ⟨_,_,e⟩
      obtain ⟨a',c',e⟩:=this
      exact ⟨_,by simp [execOp,resolve,invoke,builtin,Builtin.len_,run_underlying hu,e,goInt],.int _ _⟩
     ·simp at hp
     ·cases hp
    ·rename_i hu
     cases hc
     simp only [pop] at hp
     split at hp
     ·simp at hp
     ·rename_i s h1
      simp only [cond_true,Option.some.injEq] at hp;subst hp
      have e:=(hok x (by simp [IOp.opnds]) _ h1).str_inv
      exact ⟨_,by simp [execOp,resolve,invoke,builtin,Builtin.len_,run_underlying hu,e,goInt],.int _ _⟩
     ·cases hp
    ·rename_i n e hu
     cases hc
     simp only [pop,Option.some.injEq] at hp;subst hp
     exact ⟨_,by simp [execOp,resolve,invoke,builtin,Builtin.len_,run_underlying hu,goInt],.int _ _⟩
    ·cases hc
   ·cases hc
  ·
   split at hc
   ·split at hc
    ·split at hc
     ·split at hc
      ·cases hc;cases ht
      ·cases hc
     ·cases hc
    ·cases hc
   ·cases hc
  ·
   split at hc
   ·split at hc
    ·split at hc
     ·cases hc;cases ht
     ·cases hc
    ·cases hc
   ·cases hc
  ·
   cases hc
   simp only [pop] at hp
   split at hp
   ·rename_i x r h1
    have hv:=evs_sim (β:=β) (E:=E) (a:=a) (xs:=args.toList) (fun y hy=>hok y hy) h1
    generalize hu:args.toList.map a.eval=us at hv
    cases hv with
    | cons hx hr=>
      obtain ⟨v',r1,r2⟩:=foldMax hp hx hr w
      refine ⟨v',?_,r2⟩
      simp only [execOp,resolve,invoke,builtin,Sem.run_bind,Sem.run_pure,Result.andThen_ok,Builtin.max_,Array.toList_map,hu]
      rw [r1]
      rfl
   ·cases hp
  ·
   cases hc
   simp only [pop] at hp
   split at hp
   ·rename_i x r h1
    have hv:=evs_sim (β:=β) (E:=E) (a:=a) (xs:=args.toList) (fun y hy=>hok y hy) h1
    generalize hu:args.toList.map a.eval=us at hv
    cases hv with
    | cons hx hr=>
      obtain ⟨v',r1,r2⟩:=foldMin hp hx hr w
      refine ⟨v',?_,r2⟩
      simp only [execOp,resolve,invoke,builtin,Sem.run_bind,Sem.run_pure,Result.andThen_ok,Builtin.min_,Array.toList_map,hu]
      rw [r1]
      rfl
   ·cases hp
  ·cases hc
 case alloc e=>
  simp only [cop0] at hc
  split at hc<;>first | (cases hc;cases ht) | cases hc
 case box e x=>simp only [cop0,Option.some.injEq] at hc;subst hc;cases ht
 case buildSlice t n ps=>
  simp only [cop0] at hc
  split at hc
  ·split at hc
   ·split at hc
    ·cases hc;cases ht
    ·cases hc
   ·cases hc
  ·cases hc
 case load t x=>
  simp only [cop0] at hc
  split at hc<;>first | (cases hc;cases ht) | cases hc
 case store t x y=>
  simp only [cop0] at hc
  split at hc<;>first | (cases hc;cases ht) | cases hc
 case makeSlice t l c=>
  simp only [cop0] at hc
  split at hc
  ·split at hc
   ·split at hc
    ·cases hc;cases ht
    ·cases hc
   ·cases hc
  ·cases hc
 all_goals (simp only [cop0,reduceCtorEq] at hc)
end
end Go.AL
end
section
set_option linter.unusedSimpArgs false
set_option linter.unusedVariables false
set_option maxHeartbeats 1000000
namespace Go.AL
section
variable {P:Program} {β:BM} {E:Env} {a:Act} {H:AH} {w:World}
theorem hop_ap {i:IOp} {v:Value} {H1:AH} (h:hop E H i=some (v,H1)):AP H H1:=by
 cases i<;>simp only [hop,cond_eq_ite] at h
 all_goals (repeat' (split at h))
 all_goals first
  | (cases h;done)
  | (simp only [Option.some.injEq,Prod.mk.injEq] at h;obtain ⟨_,rfl⟩:=h;first
    | exact AP.new _ _
    | exact AP.refl _
    | exact (AP.kill _ _).trans (AP.new _ _)
    | (apply AP.write;assumption;rfl))
theorem blk_cell {id:Nat} {bi:BI} {bk:Blk} {o:Nat} {cs:List Value} (h:Rel P β H w) (hβ:β id=some bi) (hb:H.t.get id=some bk) {n:Nat} (ht:takeCells bk.cells o n=some cs) :
  ∃ ds,VRs β cs ds∧ds.length=n∧∀ j v,ds[j]?=some v→w.cell? ((⟨bi.b,o,none⟩:Addr).add j)=some v:=by
 obtain ⟨c,el,fz,g1,g2⟩:=h.blk id bi bk hβ hb
 obtain ⟨rest,xs,p1,p2⟩:=g2.pre
 obtain ⟨rfl,hl⟩:=takeCells_some ht
 refine ⟨(xs.drop o).take n,(p2.drop o).take n,?_,?_⟩
 ·rw [←((p2.drop o).take n).length];exact hl
 ·intro j v hv
  rw [Addr.add_lit]
  have hj:j<n∧xs[o+j]?=some v:=by
   rw [List.getElem?_take] at hv
   split at hv
   ·rename_i hlt;rw [List.getElem?_drop] at hv;exact ⟨hlt,hv⟩
   ·cases hv
  have:c[o+j]?=some v:=by
   rw [←Array.getElem?_toList,p1,List.getElem?_append_left (List.getElem?_eq_some_iff.1 hj.2).1]
   exact hj.2
  simp [World.cell?,g1,this]
theorem rdSlice_some {n:Nat} {ad:Addr} {cs:List Value} (h:rdSlice H n (some ad)=some cs):(n=0∧cs=[])∨(n≠0∧∃ bk,H.t.get ad.block=some bk∧takeCells bk.cells ad.off n=some cs):=by
 simp only [rdSlice,cond_eq_ite] at h
 split at h
 ·rename_i hn;simp only [Option.some.injEq] at h;exact .inl ⟨Nat.eq_of_beq_eq_true hn,h.symm⟩
 ·rename_i hn
  split at h
  ·cases h
  ·rename_i bk hb;exact .inr ⟨fun e=>by subst e;exact hn rfl,bk,hb,h⟩
theorem rdSlice_none {n:Nat} {cs:List Value} (h:rdSlice H n none=some cs):n=0∧cs=[]:=by
 simp only [rdSlice,cond_eq_ite] at h
 split at h
 ·rename_i hn;simp only [Option.some.injEq] at h;exact ⟨Nat.eq_of_beq_eq_true hn,h.symm⟩
 ·cases h
theorem load_run {t:TypeId} {g:Option Nat} {id:Nat} {bi:BI} {bk:Blk} {o:Nat} {v:Value} (hg:aggOf P t=some g) (h:Rel P β H w) (hβ:β id=some bi) (hb:H.t.get id=some bk) (hp:part g bk.cells o=some v) :
  ∃ v',(loadVar t ⟨bi.b,o,none⟩).run P w=.ok v' w∧VR β v v':=by
 obtain ⟨d,i,hu,hi,hh⟩:=aggOf_some hg
 cases g with
 | none=>
   obtain ⟨_,hr⟩:=hh
   simp only [part] at hp
   obtain ⟨c,el,fz,g1,g2⟩:=h.blk id bi bk hβ hb
   obtain ⟨rest,xs,p1,p2⟩:=g2.pre
   obtain ⟨v',e1,e2⟩:=p2.get hp
   have:c[o]?=some v':=by
    rw [←Array.getElem?_toList,p1,List.getElem?_append_left (List.getElem?_eq_some_iff.1 e1).1]
    exact e1
   exact ⟨v',by simp [loadVar,hr,World.cell?,g1,this],e2⟩
 | some n=>
   obtain ⟨hn,hr⟩:=hh
   simp only [part] at hp
   cases ht:takeCells bk.cells o n with
   | none=>simp [ht] at hp
   | some r=>
     simp only [ht,Option.some.injEq] at hp
     subst hp
     obtain ⟨ds,d1,d2,d3⟩:=blk_cell h hβ hb ht
     have hl:=run_loadCells_list (P:=P) w ⟨bi.b,o,none⟩ ds d3
     rw [d2] at hl
     refine ⟨.agg ⟨ds⟩,?_,.agg d1⟩
     simp [loadVar,hr,sizeOf,typeInfo,hi,←hn,hl]
theorem store_run {s:Nat} {t:TypeId} {id:Nat} {bi:BI} {bk:Blk} {o:Nat} {vs cs:List Value} {u:Value} (hs:tsz P t=some s) (h:Rel P β H w) (hβ:β id=some bi) (hb:H.t.get id=some bk) (hk:bk.kind≠1)
  (hp:putCells bk.cells o vs=some cs) (hv:VRs β vs u.cells.toList) (hl:vs.length=s) (hsc:vs.all scalar=true) :
  ∃ w',(storeVar t ⟨bi.b,o,none⟩ u).run P w=.ok () w'∧Post P β H w β (H.write id { bk with cells:=cs }) w':=by
 obtain ⟨c,el,fz,g1,g2⟩:=h.blk id bi bk hβ hb
 obtain ⟨rest,xs,p1,p2⟩:=g2.pre
 obtain rfl:=g2.rw hk
 obtain ⟨i,hi1,hi2⟩:=tsz_some hs
 obtain ⟨hle,rfl⟩:=putCells_some hp
 have hlen:=hv.length
 have hsz:u.cells.size=s:=by rw [←hl,hlen];simp
 have hxl:=p2.length
 have hcs:c.size=xs.length+rest.length:=by rw [←Array.length_toList,p1,List.length_append]
 have hst:=run_storeCells_at P bi.b o el u.cells.toList 0 c w g1 (by rw [hlen] at hle;omega) (hv.oneCell hsc)
 refine ⟨_,?_,Post.write (c':=(c.toList.take (o+0)++u.cells.toList++c.toList.drop (o+0+u.cells.toList.length)).toArray) h hb hβ hk g1 ?_ ?_⟩
 ·have hst':=hst
  simp only [Nat.add_zero] at hst' ⊢
  simp only [storeVar,sizeOf,typeInfo,Sem.run_bind,run_program,Result.andThen_ok,hi1,Sem.run_pure,hsz,hi2,ne_eq,not_true_eq_false,if_false,hst']
 ·rw [hlen] at hle
  simp at hle ⊢
  omega
 ·rw [hlen] at hle ⊢
  refine ⟨rest,xs.take o++(u.cells.toList++xs.drop (o+u.cells.toList.length)),?_,VRs.append (p2.take _) (VRs.append hv (p2.drop _))⟩
  simp only [Nat.add_zero,p1]
  rw [List.take_append_of_le_length (by omega),List.drop_append_of_le_length (by omega)]
  simp
end
end Go.AL
end
