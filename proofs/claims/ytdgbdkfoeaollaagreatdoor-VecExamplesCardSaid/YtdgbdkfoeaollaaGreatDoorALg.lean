/- An interpreter of Go code over a heap of its own, and the proof that the model does what it does (part g). -/
import Derived.Test.YtdgbdkfoeaollaaGreatDoorALd
section
set_option linter.unusedVariables false
namespace Go.SX
open Go.AL
inductive SV where
 | v (x:Value)
 | i (k:IntKind) (x:Int)
 | n (k:IntKind) (x:Nat)
 | b (x:Bool)
 | kb (x:Bool)
 | nil
 | u (l:List Int)
 | bl (l:List Bool)
 | r (e:Nat) (cs:List SV)
 | p (cs:List SV)
 | g (k:Nat)
 | s (i:Nat)
 | ss (i:Nat) (off len:Int)
 | si (i:Nat) (ix:Int)
 | o (i off:Nat)
 | os (i off n e:Nat)
 | a (l:List SV)
 | t (l:List SV)
 | f (k:Nat) (fs cs:List SV)
 | fq (k:Nat) (fs cs:List SV)
 | any
inductive Obj where
 | dead
 | e
 | u (l:List Int)
 | b (l:List Bool)
 | x (cs:List SV)
structure St where
 env:T SV
 objs:List Obj
structure Sg where
 ar:BinOp→IntKind→Int→Int→Int
 sh:BinOp→IntKind→Int→Int→Int
 cmp:BinOp→Int→Int→Bool
 un:UnOp→IntKind→Int→Int
 cv:IntKind→Int→Int
 ng:Bool→Bool
 beq:BinOp→Bool→Bool→Bool
 and:Bool→Bool→Bool
 mx:Int→Int→Int
 mn:Int→Int→Int
 sb:Int→Int→Int
 pl:Int→Int→Int
 lu:List Int→Int
 lb:List Bool→Int
 gu:List Int→Int→Int
 gb:List Bool→Int→Bool
 su:List Int→Int→Int→List Int
 sbl:List Bool→Int→Bool→List Bool
 du:List Int→Int→List Int
 tu:List Int→Int→List Int
 db:List Bool→Int→List Bool
 tbl:List Bool→Int→List Bool
 ru:Int→List Int
 rb:Int→List Bool
 apu:List Int→List Int→List Int
 apb:List Bool→List Bool→List Bool
 cp:List Int→Int→List Int→List Int
 sg:ByteArray→Int→Int
 sl:ByteArray→Int
 ix:Int→Int→Prop
 le:Int→Int→Prop
 ne0:Int→Prop
 nn:Int→Prop
 mk0:Int→Prop
 ap:Int→Int→Prop
 nl:List Int→Prop→Prop
 nlb:List Bool→Prop→Prop
 ite:Bool→Prop→Prop→Prop
 okd:List Nat→List (Bool×Bool)→Prop
 lp:IC→St→(Ctl→St→Prop)→Prop
 cl:SV→List SV→St→(SV→St→Bool→Prop)→Prop
def St.put (s:St) (d:Option Nat) (x:SV):St:=match d with
 | none=>s
 | some d=>⟨s.env.set d x,s.objs⟩
def ofC:Value→SV
 | .int k x=>(match x with
   | .ofNat m=>.n k m
   | .negSucc m=>.i k (.negSucc m))
 | .bool b=>.kb b
 | .slice a l c=>(match a with
   | none=>bif (l.beq 0&&c.beq 0) then .nil else .v (.slice none l c)
   | some a=>.v (.slice (some a) l c))
 | x=>.v x
def sev (E:T SV):Operand→Option SV
 | .tmp t=>E.get t
 | .const v=>some (ofC v)
 | .global g=>some (.g g)
 | .func f=>some (.f f [] [])
def sevs (E:T SV):List Operand→Option (List SV)
 | []=>some []
 | x::xs=>match sev E x with
   | none=>none
   | some v=>match sevs E xs with
     | none=>none
     | some vs=>some (v::vs)
def sevo (E:T SV):Option Operand→Option (Option SV)
 | none=>some none
 | some x=>match sev E x with
   | none=>none
   | some v=>some (some v)
def asI:SV→Option (IntKind×Int)
 | .i k x=>some (k,x)
 | .n k x=>some (k,.ofNat x)
 | _=>none
def asB:SV→Option Bool
 | .b x=>some x
 | .kb x=>some x
 | _=>none
def kn:IntKind→Nat
 | .i8=>0 | .i16=>1 | .i32=>2 | .i64=>3 | .u8=>4 | .u16=>5 | .u32=>6 | .u64=>7
def kq (k k':IntKind):Bool:=(kn k).beq (kn k')
def on {α:Type}:Option α→(α→Prop)→Prop
 | some x,K=>K x
 | none,_=>False
def sel (c:Bool) (P Q:Unit→Prop):Prop:=match c with
 | true=>P ()
 | false=>Q ()
def when (c:Bool) (K:Unit→Prop):Prop:=match c with
 | true=>K ()
 | false=>False
def br (G:Sg) (c:SV) (P Q:Unit→Prop):Prop:=match c with
 | .kb true=>P ()
 | .kb false=>Q ()
 | .b x=>G.ite x (P ()) (Q ())
 | _=>False
def sCells:SV→List SV
 | .a l=>l
 | x=>[x]
def scal:SV→Bool
 | .a _=>false
 | .t _=>false
 | .any=>false
 | .v x=>scalar x
 | _=>true
def sPut (cs:List SV) (off:Nat) (vs:List SV):Option (List SV):=
 bif Nat.ble (off+vs.length) cs.length then some (cs.take off++(vs++cs.drop (off+vs.length))) else none
def noJunk:SV→Bool
 | .any=>false
 | .v x=>scalar x
 | _=>true
def sFill (E:T SV) (cs:List SV):List (Nat×Nat×Operand)→Option (List SV)
 | []=>some cs
 | (off,sz,x)::ps=>match sev E x with
   | none=>none
   | some v=>bif ((sCells v).length.beq sz&&noJunk v) then (match sPut cs off (sCells v) with
     | none=>none
     | some cs=>sFill E cs ps) else none
def sPart (agg:Option Nat) (cs:List SV) (off:Nat):Option SV:=
 match agg with
 | none=>cs[off]?
 | some n=>bif ((cs.drop off).take n).length.beq n then some (.a ((cs.drop off).take n)) else none
def allI (k:IntKind):List SV→Option (List Int)
 | []=>some []
 | x::xs=>match asI x,allI k xs with
   | some (k',a),some as=>bif kq k k' then some (a::as) else none
   | _,_=>none
def allB:List SV→Option (List Bool)
 | []=>some []
 | x::xs=>match asB x,allB xs with
   | some a,some as=>some (a::as)
   | _,_=>none
def lit (op:BinOp) (k:IntKind) (a b:Nat):Option SV:=
 match op with
 | .add=>bif Nat.ble (a+b) 120 then some (.n k (a+b)) else none
 | .sub=>bif Nat.ble b a&&Nat.ble a 120 then some (.n k (a-b)) else none
 | .eql=>some (.kb (a.beq b))
 | .neq=>some (.kb !(a.beq b))
 | .lss=>some (.kb (Nat.blt a b))
 | .leq=>some (.kb (Nat.ble a b))
 | .gtr=>some (.kb (Nat.blt b a))
 | .geq=>some (.kb (Nat.ble b a))
 | _=>none
def eqS (G:Sg):List SV→List SV→Option Bool
 | [],[]=>some true
 | x::xs,y::ys=>match asI x,asI y,eqS G xs ys with
   | some (k,a),some (k',b),some r=>bif kq k k' then some (G.and (G.cmp .eql a b) r) else none
   | _,_,_=>none
 | _,_=>none
def binI (G:Sg) (op:BinOp) (k k':IntKind) (a b:Int) (K:SV→Prop):Prop:=
 match op with
 | .shl=>G.nn b∧K (.i k (G.sh .shl k a b))
 | .shr=>G.nn b∧K (.i k (G.sh .shr k a b))
 | op=>when (kq k k') fun _=>match op with
   | .quo=>G.ne0 b∧K (.i k (G.ar .quo k a b))
   | .rem=>G.ne0 b∧K (.i k (G.ar .rem k a b))
   | .add=>K (.i k (G.ar .add k a b))
   | .sub=>K (.i k (G.ar .sub k a b))
   | .mul=>K (.i k (G.ar .mul k a b))
   | .and=>K (.i k (G.ar .and k a b))
   | .or=>K (.i k (G.ar .or k a b))
   | .xor=>K (.i k (G.ar .xor k a b))
   | .eql=>K (.b (G.cmp .eql a b))
   | .neq=>K (.b (G.cmp .neq a b))
   | .lss=>K (.b (G.cmp .lss a b))
   | .leq=>K (.b (G.cmp .leq a b))
   | .gtr=>K (.b (G.cmp .gtr a b))
   | .geq=>K (.b (G.cmp .geq a b))
   | _=>False
def binO (G:Sg) (tk:Nat) (op:BinOp) (x y:SV) (K:SV→Prop):Prop:=
 match asB x,asB y with
 | some a,some b=>when (tk.beq 1) fun _=>(match op with
   | .eql=>K (.b (G.beq .eql a b))
   | .neq=>K (.b (G.beq .neq a b))
   | _=>False)
 | _,_=>match x,y with
   | .a xs,.a ys=>when (Nat.ble 3 tk&&(xs.length.beq (tk-2)&&ys.length.beq (tk-2))) fun _=>on (eqS G xs ys) fun r=>(match op with
     | .eql=>K (.b r)
     | .neq=>K (.b (G.ng r))
     | _=>False)
   | .u l,.nil=>when (tk.beq 2) fun _=>(match op with
     | .eql=>G.nl l (K (.kb true))∧K (.kb false)
     | .neq=>G.nl l (K (.kb false))∧K (.kb true)
     | _=>False)
   | .bl l,.nil=>when (tk.beq 2) fun _=>(match op with
     | .eql=>G.nlb l (K (.kb true))∧K (.kb false)
     | .neq=>G.nlb l (K (.kb false))∧K (.kb true)
     | _=>False)
   | _,_=>False
def litB (op:BinOp) (a b:Bool):Option SV:=
 match op with
 | .eql=>some (.kb (a == b))
 | .neq=>some (.kb (a != b))
 | _=>none
def binS (G:Sg) (tk:Nat) (op:BinOp) (x y:SV) (K:SV→Prop):Prop:=
 match (match x,y with
  | .n k a,.n k' b=>bif kq k k' then lit op k a b else none
  | .kb a,.kb b=>bif tk.beq 1 then litB op a b else none
  | _,_=>none) with
 | some r=>K r
 | none=>match asI x,asI y with
   | some (k,a),some (k',b)=>binI G op k k' a b K
   | _,_=>binO G tk op x y K
def unS (G:Sg) (op:UnOp) (x:SV) (K:SV→Prop):Prop:=
 match op with
 | .not=>(match x with
   | .kb c=>K (.kb !c)
   | .b c=>K (.b (G.ng c))
   | _=>False)
 | .neg=>on (asI x) fun (k,a)=>K (.i k (G.un .neg k a))
 | .xor=>on (asI x) fun (k,a)=>K (.i k (G.un .xor k a))
 | _=>False
def convS (G:Sg) (k:IntKind) (x:SV) (K:SV→Prop):Prop:=
 match x with
 | .n _ m=>sel (Nat.ble m 120) (fun _=>K (.n k m)) (fun _=>K (.i k (G.cv k (.ofNat m))))
 | .i _ a=>K (.i k (G.cv k a))
 | _=>False
def objAt (s:St) (i:Nat):Obj:=match s.objs[i]? with
 | some o=>o
 | none=>.dead
def sliceS (G:Sg) (s:St) (esz:Nat) (arr:Option Nat) (x:SV) (lo hi mx:Option SV) (K:SV→Prop):Prop:=
 match mx with
 | some _=>False
 | none=>match arr with
   | some n=>(match x,lo,hi with
     | .o i off,none,none=>when (!(n.beq 0)&&Nat.ble 1 esz) fun _=>K (.os i off n esz)
     | _,_,_=>False)
   | none=>when (esz.beq 1) fun _=>match lo,hi with
     | none,none=>False
     | some lo,none=>on (asI lo) fun (_,a)=>(match x with
       | .u l=>G.le a (G.lu l)∧K (.u (G.du l a))
       | .bl l=>G.le a (G.lb l)∧K (.bl (G.db l a))
       | .s i=>(match objAt s i with
         | .u l=>G.le a (G.lu l)∧K (.ss i a (G.sb (G.lu l) a))
         | _=>False)
       | _=>False)
     | none,some hi=>on (asI hi) fun (_,a)=>(match x with
       | .u l=>G.le a (G.lu l)∧K (.u (G.tu l a))
       | .bl l=>G.le a (G.lb l)∧K (.bl (G.tbl l a))
       | .s i=>(match objAt s i with
         | .u l=>G.le a (G.lu l)∧K (.ss i 0 a)
         | _=>False)
       | _=>False)
     | some _,some _=>False
def lenS (G:Sg) (s:St) (str:Bool) (x:SV) (K:SV→Prop):Prop:=
 match x with
 | .v (.string q)=>bif str then K (.i .i64 (G.sl q)) else False
 | .u l=>bif str then False else K (.i .i64 (G.lu l))
 | .bl l=>bif str then False else K (.i .i64 (G.lb l))
 | .nil=>bif str then False else K (.n .i64 0)
 | .s i=>bif str then False else (match objAt s i with
   | .u l=>K (.i .i64 (G.lu l))
   | .b l=>K (.i .i64 (G.lb l))
   | .e=>K (.n .i64 0)
   | _=>False)
 | .ss i _ len=>bif str then False else (match objAt s i with
   | .u _=>K (.i .i64 len)
   | _=>False)
 | .r e cs=>bif str then False else K (.n .i64 (cs.length / e))
 | .os i _ n _=>bif str then False else K (.n .i64 n)
 | _=>False
def foldS (f:Int→Int→Int):Int→List SV→Option Int
 | x,[]=>some x
 | x,y::r=>match asI y with
   | none=>none
   | some (_,b)=>foldS f (f x b) r
def idxS (G:Sg) (tb:List (List Int)) (s:St) (esz:Nat) (arr:Option Nat) (x i:SV) (K:SV→Prop):Prop:=
 match arr with
 | none=>(match x with
   | .u l=>when (esz.beq 1) fun _=>on (asI i) fun (_,a)=>G.ix a (G.lu l)∧K (.p [.i .u8 (G.gu l a)])
   | .bl l=>when (esz.beq 1) fun _=>on (asI i) fun (_,a)=>G.ix a (G.lb l)∧K (.p [.b (G.gb l a)])
   | .s j=>when (esz.beq 1) fun _=>on (asI i) fun (_,a)=>(match objAt s j with
     | .u l=>G.ix a (G.lu l)∧K (.si j a)
     | .b l=>G.ix a (G.lb l)∧K (.si j a)
     | _=>False)
   | .r e cs=>(match i with
     | .n _ j=>when (esz.beq e&&Nat.ble ((j+1)*e) cs.length&&Nat.ble 1 e) fun _=>K (.p (cs.drop (j*e)))
     | _=>False)
   | .os q off n e=>(match i with
     | .n _ j=>when (esz.beq e&&Nat.blt j n) fun _=>K (.o q (off+j*e))
     | _=>False)
   | _=>False)
 | some n=>(match x with
   | .o q off=>(match i with
     | .n _ j=>when (Nat.blt j n) fun _=>K (.o q (off+j*esz))
     | _=>False)
   | .p cs=>(match i with
     | .n _ j=>when (Nat.blt j n) fun _=>K (.p (cs.drop (j*esz)))
     | _=>False)
   | .g k=>on (asI i) fun (_,a)=>on tb[k]? fun l=>when (esz.beq 1) fun _=>G.ix a (.ofNat n)∧G.ix a (G.lu l)∧K (.p [.i .u8 (G.gu l a)])
   | _=>False)
def loadS (G:Sg) (s:St) (agg:Option Nat) (x:SV) (K:SV→Prop):Prop:=
 match x with
 | .p cs=>on (sPart agg cs 0) K
 | .o i off=>(match objAt s i with
   | .x cs=>on (sPart agg cs off) K
   | _=>False)
 | .si i a=>when agg.isNone fun _=>(match objAt s i with
   | .u l=>G.ix a (G.lu l)∧K (.i .u8 (G.gu l a))
   | .b l=>G.ix a (G.lb l)∧K (.b (G.gb l a))
   | _=>False)
 | _=>False
def St.setO (s:St) (i:Nat) (o:Obj):St:=⟨s.env,s.objs.set i o⟩
def St.add (s:St) (o:Obj):St:=⟨s.env,s.objs++[o]⟩
def storeS (G:Sg) (s:St) (sz:Nat) (x y:SV) (K:St→Prop):Prop:=
 match x with
 | .o i off=>(match objAt s i with
   | .x cs=>when ((sCells y).length.beq sz&&(sCells y).all scal) fun _=>on (sPut cs off (sCells y)) fun cs'=>K (s.setO i (.x cs'))
   | _=>False)
 | .si i a=>when (sz.beq 1) fun _=>(match objAt s i with
   | .u l=>on (asI y) fun (k,c)=>when (kq k .u8) fun _=>G.ix a (G.lu l)∧K (s.setO i (.u (G.su l a c)))
   | .b l=>on (asB y) fun c=>G.ix a (G.lb l)∧K (s.setO i (.b (G.sbl l a c)))
   | _=>False)
 | _=>False
def buildS (s:St) (zero:List Value) (len:Nat) (ps:List (Nat×Nat×Operand)) (K:SV→St→Prop):Prop:=
 on (sFill s.env (zero.map ofC) ps) fun cs=>match zero with
  | []=>when (len.beq 0&&cs.length.beq 0) fun _=>K (.s s.objs.length) (s.add .e)
  | .int k _::_=>sel (len.beq cs.length) (fun _=>when (kq k .u8) fun _=>on (allI k cs) fun l=>K (.s s.objs.length) (s.add (.u l)))
    (fun _=>when (Nat.ble 1 (cs.length / len)) fun _=>K (.os s.objs.length 0 len (cs.length / len)) (s.add (.x cs)))
  | .bool _::_=>when (len.beq cs.length) fun _=>on (allB cs) fun l=>K (.s s.objs.length) (s.add (.b l))
  | _=>when (Nat.ble 1 (cs.length / len)) fun _=>K (.os s.objs.length 0 len (cs.length / len)) (s.add (.x cs))
def makeS (G:Sg) (s:St) (zero:List Value) (l c:SV) (K:SV→St→Prop):Prop:=
 on (asI l) fun (_,a)=>on (asI c) fun (_,a')=>match zero with
  | [.int k z]=>when (kq k .u8&&(match z with
    | .ofNat 0=>true
    | _=>false)) fun _=>G.mk0 a∧a'=a∧K (.s s.objs.length) (s.add (.u (G.ru a)))
  | [.bool false]=>G.mk0 a∧a'=a∧K (.s s.objs.length) (s.add (.b (G.rb a)))
  | _=>False
inductive Ls where
 | u (l:List Int)
 | b (l:List Bool)
def lsOf (G:Sg) (s:St):SV→Option Ls
 | .u l=>some (.u l)
 | .bl l=>some (.b l)
 | .nil=>some (.u [])
 | .s i=>(match objAt s i with
   | .u l=>some (.u l)
   | .b l=>some (.b l)
   | .e=>some (.u [])
   | _=>none)
 | .ss i off len=>(match objAt s i with
   | .u l=>some (.u (G.tu (G.du l off) len))
   | _=>none)
 | _=>none
mutual
def men (i:Nat):SV→Bool
 | .s j=>j.beq i
 | .ss j _ _=>j.beq i
 | .si j _=>j.beq i
 | .o j _=>j.beq i
 | .os j _ _ _=>j.beq i
 | .r _ cs=>menL i cs
 | .p cs=>menL i cs
 | .a l=>menL i l
 | .t l=>menL i l
 | .f _ fs cs=>menL i fs||menL i cs
 | _=>false
def menL (i:Nat):List SV→Bool
 | []=>false
 | x::xs=>men i x||menL i xs
end
def forgetV (i:Nat) (x:SV):SV:=bif men i x then .any else x
def forgetT (i:Nat):T SV→T SV
 | .nil=>.nil
 | .node v l r=>.node (match v with
   | none=>none
   | some x=>some (forgetV i x)) (forgetT i l) (forgetT i r)
def forgetO (i:Nat):Obj→Obj
 | .x cs=>.x (cs.map (forgetV i))
 | o=>o
def St.renew (s:St) (i:Nat) (o:Obj):St:=⟨forgetT i s.env,(s.objs.map (forgetO i)).set i o⟩
def appendS (G:Sg) (s:St) (x y:SV) (K:SV→St→Bool→Prop):Prop:=
 on (lsOf G s y) fun m=>match x with
  | .nil=>(match m with
    | .u m=>G.ap 0 (G.lu m)∧K (.s s.objs.length) (s.add (.u m)) true
    | .b m=>G.ap 0 (G.lb m)∧K (.s s.objs.length) (s.add (.b m)) true)
  | .s i=>(match objAt s i,m with
    | .u l,.u m=>G.ap (G.lu l) (G.lu m)∧K (.s i) (s.renew i (.u (G.apu l m))) true
    | .b l,.b m=>G.ap (G.lb l) (G.lb m)∧K (.s i) (s.renew i (.b (G.apb l m))) true
    | .e,.u m=>G.ap 0 (G.lu m)∧K (.s i) (s.renew i (.u m)) false
    | .e,.b m=>G.ap 0 (G.lb m)∧K (.s i) (s.renew i (.b m)) false
    | _,_=>False)
  | _=>False
def copyS (G:Sg) (s:St) (x y:SV) (K:SV→St→Prop):Prop:=
 on (lsOf G s y) fun m=>match m with
  | .u m=>(match x with
    | .s i=>(match objAt s i with
      | .u l=>K (.i .i64 (G.mn (G.lu m) (G.lu l))) (s.setO i (.u (G.cp l 0 (G.tu m (G.mn (G.lu m) (G.lu l))))))
      | _=>False)
    | .ss i off len=>(match objAt s i with
      | .u l=>K (.i .i64 (G.mn (G.lu m) len)) (s.setO i (.u (G.cp l off (G.tu m (G.mn (G.lu m) len)))))
      | _=>False)
    | _=>False)
  | _=>False
def Wop (G:Sg) (tb:List (List Int)) (op:IOp) (s:St) (K:SV→St→Bool→Prop):Prop:=
 match op with
 | .mov x=>on (sev s.env x) fun v=>K v s false
 | .pick c a b=>on (sev s.env c) fun c=>br G c (fun _=>on (sev s.env a) fun v=>K v s false) (fun _=>on (sev s.env b) fun v=>K v s false)
 | .build zero ps=>on (sFill s.env (zero.map ofC) ps) fun cs=>K (.a cs) s false
 | .bin tk op x y=>on (sev s.env x) fun x=>on (sev s.env y) fun y=>binS G tk op x y fun v=>K v s false
 | .un op x=>on (sev s.env x) fun x=>unS G op x fun v=>K v s false
 | .conv k x=>on (sev s.env x) fun x=>convS G k x fun v=>K v s false
 | .clo fn fs cs=>on (sevs s.env fs) fun fs=>on (sevs s.env cs) fun cs=>(match fn with
   | .func k=>K (.f k fs cs) s false
   | _=>False)
 | .slice esz arr x lo hi mx=>on (sev s.env x) fun x=>on (sevo s.env lo) fun lo=>on (sevo s.env hi) fun hi=>on (sevo s.env mx) fun mx=>sliceS G s esz arr x lo hi mx fun v=>K v s false
 | .fieldAddr off x=>on (sev s.env x) fun x=>(match x with
   | .o i o=>K (.o i (o+off)) s false
   | .p cs=>K (.p (cs.drop off)) s false
   | _=>False)
 | .field agg off x=>on (sev s.env x) fun x=>(match x with
   | .a cs=>on (sPart agg cs off) fun v=>K v s false
   | _=>False)
 | .indexAddr esz arr x i=>on (sev s.env x) fun x=>on (sev s.env i) fun i=>idxS G tb s esz arr x i fun v=>K v s false
 | .index esz agg n x i=>on (sev s.env x) fun x=>on (sev s.env i) fun i=>(match x,i with
   | .a cs,.n _ j=>when (Nat.blt j n) fun _=>on (sPart agg cs (j*esz)) fun v=>K v s false
   | _,_=>False)
 | .strIndex x i=>on (sev s.env x) fun x=>on (sev s.env i) fun i=>on (asI i) fun (_,a)=>(match x with
   | .v (.string q)=>G.ix a (G.sl q)∧K (.i .u8 (G.sg q a)) s false
   | _=>False)
 | .extract x j=>on (sev s.env x) fun x=>(match x with
   | .t l=>on l[j]? fun v=>K v s false
   | _=>False)
 | .len str x=>on (sev s.env x) fun x=>lenS G s str x fun v=>K v s false
 | .lenArr n=>K (.n .i64 n) s false
 | .max xs=>on (sevs s.env xs) fun xs=>(match xs with
   | x::r=>on (asI x) fun (k,a)=>on (foldS G.mx a r) fun c=>K (.i k c) s false
   | _=>False)
 | .min xs=>on (sevs s.env xs) fun xs=>(match xs with
   | x::r=>on (asI x) fun (k,a)=>on (foldS G.mn a r) fun c=>K (.i k c) s false
   | _=>False)
 | .new zero=>K (.o s.objs.length 0) (s.add (.x (zero.map ofC))) false
 | .box x=>on (sev s.env x) fun x=>when (noJunk x) fun _=>K (.o s.objs.length 0) (s.add (.x (sCells x))) false
 | .buildSlice zero len ps=>buildS s zero len ps fun v s=>K v s false
 | .load agg x=>on (sev s.env x) fun x=>loadS G s agg x fun v=>K v s false
 | .store sz x y=>on (sev s.env x) fun x=>on (sev s.env y) fun y=>storeS G s sz x y fun s=>K (.t []) s true
 | .make esz _ zero l c=>on (sev s.env l) fun l=>on (sev s.env c) fun c=>when (esz.beq 1) fun _=>makeS G s zero l c fun v s=>K v s false
 | .append esz _ x y=>on (sev s.env x) fun x=>on (sev s.env y) fun y=>when (esz.beq 1) fun _=>appendS G s x y K
 | .copy esz x y=>on (sev s.env x) fun x=>on (sev s.env y) fun y=>when (esz.beq 1) fun _=>copyS G s x y fun v s=>K v s true
 | .call f args=>on (sev s.env f) fun f=>on (sevs s.env args) fun vs=>G.cl f vs s K
def WO (G:Sg) (tb:List (List Int)):List IOper→St→List (Bool×Bool)→(St→List (Bool×Bool)→Prop)→Prop
 | [],s,fl,K=>K s fl.reverse
 | o::os,s,fl,K=>
   match o.guard with
   | none=>Wop G tb o.op s fun v s' w=>WO G tb os (s'.put o.dst v) ((o.op.touch,w)::fl) K
   | some (t,c)=>match s.env.get t with
     | some (.kb x)=>sel (c == x) (fun _=>Wop G tb o.op s fun v s' w=>WO G tb os (s'.put o.dst v) ((o.op.touch,w)::fl) K) (fun _=>WO G tb os (s.put o.dst (.t [])) ((false,false)::fl) K)
     | some (.b x)=>sel c (fun _=>
       G.ite x (Wop G tb o.op (s.put (some t) (.kb true)) fun v s' w=>WO G tb os (s'.put o.dst v) ((o.op.touch,w)::fl) K) (WO G tb os ((s.put (some t) (.kb false)).put o.dst (.t [])) ((false,false)::fl) K))
       (fun _=>
        G.ite x (WO G tb os ((s.put (some t) (.kb true)).put o.dst (.t [])) ((false,false)::fl) K) (Wop G tb o.op (s.put (some t) (.kb false)) fun v s' w=>WO G tb os (s'.put o.dst v) ((o.op.touch,w)::fl) K))
     | some (.t [])=>WO G tb os (s.put o.dst (.t [])) ((false,false)::fl) K
     | _=>False
def tellC (x:Operand) (c:Bool) (s:St):St:=match x with
 | .tmp t=>s.put (some t) (.kb c)
 | _=>s
def seqK (wb:St→(Ctl→St→Prop)→Prop) (k:Ctl→St→Prop) (c:Ctl) (s:St):Prop:=match c with
 | .normal=>wb s k
 | .exit id=>k (.exit id) s
 | .ret=>k .ret s
def blockK (id:Nat) (k:Ctl→St→Prop) (c:Ctl) (s:St):Prop:=match c with
 | .exit j=>k (bif j.beq id then .normal else .exit j) s
 | .normal=>k .normal s
 | .ret=>k .ret s
def regK (G:Sg) (dr:Bool) (bits:List Nat) (k:Ctl→St→Prop) (s:St) (fl:List (Bool×Bool)):Prop:=
 sel dr (fun _=>G.okd bits fl∧k .normal s) (fun _=>k .normal s)
def W (G:Sg) (tb:List (List Int)):IC→St→(Ctl→St→Prop)→Prop
 | .skip,s,k=>k .normal s
 | .region dr ops bits,s,k=>WO G tb ops s [] (regK G dr bits k)
 | .seq a b,s,k=>W G tb a s (seqK (W G tb b) k)
 | .cond x a b,s,k=>on (sev s.env x) fun c=>match c with
   | .kb true=>W G tb a s k
   | .kb false=>W G tb b s k
   | .b q=>G.ite q (W G tb a (tellC x true s) k) (W G tb b (tellC x false s) k)
   | _=>False
 | .block id b,s,k=>W G tb b s (blockK id k)
 | .loop b,s,k=>G.lp b s k
 | .exit id,s,k=>k (.exit id) s
 | .ret,s,k=>k .ret s
end Go.SX
end
section
set_option linter.unusedVariables false
set_option linter.unusedSimpArgs false
namespace Go.SX
open Go.AL
def RdC (A:Nat→Prop) (H:AH) (ad:Addr) (vs:List Value):Prop:=
 ∃ bk,ad.block<H.n∧¬ A ad.block∧H.t.get ad.block=some bk∧∀ i v,vs[i]?=some v→bk.cells[ad.off+i]?=some v
def RdS (A:Nat→Prop) (H:AH) (w:Value) (cs:List Value):Prop:=
 ∃ a cap,w=.slice a cs.length cap∧(cap=UC∨cs.length≤cap)∧(cs≠[]→∃ ad,a=some ad∧RdC A H ad cs)
def boolV (l:List Bool):List Value:=l.map .bool
def intV (l:List Int):List Value:=l.map uv
mutual
def Den (A:Nat→Prop) (m:List Value) (H:AH):SV→Value→Prop
 | .v x,w=>w=x
 | .i k x,w=>w=.int k x
 | .n k x,w=>w=.int k (.ofNat x)
 | .b x,w=>w=.bool x
 | .kb x,w=>w=.bool x
 | .nil,w=>w=.slice none 0 0
 | .u l,w=>RdS A H w (intV l)
 | .bl l,w=>RdS A H w (boolV l)
 | .r e cs,w=>∃ a n cap vs,w=.slice a n cap∧cs.length=n*e∧1≤e∧DenL A m H cs vs∧(vs≠[]→∃ ad,a=some ad∧RdC A H ad vs)
 | .p cs,w=>∃ ad vs,w=.pointer (some ad)∧DenL A m H cs vs∧RdC A H ad vs
 | .g k,w=>w=.pointer (some ⟨k,0,none⟩)
 | .s i,w=>m[i]?=some w∧∃ a n c,w=.slice a n c
 | .ss i off len,w=>∃ a n c a' c',m[i]?=some (.slice a n c)∧w=.slice a' len.toNat c'∧0≤off∧0≤len∧off.toNat+len.toNat≤n∧(c'=UC∨len.toNat≤c')∧(len≠0→∃ id,a=some ⟨id,0,none⟩∧a'=some ⟨id,off.toNat,none⟩)
 | .si i ix,w=>∃ id n c,m[i]?=some (.slice (some ⟨id,0,none⟩) n c)∧w=.pointer (some ⟨id,ix.toNat,none⟩)
 | .o i off,w=>∃ id,m[i]?=some (.pointer (some ⟨id,0,none⟩))∧w=.pointer (some ⟨id,off,none⟩)
 | .os i off n e,w=>∃ id c,m[i]?=some (.pointer (some ⟨id,0,none⟩))∧w=.slice (some ⟨id,off,none⟩) n c∧1≤e
 | .a l,w=>∃ vs,w=.agg ⟨vs⟩∧DenL A m H l vs
 | .t l,w=>∃ vs,w=.tuple ⟨vs⟩∧DenL A m H l vs
 | .f k fs cs,w=>∃ vf vc,w=.func (.func k) ⟨vf⟩ ⟨vc⟩∧DenL A m H fs vf∧DenL A m H cs vc
 | .fq k fs cs,w=>∃ vf vc,w=.func (.func k) ⟨vf⟩ ⟨vc⟩∧DenL A [] H fs vf∧DenL A [] H cs vc
 | .any,_=>True
def DenL (A:Nat→Prop) (m:List Value) (H:AH):List SV→List Value→Prop
 | [],ws=>ws=[]
 | x::xs,ws=>∃ w ws',ws=w::ws'∧Den A m H x w∧DenL A m H xs ws'
end
def blkOf:Value→Option Nat
 | .slice (some a) _ _=>some a.block
 | .pointer (some a)=>some a.block
 | _=>none
def OwS (H:AH) (w:Value) (cs:List Value):Prop:=
 (w=.slice none 0 0∧cs=[])∨∃ id c kd,w=.slice (some ⟨id,0,none⟩) cs.length c∧((c=UC∧kd=3)∨(c=cs.length∧kd=0))∧id<H.n∧H.t.get id=some ⟨cs,kd⟩
def ObjOk (A:Nat→Prop) (m:List Value) (H:AH) (w:Value):Obj→Prop
 | .dead=>True
 | .e=>∃ id,w=.slice (some ⟨id,0,none⟩) 0 0∧id<H.n∧H.t.get id=some ⟨[],0⟩
 | .u l=>OwS H w (intV l)
 | .b l=>OwS H w (boolV l)
 | .x cs=>∃ id vs,w=.pointer (some ⟨id,0,none⟩)∧id<H.n∧H.t.get id=some ⟨vs,0⟩∧DenL A m H cs vs
def Own (m:List Value) (objs:List Obj) (id:Nat):Prop:=∃ (i:Nat) (o:Obj) (v:Value),objs[i]?=some o∧o≠.dead∧m[i]?=some v∧blkOf v=some id
structure Obs (m:List Value) (objs:List Obj) (H:AH):Prop where
 len:m.length=objs.length
 ok:∀ (i:Nat) (o:Obj) (v:Value),objs[i]?=some o→m[i]?=some v→ObjOk (Own m objs) m H v o
 dis:∀ (i j:Nat) (o o':Obj) (v v':Value) (id:Nat),objs[i]?=some o→o≠.dead→objs[j]?=some o'→o'≠.dead→m[i]?=some v→m[j]?=some v'→blkOf v=some id→blkOf v'=some id→i=j
structure Frm (D:Nat→Prop) (B H:AH):Prop where
 n:B.n≤H.n
 get:∀ id,id<B.n→¬ D id→H.t.get id=B.t.get id
 wl:∀ x,x≤B.wl→x≤B.n→(∀ id,D id→x≤id)→x≤H.wl
def Gl (tb:List (List Int)) (H:AH):Prop:=∀ k l,tb[k]?=some l→k<H.n∧H.t.get k=some ⟨intV l,1⟩
structure Bs where
 d:Nat→Prop
 m0:Nat→Option Value
structure Sat (tb:List (List Int)) (B:AH) (D:Bs) (m:List Value) (s:St) (E:Env) (H:AH):Prop where
 obs:Obs m s.objs H
 own:∀ id,Own m s.objs id→B.n≤id∨D.d id
 env:∀ t x,s.env.get t=some x→∃ w,E.get t=some w∧Den (Own m s.objs) m H x w
 fr:Frm D.d B H
 fix:∀ i v,D.m0 i=some v→m[i]?=some v∧∃ cs,s.objs[i]?=some (.x cs)
 gl:Gl tb H
theorem RdC.mono {A A':Nat→Prop} {H H':AH} {ad:Addr} {vs:List Value} (hA:∀ id,id<H.n→A' id→A id) (hn:H.n≤H'.n) (hg:∀ id,id<H.n→¬ A id→H'.t.get id=H.t.get id) (h:RdC A H ad vs):RdC A' H' ad vs:=by
 obtain ⟨bk,h1,h2,h3,h4⟩:=h
 exact ⟨bk,Nat.lt_of_lt_of_le h1 hn,fun h=>h2 (hA _ h1 h),by rw [hg _ h1 h2];exact h3,h4⟩
theorem RdS.mono {A A':Nat→Prop} {H H':AH} {w:Value} {vs:List Value} (hA:∀ id,id<H.n→A' id→A id) (hn:H.n≤H'.n) (hg:∀ id,id<H.n→¬ A id→H'.t.get id=H.t.get id) (h:RdS A H w vs):RdS A' H' w vs:=by
 obtain ⟨a,cap,h1,h2,h3⟩:=h
 exact ⟨a,cap,h1,h2,fun h=>(h3 h).imp fun ad h=>⟨h.1,h.2.mono hA hn hg⟩⟩
mutual
theorem Den.mono {A A':Nat→Prop} {m m':List Value} {H H':AH} (hA:∀ id,id<H.n→A' id→A id) (hn:H.n≤H'.n) (hg:∀ id,id<H.n→¬ A id→H'.t.get id=H.t.get id) :
  ∀ (x:SV) (w:Value),(∀ j v,men j x=true→m[j]?=some v→m'[j]?=some v)→Den A m H x w→Den A' m' H' x w
 | .v x,w,hm,h=>h
 | .i k x,w,hm,h=>h
 | .n k x,w,hm,h=>h
 | .b x,w,hm,h=>h
 | .kb x,w,hm,h=>h
 | .nil,w,hm,h=>h
 | .u l,w,hm,h=>RdS.mono hA hn hg h
 | .bl l,w,hm,h=>RdS.mono hA hn hg h
 | .r e cs,w,hm,h=>by
   simp only [Den] at h ⊢
   obtain ⟨a,n,cap,vs,h1,h2,h3,h4,h5⟩:=h
   exact ⟨a,n,cap,vs,h1,h2,h3,DenL.mono hA hn hg cs vs (fun j v hj=>hm j v (by simpa only [men] using hj)) h4,fun h=>(h5 h).imp fun ad h=>⟨h.1,h.2.mono hA hn hg⟩⟩
 | .p cs,w,hm,h=>by
   simp only [Den] at h ⊢
   obtain ⟨ad,vs,h1,h2,h3⟩:=h
   exact ⟨ad,vs,h1,DenL.mono hA hn hg cs vs (fun j v hj=>hm j v (by simpa only [men] using hj)) h2,h3.mono hA hn hg⟩
 | .g k,w,hm,h=>h
 | .s i,w,hm,h=>by
   simp only [Den] at h ⊢
   exact ⟨hm i w (by simp [men]) h.1,h.2⟩
 | .ss i off len,w,hm,h=>by
   simp only [Den] at h ⊢
   obtain ⟨a,n,c,a',c',h1,h2⟩:=h
   exact ⟨a,n,c,a',c',hm i _ (by simp [men]) h1,h2⟩
 | .si i ix,w,hm,h=>by
   simp only [Den] at h ⊢
   obtain ⟨id,n,c,h1,h2⟩:=h
   exact ⟨id,n,c,hm i _ (by simp [men]) h1,h2⟩
 | .o i off,w,hm,h=>by
   simp only [Den] at h ⊢
   obtain ⟨id,h1,h2⟩:=h
   exact ⟨id,hm i _ (by simp [men]) h1,h2⟩
 | .os i off n e,w,hm,h=>by
   simp only [Den] at h ⊢
   obtain ⟨id,c,h1,h2⟩:=h
   exact ⟨id,c,hm i _ (by simp [men]) h1,h2⟩
 | .a l,w,hm,h=>by
   simp only [Den] at h ⊢
   obtain ⟨vs,h1,h2⟩:=h
   exact ⟨vs,h1,DenL.mono hA hn hg l vs (fun j v hj=>hm j v (by simpa only [men] using hj)) h2⟩
 | .t l,w,hm,h=>by
   simp only [Den] at h ⊢
   obtain ⟨vs,h1,h2⟩:=h
   exact ⟨vs,h1,DenL.mono hA hn hg l vs (fun j v hj=>hm j v (by simpa only [men] using hj)) h2⟩
 | .f k fs cs,w,hm,h=>by
   simp only [Den] at h ⊢
   obtain ⟨vf,vc,h1,h2,h3⟩:=h
   exact ⟨vf,vc,h1,DenL.mono hA hn hg fs vf (fun j v hj=>hm j v (by simp [men,hj])) h2,DenL.mono hA hn hg cs vc (fun j v hj=>hm j v (by simp [men,hj])) h3⟩
 | .fq k fs cs,w,hm,h=>by
   simp only [Den] at h ⊢
   obtain ⟨vf,vc,h1,h2,h3⟩:=h
   exact ⟨vf,vc,h1,DenL.mono hA hn hg fs vf (fun j v _ h=>h) h2,DenL.mono hA hn hg cs vc (fun j v _ h=>h) h3⟩
 | .any,w,hm,h=>h
theorem DenL.mono {A A':Nat→Prop} {m m':List Value} {H H':AH} (hA:∀ id,id<H.n→A' id→A id) (hn:H.n≤H'.n) (hg:∀ id,id<H.n→¬ A id→H'.t.get id=H.t.get id) :
  ∀ (xs:List SV) (ws:List Value),(∀ j v,menL j xs=true→m[j]?=some v→m'[j]?=some v)→DenL A m H xs ws→DenL A' m' H' xs ws
 | [],ws,hm,h=>h
 | x::xs,ws,hm,h=>by
   simp only [DenL] at h ⊢
   obtain ⟨w,ws',h1,h2,h3⟩:=h
   exact ⟨w,ws',h1,Den.mono hA hn hg x w (fun j v hj=>hm j v (by simp [menL,hj])) h2,DenL.mono hA hn hg xs ws' (fun j v hj=>hm j v (by simp [menL,hj])) h3⟩
end
theorem DenL.len {A:Nat→Prop} {m:List Value} {H:AH}:∀ {xs:List SV} {ws:List Value},DenL A m H xs ws→ws.length=xs.length
 | [],ws,h=>by simp only [DenL] at h;subst h;rfl
 | x::xs,ws,h=>by
   simp only [DenL] at h
   obtain ⟨w,ws',rfl,h2,h3⟩:=h
   simp [DenL.len h3]
theorem DenL.get {A:Nat→Prop} {m:List Value} {H:AH}:∀ {xs:List SV} {ws:List Value} {i:Nat} {x:SV},DenL A m H xs ws→xs[i]?=some x→∃ w,ws[i]?=some w∧Den A m H x w
 | [],ws,i,x,h,hx=>by simp at hx
 | y::xs,ws,0,x,h,hx=>by
   simp only [DenL] at h
   obtain ⟨w,ws',rfl,h2,h3⟩:=h
   simp at hx;subst hx
   exact ⟨w,rfl,h2⟩
 | y::xs,ws,i+1,x,h,hx=>by
   simp only [DenL] at h
   obtain ⟨w,ws',rfl,h2,h3⟩:=h
   simpa using h3.get (by simpa using hx)
theorem DenL.app {A:Nat→Prop} {m:List Value} {H:AH}:∀ {xs ys:List SV} {ws vs:List Value},DenL A m H xs ws→DenL A m H ys vs→DenL A m H (xs++ys) (ws++vs)
 | [],ys,ws,vs,h,h'=>by simp only [DenL] at h;subst h;exact h'
 | x::xs,ys,ws,vs,h,h'=>by
   simp only [DenL] at h
   obtain ⟨w,ws',rfl,h2,h3⟩:=h
   exact ⟨w,ws'++vs,rfl,h2,h3.app h'⟩
theorem DenL.drop {A:Nat→Prop} {m:List Value} {H:AH}:∀ {xs:List SV} {ws:List Value} (n:Nat),DenL A m H xs ws→DenL A m H (xs.drop n) (ws.drop n)
 | xs,ws,0,h=>h
 | [],ws,n+1,h=>by simp only [DenL] at h;subst h;simp [DenL]
 | x::xs,ws,n+1,h=>by
   simp only [DenL] at h
   obtain ⟨w,ws',rfl,h2,h3⟩:=h
   simpa using h3.drop n
theorem DenL.take {A:Nat→Prop} {m:List Value} {H:AH}:∀ {xs:List SV} {ws:List Value} (n:Nat),DenL A m H xs ws→DenL A m H (xs.take n) (ws.take n)
 | xs,ws,0,h=>by simp [DenL]
 | [],ws,n+1,h=>by simp only [DenL] at h;subst h;simp [DenL]
 | x::xs,ws,n+1,h=>by
   simp only [DenL] at h
   obtain ⟨w,ws',rfl,h2,h3⟩:=h
   exact ⟨w,ws'.take n,by simp,h2,h3.take n⟩
theorem DenL.sing {A:Nat→Prop} {m:List Value} {H:AH} {x:SV} {w:Value} (h:Den A m H x w):DenL A m H [x] [w]:=⟨w,[],rfl,h,rfl⟩
theorem ObjOk.blk {A:Nat→Prop} {m:List Value} {H:AH} {w:Value} {o:Obj} (h:ObjOk A m H w o) (ho:o≠.dead) {id:Nat} (hb:blkOf w=some id):id<H.n∧∃ bk,H.t.get id=some bk∧bk.kind≠1:=by
 have key:∀ {cs},OwS H w cs→id<H.n∧∃ bk,H.t.get id=some bk∧bk.kind≠1:=by
  rintro cs (⟨rfl,_⟩ | ⟨id',c,kd,rfl,hk,h1,h2⟩)
  ·cases hb
  ·cases hb
   exact ⟨h1,_,h2,by rcases hk with ⟨_,rfl⟩ | ⟨_,rfl⟩<;>simp⟩
 cases o with
 | dead=>exact absurd rfl ho
 | e=>obtain ⟨id',rfl,h1,h2⟩:=h;cases hb;exact ⟨h1,_,h2,by simp⟩
 | u l=>exact key h
 | b l=>exact key h
 | x cs=>obtain ⟨id',vs,rfl,h1,h2,h3⟩:=h;cases hb;exact ⟨h1,_,h2,by simp⟩
theorem Obs.lt {m:List Value} {objs:List Obj} {H:AH} (h:Obs m objs H) {id:Nat} (ho:Own m objs id):id<H.n∧∃ bk,H.t.get id=some bk∧bk.kind≠1:=by
 obtain ⟨i,o,v,h1,h2,h3,h4⟩:=ho
 exact (h.ok i o v h1 h3).blk h2 h4
theorem OwS.same {H H':AH} {w:Value} {cs:List Value} (hn:H.n≤H'.n) (hg:∀ id,blkOf w=some id→H'.t.get id=H.t.get id) (h:OwS H w cs):OwS H' w cs:=by
 rcases h with h | ⟨id,c,kd,rfl,hk,h1,h2⟩
 ·exact .inl h
 ·exact .inr ⟨id,c,kd,rfl,hk,Nat.lt_of_lt_of_le h1 hn,by rw [hg id rfl];exact h2⟩
theorem ObjOk.same {A A':Nat→Prop} {m m':List Value} {H H':AH} {w:Value} {o:Obj} (hA:∀ id,id<H.n→A' id→A id) (hn:H.n≤H'.n) (hg:∀ id,id<H.n→¬ A id→H'.t.get id=H.t.get id)
  (hb:∀ id,blkOf w=some id→H'.t.get id=H.t.get id) (hm:∀ (j:Nat) (v:Value),(match o with | .x cs=>menL j cs | _=>false)=true→m[j]?=some v→m'[j]?=some v) (h:ObjOk A m H w o):ObjOk A' m' H' w o:=by
 cases o with
 | dead=>exact trivial
 | e=>obtain ⟨id,rfl,h1,h2⟩:=h;exact ⟨id,rfl,Nat.lt_of_lt_of_le h1 hn,by rw [hb id rfl];exact h2⟩
 | u l=>exact OwS.same hn hb h
 | b l=>exact OwS.same hn hb h
 | x cs=>obtain ⟨id,vs,rfl,h1,h2,h3⟩:=h;exact ⟨id,vs,rfl,Nat.lt_of_lt_of_le h1 hn,by rw [hb id rfl];exact h2,DenL.mono hA hn hg cs vs hm h3⟩
theorem Obs.adds {m m1:List Value} {objs os:List Obj} {H H':AH} (h:Obs m objs H) (hn:H.n≤H'.n) (hg:∀ id,id<H.n→H'.t.get id=H.t.get id) (hl:m1.length=os.length)
  (hb:∀ (i:Nat) (o:Obj) (v:Value) (id:Nat),os[i]?=some o→o≠.dead→m1[i]?=some v→blkOf v=some id→H.n≤id)
  (hd:∀ (i j:Nat) (o o':Obj) (v v':Value) (id:Nat),os[i]?=some o→o≠.dead→os[j]?=some o'→o'≠.dead→m1[i]?=some v→m1[j]?=some v'→blkOf v=some id→blkOf v'=some id→i=j)
  (ho:∀ (i:Nat) (o:Obj) (v:Value),os[i]?=some o→m1[i]?=some v→ObjOk (Own (m++m1) (objs++os)) (m++m1) H' v o) :
  Obs (m++m1) (objs++os) H'∧∀ id,id<H.n→Own (m++m1) (objs++os) id→Own m objs id:=by
 have split:∀ {i:Nat} {o:Obj} {v:Value},(objs++os)[i]?=some o→(m++m1)[i]?=some v→(objs[i]?=some o∧m[i]?=some v∧i<objs.length)∨(os[i-objs.length]?=some o∧m1[i-objs.length]?=some v∧objs.length≤i):=by
  intro i o v h1 h2
  by_cases hi:i<objs.length
  ·rw [List.getElem?_append_left hi] at h1
   rw [List.getElem?_append_left (by rw [h.len];exact hi)] at h2
   exact .inl ⟨h1,h2,hi⟩
  ·rw [List.getElem?_append_right (by omega)] at h1
   rw [List.getElem?_append_right (by rw [h.len];omega),h.len] at h2
   exact .inr ⟨h1,h2,by omega⟩
 have hA:∀ id,id<H.n→Own (m++m1) (objs++os) id→Own m objs id:=by
  rintro id hid ⟨i,o,v,h1,h2,h3,h4⟩
  rcases split h1 h3 with ⟨k1,k2,_⟩ | ⟨k1,k2,_⟩
  ·exact ⟨i,o,v,k1,h2,k2,h4⟩
  ·have:=hb _ o v id k1 h2 k2 h4
   omega
 have hmm:∀ (j:Nat) (v:Value),m[j]?=some v→(m++m1)[j]?=some v:=by
  intro j v hj
  rw [List.getElem?_append_left (List.getElem?_eq_some_iff.1 hj).1];exact hj
 refine ⟨⟨by simp [h.len,hl],?_,?_⟩,hA⟩
 ·intro i o v h1 h2
  rcases split h1 h2 with ⟨k1,k2,_⟩ | ⟨k1,k2,_⟩
  ·by_cases hdd:o=.dead
   ·subst hdd;exact trivial
   ·exact (h.ok i o v k1 k2).same hA hn (fun id hid _=>hg id hid) (fun id hb'=>hg id ((h.ok i o v k1 k2).blk hdd hb').1) (fun j v _ hj=>hmm j v hj)
  ·exact ho _ o v k1 k2
 ·intro i j o o' v v' id h1 h2 h3 h4 h5 h6 h7 h8
  rcases split h1 h5 with ⟨k1,k2,k3⟩ | ⟨k1,k2,k3⟩<;>rcases split h3 h6 with ⟨l1,l2,l3⟩ | ⟨l1,l2,l3⟩
  ·exact h.dis i j o o' v v' id k1 h2 l1 h4 k2 l2 h7 h8
  ·have a:=(h.ok i o v k1 k2).blk h2 h7
   have b:=hb _ o' v' id l1 h4 l2 h8
   omega
  ·have a:=(h.ok j o' v' l1 l2).blk h4 h8
   have b:=hb _ o v id k1 h2 k2 h7
   omega
  ·have:=hd _ _ o o' v v' id k1 h2 l1 h4 k2 l2 h7 h8
   omega
theorem Obs.upd {m:List Value} {objs objs':List Obj} {H H':AH} {i:Nat} {oi o':Obj} {vi v':Value} (h:Obs m objs H) (hi:objs[i]?=some oi) (hdi:oi≠.dead) (hv:m[i]?=some vi) (hn:H.n≤H'.n)
  (hg:∀ id,id<H.n→blkOf vi≠some id→H'.t.get id=H.t.get id) (hb:∀ id,blkOf v'=some id→H.n≤id∨blkOf vi=some id) (hl:objs'.length=objs.length) (hoi:objs'[i]?=some o')
  (hoj:∀ (j:Nat) (o:Obj),j≠i→objs'[j]?=some o→∃ o0,objs[j]?=some o0∧(o=o0∧(v'=vi∨(match o with | .x cs=>menL i cs | _=>false)=false)∨∃ cs cs0,o=.x cs∧o0=.x cs0∧∀ (A:Nat→Prop) (m:List Value) (H:AH) vs,DenL A m H cs0 vs→DenL A m H cs vs∧(v'=vi∨menL i cs=false)))
  (ho:ObjOk (Own (m.set i v') objs') (m.set i v') H' v' o'):Obs (m.set i v') objs' H'∧∀ id,id<H.n→Own (m.set i v') objs' id→Own m objs id:=by
 have hmi:i<m.length:=(List.getElem?_eq_some_iff.1 hv).1
 have sp:∀ {j:Nat} {v:Value},(m.set i v')[j]?=some v→(j=i∧v=v')∨(j≠i∧m[j]?=some v):=by
  intro j v hj
  by_cases e:j=i
  ·subst e
   rw [List.getElem?_set_self hmi] at hj
   exact .inl ⟨rfl,(Option.some.inj hj).symm⟩
  ·rw [List.getElem?_set_ne (Ne.symm e)] at hj
   exact .inr ⟨e,hj⟩
 have nd:∀ {j:Nat} {o:Obj},j≠i→objs'[j]?=some o→o≠.dead→∃ o0,objs[j]?=some o0∧o0≠.dead:=by
  intro j o hj h1 h2
  obtain ⟨o0,k1,k2⟩:=hoj j o hj h1
  refine ⟨o0,k1,?_⟩
  rcases k2 with ⟨rfl,_⟩ | ⟨cs,cs0,rfl,rfl,_⟩
  ·exact h2
  ·simp
 have hA:∀ id,id<H.n→Own (m.set i v') objs' id→Own m objs id:=by
  rintro id hid ⟨j,o,v,h1,h2,h3,h4⟩
  rcases sp h3 with ⟨rfl,rfl⟩ | ⟨hj,h3⟩
  ·rcases hb id h4 with h5 | h5
   ·omega
   ·exact ⟨j,oi,vi,hi,hdi,hv,h5⟩
  ·obtain ⟨o0,k1,k2⟩:=nd hj h1 h2
   exact ⟨j,o0,v,k1,k2,h3,h4⟩
 have hgA:∀ id,id<H.n→¬ Own m objs id→H'.t.get id=H.t.get id:=fun id hid ho=>hg id hid fun e=>ho ⟨i,oi,vi,hi,hdi,hv,e⟩
 have hmm:∀ (j:Nat) (v:Value),(v'=vi∨j≠i)→m[j]?=some v→(m.set i v')[j]?=some v:=by
  intro j v hj h1
  by_cases e:j=i
  ·subst e
   rcases hj with rfl | hj
   ·rw [List.getElem?_set_self hmi,←hv];exact h1
   ·exact absurd rfl hj
  ·rw [List.getElem?_set_ne (Ne.symm e)];exact h1
 have hbj:∀ {j:Nat} {o0:Obj} {v:Value} {id:Nat},j≠i→objs[j]?=some o0→o0≠.dead→m[j]?=some v→blkOf v=some id→H'.t.get id=H.t.get id:=by
  intro j o0 v id hj k1 k2 k3 k4
  refine hg id ((h.ok j o0 v k1 k3).blk k2 k4).1 fun e=>hj (h.dis j i o0 oi v vi id k1 k2 hi hdi k3 hv k4 e)
 refine ⟨⟨by rw [List.length_set,h.len,hl],?_,?_⟩,hA⟩
 ·intro j o v h1 h2
  rcases sp h2 with ⟨rfl,rfl⟩ | ⟨hj,h2⟩
  ·rw [hoi] at h1
   obtain rfl:=Option.some.inj h1
   exact ho
  ·by_cases hdd:o=.dead
   ·subst hdd;exact trivial
   obtain ⟨o0,k1,k2⟩:=hoj j o hj h1
   rcases k2 with ⟨rfl,k3⟩ | ⟨cs,cs0,rfl,rfl,k3⟩
   ·refine (h.ok j o v k1 h2).same hA hn hgA (fun id hb'=>hbj hj k1 hdd h2 hb') (fun j' v'' hj'=>hmm j' v'' ?_)
    rcases k3 with k3 | k3
    ·exact .inl k3
    ·refine .inr fun e=>?_
     subst e
     rw [k3] at hj';cases hj'
   ·have old:=h.ok j _ v k1 h2
    obtain ⟨id,vs,rfl,q1,q2,q3⟩:=old
    obtain ⟨q4,q5⟩:=k3 _ _ _ _ q3
    refine ⟨id,vs,rfl,Nat.lt_of_lt_of_le q1 hn,?_,DenL.mono hA hn hgA cs vs (fun j' v'' hj'=>hmm j' v'' ?_) q4⟩
    ·rw [hbj hj k1 (by simp) h2 rfl];exact q2
    ·rcases q5 with q5 | q5
     ·exact .inl q5
     ·refine .inr fun e=>?_
      subst e
      rw [q5] at hj';cases hj'
 ·intro j j' o p v v'' id h1 h2 h3 h4 h5 h6 h7 h8
  rcases sp h5 with ⟨e1,e2⟩ | ⟨hj,p5⟩<;>rcases sp h6 with ⟨e3,e4⟩ | ⟨hj',p6⟩
  ·rw [e1,e3]
  ·subst e1;subst e2;obtain ⟨o0,k1,k2⟩:=nd hj' h3 h4
   rcases hb id h7 with h9 | h9
   ·have:=((h.ok j' o0 v'' k1 p6).blk k2 h8).1
    omega
   ·exact h.dis _ _ oi o0 vi v'' id hi hdi k1 k2 hv p6 h9 h8
  ·subst e3;subst e4;obtain ⟨o0,k1,k2⟩:=nd hj h1 h2
   rcases hb id h8 with h9 | h9
   ·have:=((h.ok j o0 v k1 p5).blk k2 h7).1
    omega
   ·exact h.dis _ _ o0 oi v vi id k1 k2 hi hdi p5 hv h7 h9
  ·obtain ⟨o0,k1,k2⟩:=nd hj h1 h2
   obtain ⟨o1,l1,l2⟩:=nd hj' h3 h4
   exact h.dis j j' o0 o1 v v'' id k1 k2 l1 l2 p5 p6 h7 h8
end Go.SX
end
section
set_option linter.unusedVariables false
set_option linter.unusedSimpArgs false
namespace Go.SX
open Go.AL
def arS:BinOp→IntKind→Int→Int→Int
 | .add,k,a,b=>fwrap k (a+b)
 | .sub,k,a,b=>fwrap k (a-b)
 | .mul,k,a,b=>fwrap k (a*b)
 | .quo,k,a,b=>fwrap k (a.tdiv b)
 | .rem,k,a,b=>a.tmod b
 | .and,k,a,b=>k.wrap (BitVec.ofInt k.bits a &&& BitVec.ofInt k.bits b).toNat
 | .or,k,a,b=>k.wrap (BitVec.ofInt k.bits a ||| BitVec.ofInt k.bits b).toNat
 | .xor,k,a,b=>k.wrap (BitVec.ofInt k.bits a ^^^ BitVec.ofInt k.bits b).toNat
 | _,_,a,_=>a
def shS:BinOp→IntKind→Int→Int→Int
 | .shl,k,a,b=>k.wrap (a*2^(Nat.min b.toNat k.bits))
 | _,k,a,b=>a.fdiv (2^(Nat.min b.toNat k.bits))
def cmpS:BinOp→Int→Int→Bool
 | .eql,a,b=>a == b
 | .neq,a,b=>a != b
 | .lss,a,b=>decide (a<b)
 | .leq,a,b=>decide (a≤b)
 | .gtr,a,b=>decide (a > b)
 | .geq,a,b=>decide (a≥b)
 | _,_,_=>false
def unI:UnOp→IntKind→Int→Int
 | .neg,k,n=>fwrap k (0-n)
 | _,k,n=>k.wrap (BitVec.ofInt k.bits (if k.signed then -1 else k.max) ^^^ BitVec.ofInt k.bits n).toNat
def beqS:BinOp→Bool→Bool→Bool
 | .eql,a,b=>a == b
 | _,a,b=>a != b
def gb (l:List Bool) (i:Int):Bool:=l[i.toNat]?.getD false
def gu (l:List Int) (i:Int):Int:=l[i.toNat]?.getD 0
def cpS (l:List Int) (off:Int) (m:List Int):List Int:=l.take off.toNat++(m++l.drop (off.toNat+m.length))
def sgS (q:ByteArray) (i:Int):Int:=match q[i.toNat]? with
 | some x=>x.toNat
 | none=>0
def LpS (C:Ctx) (tb:List (List Int)) (B:AH) (D:Bs) (b:IC) (s:St) (k:Ctl→St→Prop):Prop:=
 ∀ m E H,Sat tb B D m s E H→Cw C (.loop b) E H fun c E' H'=>∃ s' m',k c s'∧Sat tb B D m' s' E' H'
def ClS (C:Ctx) (tb:List (List Int)) (B:AH) (D:Bs) (f:SV) (vs:List SV) (s:St) (K:SV→St→Bool→Prop):Prop:=
 ∀ m E H vf vvs,Sat tb B D m s E H→Den (Own m s.objs) m H f vf→DenL (Own m s.objs) m H vs vvs→∃ k fs cs,vf=.func (.func k) ⟨fs⟩ ⟨cs⟩ ∧
   Run C k (fs++(vvs++cs)) { H with wl:=H.n } fun v H1=>∃ x s' w m',K x s' w∧Sat tb B D m' s' E { H1 with wl:=min H.wl H1.wl }∧Den (Own m' s'.objs) m' H1 x v∧(Nat.blt H1.wl H.n=true→w=true)
def std (C:Ctx) (tb:List (List Int)) (B:AH) (D:Bs):Sg where
 ar:=arS
 sh:=shS
 cmp:=cmpS
 un:=unI
 cv:=fwrap
 ng:=fun x=>!x
 beq:=beqS
 and:=fun x y=>x&&y
 mx:=AL.mx
 mn:=AL.mn
 sb:=fun a b=>a-b
 pl:=fun a b=>a+b
 lu:=fun l=>(l.length:Int)
 lb:=fun l=>(l.length:Int)
 gu:=SX.gu
 gb:=SX.gb
 su:=fun l i x=>l.set i.toNat x
 sbl:=fun l i x=>l.set i.toNat x
 du:=fun l i=>l.drop i.toNat
 tu:=fun l i=>l.take i.toNat
 db:=fun l i=>l.drop i.toNat
 tbl:=fun l i=>l.take i.toNat
 ru:=fun n=>List.replicate n.toNat 0
 rb:=fun n=>List.replicate n.toNat false
 apu:=fun l m=>l++m
 apb:=fun l m=>l++m
 cp:=cpS
 sg:=sgS
 sl:=fun q=>(q.size:Int)
 ix:=fun a n=>0≤a∧a<n
 le:=fun a n=>0≤a∧a≤n
 ne0:=fun a=>a≠0
 nn:=fun a=>0≤a
 mk0:=fun a=>0≤a∧a≤2^40
 ap:=fun a b=>a+b<2^36
 nl:=fun l P=>l=[]→P
 nlb:=fun l P=>l=[]→P
 ite:=fun x P Q=>(x=true→P)∧(x=false→Q)
 okd:=fun bits fl=>okDraw bits fl=true
 lp:=LpS C tb B D
 cl:=ClS C tb B D
def DenO (A:Nat→Prop) (m:List Value) (H:AH):Option SV→Option Value→Prop
 | none,none=>True
 | some x,some w=>Den A m H x w
 | _,_=>False
theorem on_elim {α:Type} {o:Option α} {K:α→Prop} (h:on o K):∃ x,o=some x∧K x:=by
 cases o with
 | none=>exact h.elim
 | some x=>exact ⟨x,rfl,h⟩
theorem when_elim {c:Bool} {K:Unit→Prop} (h:when c K):c=true∧K ():=by
 cases c with
 | true=>exact ⟨rfl,h⟩
 | false=>exact h.elim
theorem kn_inj:∀ {k k':IntKind},kq k k'=true→k=k':=by
 intro k k' h
 cases k<;>cases k'<;>first | rfl | (exact absurd h (by decide))
section
variable {A:Nat→Prop} {m:List Value} {H:AH} {E:Env} {e:T SV}
theorem asI_ok {x:SV} {k:IntKind} {a:Int} {w:Value} (h:asI x=some (k,a)) (hd:Den A m H x w):w=.int k a:=by
 cases x<;>simp only [asI,reduceCtorEq,Option.some.injEq,Prod.mk.injEq] at h
 all_goals (obtain ⟨rfl,rfl⟩:=h;exact hd)
theorem asB_ok {x:SV} {a:Bool} {w:Value} (h:asB x=some a) (hd:Den A m H x w):w=.bool a:=by
 cases x<;>simp only [asB,reduceCtorEq,Option.some.injEq] at h
 all_goals (subst h;exact hd)
theorem ofC_ok (v:Value):Den A m H (ofC v) v:=by
 cases v with
 | int k x=>cases x<;>rfl
 | slice a l c=>
   cases a with
   | some a=>rfl
   | none=>
     show Den A m H (bif (l.beq 0&&c.beq 0) then SV.nil else .v (.slice none l c)) (.slice none l c)
     cases h:(l.beq 0&&c.beq 0) with
     | false=>rfl
     | true=>
       simp only [Bool.and_eq_true] at h
       rw [Nat.eq_of_beq_eq_true h.1,Nat.eq_of_beq_eq_true h.2]
       rfl
 | _=>rfl
theorem ofCs_ok:∀ (vs:List Value),DenL A m H (vs.map ofC) vs
 | []=>rfl
 | v::vs=>⟨v,vs,rfl,ofC_ok v,ofCs_ok vs⟩
theorem cells_scalar {v:Value} (h:scalar v=true):cellsOf v=[v]:=by
 cases v<;>first | rfl | (cases h)
theorem sCells_ok {x:SV} {w:Value} (hd:Den A m H x w) (hx:noJunk x=true):DenL A m H (sCells x) (cellsOf w):=by
 cases x with
 | a l=>obtain ⟨vs,rfl,h⟩:=hd;exact h
 | any=>cases hx
 | v x=>obtain rfl:=(show w=x from hd);rw [cells_scalar hx];exact DenL.sing hd
 | u l=>obtain ⟨a,c,rfl,h⟩:=(show RdS A H w _ from hd);exact DenL.sing hd
 | bl l=>obtain ⟨a,c,rfl,h⟩:=(show RdS A H w _ from hd);exact DenL.sing hd
 | r e cs=>have hd':=hd;simp only [Den] at hd';obtain ⟨a,n,c,vs,rfl,h⟩:=hd';exact DenL.sing hd
 | p cs=>have hd':=hd;simp only [Den] at hd';obtain ⟨a,vs,rfl,h⟩:=hd';exact DenL.sing hd
 | s i=>have hd':=hd;simp only [Den] at hd';obtain ⟨_,a,n,c,rfl⟩:=hd';exact DenL.sing hd
 | ss i o l=>have hd':=hd;simp only [Den] at hd';obtain ⟨a,n,c,a',c',_,rfl,_⟩:=hd';exact DenL.sing hd
 | si i o=>have hd':=hd;simp only [Den] at hd';obtain ⟨a,n,c,_,rfl⟩:=hd';exact DenL.sing hd
 | o i o=>have hd':=hd;simp only [Den] at hd';obtain ⟨a,_,rfl⟩:=hd';exact DenL.sing hd
 | os i o n e=>have hd':=hd;simp only [Den] at hd';obtain ⟨a,c,_,rfl,_⟩:=hd';exact DenL.sing hd
 | t l=>have hd':=hd;simp only [Den] at hd';obtain ⟨vs,rfl,h⟩:=hd';exact DenL.sing hd
 | f k fs cs=>have hd':=hd;simp only [Den] at hd';obtain ⟨vf,vc,rfl,_⟩:=hd';exact DenL.sing hd
 | fq k fs cs=>have hd':=hd;simp only [Den] at hd';obtain ⟨vf,vc,rfl,_⟩:=hd';exact DenL.sing hd
 | i k x=>obtain rfl:=(show w=_ from hd);exact DenL.sing hd
 | n k x=>obtain rfl:=(show w=_ from hd);exact DenL.sing hd
 | b x=>obtain rfl:=(show w=_ from hd);exact DenL.sing hd
 | kb x=>obtain rfl:=(show w=_ from hd);exact DenL.sing hd
 | nil=>obtain rfl:=(show w=_ from hd);exact DenL.sing hd
 | g k=>obtain rfl:=(show w=_ from hd);exact DenL.sing hd
variable (he:∀ t x,e.get t=some x→∃ w,E.get t=some w∧Den A m H x w)
include he
theorem sev_ok {o:Operand} {x:SV} (h:sev e o=some x):∃ w,ev E o=some w∧Den A m H x w:=by
 cases o with
 | tmp t=>exact he t x h
 | const v=>obtain rfl:=Option.some.inj h;exact ⟨v,rfl,ofC_ok v⟩
 | global g=>obtain rfl:=Option.some.inj h;exact ⟨_,rfl,rfl⟩
 | func f=>obtain rfl:=Option.some.inj h;exact ⟨_,rfl,[],[],rfl,rfl,rfl⟩
theorem sevs_ok:∀ {os:List Operand} {xs:List SV},sevs e os=some xs→∃ ws,evs E os=some ws∧DenL A m H xs ws
 | [],xs,h=>by obtain rfl:=Option.some.inj h;exact ⟨[],rfl,rfl⟩
 | o::os,xs,h=>by
   simp only [sevs] at h
   split at h
   ·cases h
   ·rename_i x hx
    split at h
    ·cases h
    ·rename_i ys hy
     obtain rfl:=Option.some.inj h
     obtain ⟨w,h1,h2⟩:=sev_ok he hx
     obtain ⟨ws,h3,h4⟩:=sevs_ok hy
     exact ⟨w::ws,by simp only [evs,h1,h3],w,ws,rfl,h2,h4⟩
theorem sevo_ok {o:Option Operand} {x:Option SV} (h:sevo e o=some x):∃ w,evo E o=some w∧DenO A m H x w:=by
 cases o with
 | none=>obtain rfl:=Option.some.inj h;exact ⟨none,rfl,trivial⟩
 | some o=>
   simp only [sevo] at h
   split at h
   ·cases h
   ·rename_i v hv
    obtain rfl:=Option.some.inj h
    obtain ⟨w,h1,h2⟩:=sev_ok he hv
    exact ⟨some w,by simp only [evo,h1],h2⟩
end
end Go.SX
end
section
set_option linter.unusedVariables false
set_option linter.unusedSimpArgs false
set_option linter.unusedSectionVars false
namespace Go.SX
open Go.AL
section
variable {A:Nat→Prop} {m:List Value} {H:AH} {E:Env} {e:T SV}
theorem noJunk_ok {x:SV} {w:Value} (hd:Den A m H x w) (hx:noJunk x=true):junk w=false:=by
 cases x with
 | any=>cases hx
 | v x=>
   obtain rfl:=(show w=x from hd)
   cases w<;>first | rfl | (cases hx)
 | u l=>obtain ⟨a,c,rfl,h⟩:=(show RdS A H w _ from hd);rfl
 | bl l=>obtain ⟨a,c,rfl,h⟩:=(show RdS A H w _ from hd);rfl
 | r e cs=>simp only [Den] at hd;obtain ⟨a,n,c,vs,rfl,h⟩:=hd;rfl
 | p cs=>simp only [Den] at hd;obtain ⟨a,vs,rfl,h⟩:=hd;rfl
 | s i=>simp only [Den] at hd;obtain ⟨_,a,n,c,rfl⟩:=hd;rfl
 | ss i o l=>simp only [Den] at hd;obtain ⟨a,n,c,a',c',_,rfl,_⟩:=hd;rfl
 | si i o=>simp only [Den] at hd;obtain ⟨a,n,c,_,rfl⟩:=hd;rfl
 | o i o=>simp only [Den] at hd;obtain ⟨a,_,rfl⟩:=hd;rfl
 | os i o n e=>simp only [Den] at hd;obtain ⟨a,c,_,rfl,_⟩:=hd;rfl
 | a l=>obtain ⟨vs,rfl,h⟩:=hd;rfl
 | t l=>obtain ⟨vs,rfl,h⟩:=hd;rfl
 | f k fs cs=>simp only [Den] at hd;obtain ⟨vf,vc,rfl,_⟩:=hd;rfl
 | fq k fs cs=>simp only [Den] at hd;obtain ⟨vf,vc,rfl,_⟩:=hd;rfl
 | i k x=>obtain rfl:=(show w=_ from hd);rfl
 | n k x=>obtain rfl:=(show w=_ from hd);rfl
 | b x=>obtain rfl:=(show w=_ from hd);rfl
 | kb x=>obtain rfl:=(show w=_ from hd);rfl
 | nil=>obtain rfl:=(show w=_ from hd);rfl
 | g k=>obtain rfl:=(show w=_ from hd);rfl
theorem scal_ok {x:SV} {w:Value} (hd:Den A m H x w) (hx:scal x=true):scalar w=true:=by
 cases x with
 | any=>cases hx
 | a l=>cases hx
 | t l=>cases hx
 | v x=>obtain rfl:=(show w=x from hd);exact hx
 | u l=>obtain ⟨a,c,rfl,h⟩:=(show RdS A H w _ from hd);rfl
 | bl l=>obtain ⟨a,c,rfl,h⟩:=(show RdS A H w _ from hd);rfl
 | r e cs=>simp only [Den] at hd;obtain ⟨a,n,c,vs,rfl,h⟩:=hd;rfl
 | p cs=>simp only [Den] at hd;obtain ⟨a,vs,rfl,h⟩:=hd;rfl
 | s i=>simp only [Den] at hd;obtain ⟨_,a,n,c,rfl⟩:=hd;rfl
 | ss i o l=>simp only [Den] at hd;obtain ⟨a,n,c,a',c',_,rfl,_⟩:=hd;rfl
 | si i o=>simp only [Den] at hd;obtain ⟨a,n,c,_,rfl⟩:=hd;rfl
 | o i o=>simp only [Den] at hd;obtain ⟨a,_,rfl⟩:=hd;rfl
 | os i o n e=>simp only [Den] at hd;obtain ⟨a,c,_,rfl,_⟩:=hd;rfl
 | f k fs cs=>simp only [Den] at hd;obtain ⟨vf,vc,rfl,_⟩:=hd;rfl
 | fq k fs cs=>simp only [Den] at hd;obtain ⟨vf,vc,rfl,_⟩:=hd;rfl
 | i k x=>obtain rfl:=(show w=_ from hd);rfl
 | n k x=>obtain rfl:=(show w=_ from hd);rfl
 | b x=>obtain rfl:=(show w=_ from hd);rfl
 | kb x=>obtain rfl:=(show w=_ from hd);rfl
 | nil=>obtain rfl:=(show w=_ from hd);rfl
 | g k=>obtain rfl:=(show w=_ from hd);rfl
theorem scals_ok:∀ {xs:List SV} {ws:List Value},DenL A m H xs ws→xs.all scal=true→ws.all scalar=true
 | [],ws,h,_=>by simp only [DenL] at h;subst h;rfl
 | x::xs,ws,h,hs=>by
   simp only [DenL] at h
   obtain ⟨w,ws',rfl,h2,h3⟩:=h
   simp only [List.all_cons,Bool.and_eq_true] at hs ⊢
   exact ⟨scal_ok h2 hs.1,scals_ok h3 hs.2⟩
theorem sPut_ok {cs cs' vs:List SV} {off:Nat} {ws us:List Value} (h:sPut cs off vs=some cs') (hc:DenL A m H cs ws) (hv:DenL A m H vs us):∃ ws',putCells ws off us=some ws'∧DenL A m H cs' ws':=by
 unfold sPut at h
 rw [cond_eq_ite] at h
 split at h
 ·rename_i hb
  obtain rfl:=Option.some.inj h
  refine ⟨ws.take off++(us++ws.drop (off+us.length)),?_,(hc.take off).app (hv.app ?_)⟩
  ·unfold putCells
   rw [hc.len,hv.len,hb];rfl
  ·rw [hv.len];exact hc.drop _
 ·cases h
theorem sFill_ok (he:∀ t x,e.get t=some x→∃ w,E.get t=some w∧Den A m H x w):∀ {ps:List (Nat×Nat×Operand)} {cs cs':List SV} {ws:List Value},sFill e cs ps=some cs'→DenL A m H cs ws→∃ ws',fillParts E ws ps=some ws'∧DenL A m H cs' ws'
 | [],cs,cs',ws,h,hc=>by obtain rfl:=Option.some.inj h;exact ⟨ws,rfl,hc⟩
 | (off,sz,o)::ps,cs,cs',ws,h,hc=>by
   simp only [sFill] at h
   split at h
   ·cases h
   ·rename_i x hx
    obtain ⟨w,h1,h2⟩:=sev_ok he hx
    rw [cond_eq_ite] at h
    split at h
    ·rename_i hb
     simp only [Bool.and_eq_true] at hb
     have hcl:=sCells_ok h2 hb.2
     split at h
     ·cases h
     ·rename_i cs1 hp
      obtain ⟨ws1,h3,h4⟩:=sPut_ok hp hc hcl
      obtain ⟨ws2,h5,h6⟩:=sFill_ok he h h4
      refine ⟨ws2,?_,h6⟩
      simp only [fillParts,h1,hcl.len,hb.1,noJunk_ok h2 hb.2,Bool.not_false,Bool.and_self,cond_true,h3,h5]
    ·cases h
theorem sPart_ok {agg:Option Nat} {cs:List SV} {ws:List Value} {off:Nat} {x:SV} (h:sPart agg cs off=some x) (hc:DenL A m H cs ws):∃ w,AL.part agg ws off=some w∧Den A m H x w:=by
 cases agg with
 | none=>exact hc.get h
 | some n=>
   simp only [sPart,cond_eq_ite] at h
   split at h
   ·rename_i hb
    obtain rfl:=Option.some.inj h
    have hd:=(hc.drop off).take n
    refine ⟨_,?_,_,rfl,hd⟩
    simp only [AL.part,takeCells,hd.len,hb,cond_true]
   ·cases h
theorem allI_ok {k:IntKind}:∀ {xs:List SV} {l:List Int} {ws:List Value},allI k xs=some l→DenL A m H xs ws→ws=l.map (.int k)
 | [],l,ws,h,hc=>by obtain rfl:=Option.some.inj h;exact hc
 | x::xs,l,ws,h,hc=>by
   simp only [DenL] at hc
   obtain ⟨w,ws',rfl,h2,h3⟩:=hc
   simp only [allI] at h
   split at h
   ·rename_i k' a as hx hxs
    rw [cond_eq_ite] at h
    split at h
    ·rename_i hk
     obtain rfl:=Option.some.inj h
     rw [asI_ok hx h2,allI_ok hxs h3,kn_inj hk];rfl
    ·cases h
   ·cases h
theorem allB_ok:∀ {xs:List SV} {l:List Bool} {ws:List Value},allB xs=some l→DenL A m H xs ws→ws=boolV l
 | [],l,ws,h,hc=>by obtain rfl:=Option.some.inj h;exact hc
 | x::xs,l,ws,h,hc=>by
   simp only [DenL] at hc
   obtain ⟨w,ws',rfl,h2,h3⟩:=hc
   simp only [allB] at h
   split at h
   ·rename_i a as hx hxs
    obtain rfl:=Option.some.inj h
    rw [asB_ok hx h2,allB_ok hxs h3];rfl
   ·cases h
variable {C:Ctx} {tb:List (List Int)} {B:AH} {D:Bs}
theorem eqS_ok:∀ {xs ys:List SV} {r:Bool} {ws vs:List Value},eqS (std C tb B D) xs ys=some r→DenL A m H xs ws→DenL A m H ys vs→eqCells ws vs=some r
 | [],[],r,ws,vs,h,hx,hy=>by simp only [DenL] at hx hy;subst hx hy;exact h
 | [],y::ys,r,ws,vs,h,hx,hy=>by cases h
 | x::xs,[],r,ws,vs,h,hx,hy=>by cases h
 | x::xs,y::ys,r,ws,vs,h,hx,hy=>by
   simp only [DenL] at hx hy
   obtain ⟨w,ws',rfl,h2,h3⟩:=hx
   obtain ⟨v,vs',rfl,h4,h5⟩:=hy
   simp only [eqS] at h
   split at h
   ·rename_i k a k' b r' q1 q2 q3
    rw [cond_eq_ite] at h
    split at h
    ·rename_i hk
     obtain rfl:=kn_inj hk
     obtain rfl:=Option.some.inj h
     rw [asI_ok q1 h2,asI_ok q2 h4]
     simp only [eqCells,if_true,eqS_ok q3 h3 h5]
     rfl
    ·cases h
   ·cases h
def To (A:Nat→Prop) (m:List Value) (H:AH) (r:Option Value) (K:SV→Prop):Prop:=∃ w x,r=some w∧Den A m H x w∧K x
theorem To.mk {r:Option Value} {K:SV→Prop} {x:SV} {w:Value} (h:K x) (hr:r=some w) (hd:Den A m H x w):To A m H r K:=⟨w,x,hr,hd,h⟩
theorem lit_ok {op:BinOp} {tk:Nat} {k:IntKind} {a b:Nat} {r:SV} (h:lit op k a b=some r):∃ w,abin tk op (.int k (.ofNat a)) (.int k (.ofNat b))=some w∧Den A m H r w:=by
 have fw:∀ n:Nat,n≤120→fwrap k (n:Int)=n:=by
  intro n hn
  unfold fwrap
  have:inKind k (n:Int)=true:=by
   show inKind k (Int.ofNat n)=true
   cases k<;>exact Nat.ble_eq_true_of_le (Nat.le_trans (Nat.succ_le_succ hn) (by decide))
  rw [this];rfl
 have nb:∀ x y:Nat,x.beq y=decide (x=y):=fun x y=>nbeq x y
 cases op<;>simp only [lit,reduceCtorEq,Option.some.injEq,cond_eq_ite] at h
 case add=>
  split at h
  ·rename_i hb
   obtain rfl:=Option.some.inj h
   have hb:=Nat.le_of_ble_eq_true hb
   refine ⟨_,by simp only [abin,intArith,if_true];rfl,?_⟩
   show Value.int k (fwrap k ((a:Int)+(b:Int)))=Value.int k ((a+b:Nat):Int)
   rw [show ((a:Int)+(b:Int))=((a+b:Nat):Int) by omega,fw _ hb]
  ·cases h
 case sub=>
  split at h
  ·rename_i hb
   obtain rfl:=Option.some.inj h
   simp only [Bool.and_eq_true] at hb
   have h1:=Nat.le_of_ble_eq_true hb.1
   have h2:=Nat.le_of_ble_eq_true hb.2
   refine ⟨_,by simp only [abin,intArith,if_true];rfl,?_⟩
   show Value.int k (fwrap k ((a:Int)-(b:Int)))=Value.int k ((a-b:Nat):Int)
   rw [show ((a:Int)-(b:Int))=((a-b:Nat):Int) by omega,fw _ (by omega)]
  ·cases h
 case eql=>
  subst h
  refine ⟨_,by simp only [abin,intArith,if_true];rfl,?_⟩
  show Value.bool ((a:Int) == (b:Int))=Value.bool (a.beq b)
  rw [AL.eq_dec,nb]
 case neq=>
  subst h
  refine ⟨_,by simp only [abin,intArith,if_true];rfl,?_⟩
  show Value.bool ((a:Int) != (b:Int))=Value.bool !(a.beq b)
  rw [AL.ne_dec,nb]
 case lss=>
  subst h
  refine ⟨_,by simp only [abin,intArith,if_true];rfl,?_⟩
  show Value.bool (decide ((a:Int)<(b:Int)))=Value.bool (Nat.ble (a+1) b)
  rw [AL.lt_dec,nble]
  rfl
 case leq=>
  subst h
  refine ⟨_,by simp only [abin,intArith,if_true];rfl,?_⟩
  show Value.bool (decide ((a:Int)≤(b:Int)))=Value.bool (Nat.ble a b)
  rw [AL.le_dec,nble]
 case gtr=>
  subst h
  refine ⟨_,by simp only [abin,intArith,if_true];rfl,?_⟩
  show Value.bool (decide ((a:Int) > (b:Int)))=Value.bool (Nat.ble (b+1) a)
  rw [AL.gt_dec,nble]
  rfl
 case geq=>
  subst h
  refine ⟨_,by simp only [abin,intArith,if_true];rfl,?_⟩
  show Value.bool (decide ((a:Int)≥(b:Int)))=Value.bool (Nat.ble b a)
  rw [AL.ge_dec,nble]
theorem binI_ok {op:BinOp} {tk:Nat} {k k':IntKind} {a b:Int} {K:SV→Prop} (h:binI (std C tb B D) op k k' a b K):To A m H (abin tk op (.int k a) (.int k' b)) K:=by
 cases op
 case shl=>
  obtain ⟨h1,h2⟩:=h
  have h1:¬ b<0:=Int.not_lt.2 h1
  exact To.mk h2 (by simp only [abin,aShift,if_neg h1];rfl) rfl
 case shr=>
  obtain ⟨h1,h2⟩:=h
  have h1:¬ b<0:=Int.not_lt.2 h1
  exact To.mk h2 (by simp only [abin,aShift,if_neg h1];rfl) rfl
 case quo=>
  simp only [binI] at h
  obtain ⟨h1,h2⟩:=when_elim h
  obtain rfl:=kn_inj h1
  have h3:¬ b=0:=h2.1
  exact To.mk h2.2 (by simp only [abin,intArith,if_true,if_neg h3];rfl) rfl
 case rem=>
  simp only [binI] at h
  obtain ⟨h1,h2⟩:=when_elim h
  obtain rfl:=kn_inj h1
  have h3:¬ b=0:=h2.1
  exact To.mk h2.2 (by simp only [abin,intArith,if_true,if_neg h3];rfl) rfl
 case andNot=>
  simp only [binI] at h
  exact (when_elim h).2.elim
 all_goals
  simp only [binI] at h
  obtain ⟨h1,h2⟩:=when_elim h
  obtain rfl:=kn_inj h1
  exact To.mk h2 (by simp only [abin,intArith,if_true];rfl) rfl
theorem binO_ok {op:BinOp} {tk:Nat} {x y:SV} {w v:Value} {K:SV→Prop} (h:binO (std C tb B D) tk op x y K) (hx:Den A m H x w) (hy:Den A m H y v):To A m H (abin tk op w v) K:=by
 unfold binO at h
 split at h
 ·rename_i a b ha hb
  obtain ⟨h1,h⟩:=when_elim h
  rw [asB_ok ha hx,asB_ok hb hy]
  split at h
  ·exact To.mk h (by simp only [abin,h1,cond_true];rfl) rfl
  ·exact To.mk h (by simp only [abin,h1,cond_true];rfl) rfl
  ·exact h.elim
 ·split at h
  ·rename_i xs ys _
   obtain ⟨h1,h⟩:=when_elim h
   obtain ⟨r,h2,h⟩:=on_elim h
   obtain ⟨ws,rfl,hx⟩:=hx
   obtain ⟨vs,rfl,hy⟩:=hy
   have h3:=eqS_ok h2 hx hy
   rw [←hx.len,←hy.len] at h1
   split at h
   ·exact To.mk h (by simp only [abin,h1,cond_true,h3]<;>rfl) rfl
   ·exact To.mk h (by simp only [abin,h1,cond_true,h3]<;>rfl) rfl
   ·exact h.elim
  ·rename_i l _
   obtain ⟨h1,h⟩:=when_elim h
   obtain ⟨a,cap,rfl,h4,h5⟩:=(show RdS A H w _ from hx)
   obtain rfl:=(show v=_ from hy)
   have hn:a.isNone=true→l=[]:=by
    intro ha
    cases l with
    | nil=>rfl
    | cons b l=>obtain ⟨ad,rfl,_⟩:=h5 (by simp [intV]);cases ha
   split at h
   ·cases ha:a.isNone with
    | true=>exact ⟨.bool true,.kb true,by simp only [abin,h1,cond_true,ha],rfl,h.1 (hn ha)⟩
    | false=>exact ⟨.bool false,.kb false,by simp only [abin,h1,cond_true,ha],rfl,h.2⟩
   ·cases ha:a.isNone with
    | true=>exact ⟨.bool false,.kb false,by simp only [abin,h1,cond_true,ha,Bool.not_true],rfl,h.1 (hn ha)⟩
    | false=>exact ⟨.bool true,.kb true,by simp only [abin,h1,cond_true,ha,Bool.not_false],rfl,h.2⟩
   ·exact h.elim
  ·rename_i l _
   obtain ⟨h1,h⟩:=when_elim h
   obtain ⟨a,cap,rfl,h4,h5⟩:=(show RdS A H w _ from hx)
   obtain rfl:=(show v=_ from hy)
   have hn:a.isNone=true→l=[]:=by
    intro ha
    cases l with
    | nil=>rfl
    | cons b l=>obtain ⟨ad,rfl,_⟩:=h5 (by simp [boolV]);cases ha
   split at h
   ·cases ha:a.isNone with
    | true=>exact ⟨.bool true,.kb true,by simp only [abin,h1,cond_true,ha],rfl,h.1 (hn ha)⟩
    | false=>exact ⟨.bool false,.kb false,by simp only [abin,h1,cond_true,ha],rfl,h.2⟩
   ·cases ha:a.isNone with
    | true=>exact ⟨.bool false,.kb false,by simp only [abin,h1,cond_true,ha,Bool.not_true],rfl,h.1 (hn ha)⟩
    | false=>exact ⟨.bool true,.kb true,by simp only [abin,h1,cond_true,ha,Bool.not_false],rfl,h.2⟩
   ·exact h.elim
  ·exact h.elim
theorem binS_ok {op:BinOp} {tk:Nat} {x y:SV} {w v:Value} {K:SV→Prop} (h:binS (std C tb B D) tk op x y K) (hx:Den A m H x w) (hy:Den A m H y v):To A m H (abin tk op w v) K:=by
 unfold binS at h
 split at h
 ·rename_i r hr
  split at hr
  ·rename_i k a k' b
   rw [cond_eq_ite] at hr
   split at hr
   ·rename_i hk
    obtain rfl:=kn_inj hk
    obtain rfl:=(show w=_ from hx)
    obtain rfl:=(show v=_ from hy)
    obtain ⟨u,h1,h2⟩:=lit_ok (A:=A) (m:=m) (H:=H) (tk:=tk) hr
    exact ⟨u,r,h1,h2,h⟩
   ·cases hr
  ·rename_i a b
   rw [cond_eq_ite] at hr
   split at hr
   ·rename_i hk
    obtain rfl:=(show w=_ from hx)
    obtain rfl:=(show v=_ from hy)
    unfold litB at hr
    split at hr
    ·cases hr;exact ⟨.bool (a == b),.kb (a == b),by simp only [abin,hk,cond_true],rfl,h⟩
    ·cases hr;exact ⟨.bool (a != b),.kb (a != b),by simp only [abin,hk,cond_true],rfl,h⟩
    ·cases hr
   ·cases hr
  ·cases hr
 ·split at h
  ·rename_i k a k' b ha hb
   rw [asI_ok ha hx,asI_ok hb hy]
   exact binI_ok h
  ·exact binO_ok h hx hy
theorem unS_ok {op:UnOp} {x:SV} {w:Value} {K:SV→Prop} (h:unS (std C tb B D) op x K) (hx:Den A m H x w):To A m H (aun op w) K:=by
 unfold unS at h
 split at h
 ·split at h
  ·obtain rfl:=(show w=_ from hx);exact To.mk h rfl rfl
  ·obtain rfl:=(show w=_ from hx);exact To.mk h rfl rfl
  ·exact h.elim
 ·obtain ⟨⟨k,a⟩,h1,h⟩:=on_elim h
  rw [asI_ok h1 hx]
  exact To.mk h rfl rfl
 ·obtain ⟨⟨k,a⟩,h1,h⟩:=on_elim h
  rw [asI_ok h1 hx]
  exact To.mk h rfl rfl
 ·exact h.elim
end
end Go.SX
end
section
set_option linter.unusedVariables false
set_option linter.unusedSimpArgs false
set_option linter.unusedSectionVars false
namespace Go.SX
open Go.AL
section
variable {A:Nat→Prop} {m:List Value} {H:AH} {E:Env} {e:T SV} {C:Ctx} {tb:List (List Int)} {B:AH} {D:Bs}
theorem fw120 {k:IntKind} {n:Nat} (hn:n≤120):fwrap k (.ofNat n)=.ofNat n:=by
 unfold fwrap
 have:inKind k (Int.ofNat n)=true:=by
  cases k<;>exact Nat.ble_eq_true_of_le (Nat.le_trans (Nat.succ_le_succ hn) (by decide))
 rw [this];rfl
theorem convS_ok {k:IntKind} {x:SV} {w:Value} {K:SV→Prop} (h:convS (std C tb B D) k x K) (hx:Den A m H x w):∃ n k',w=.int k' n∧To A m H (some (.int k (fwrap k n))) K:=by
 unfold convS at h
 split at h
 ·rename_i k' n
  obtain rfl:=(show w=_ from hx)
  refine ⟨_,_,rfl,?_⟩
  unfold sel at h
  split at h
  ·rename_i hb
   have hb:=Nat.le_of_ble_eq_true hb
   exact To.mk h (by rw [fw120 hb]) rfl
  ·exact To.mk h rfl rfl
 ·obtain rfl:=(show w=_ from hx)
  exact ⟨_,_,rfl,To.mk h rfl rfl⟩
 ·exact h.elim
theorem RdC.part {vs:List Value} {ad:Addr} {n:Nat} {ad':Addr} (h:RdC A H ad vs) (h1:ad'.block=ad.block) (h2:ad'.off=ad.off+n):RdC A H ad' (vs.drop n):=by
 obtain ⟨bk,q1,q2,q3,q4⟩:=h
 refine ⟨bk,by rw [h1];exact q1,by rw [h1];exact q2,by rw [h1];exact q3,fun i v hv=>?_⟩
 rw [List.getElem?_drop] at hv
 rw [h2,Nat.add_assoc]
 exact q4 _ v hv
theorem RdC.take {vs:List Value} {ad:Addr} {n:Nat} (h:RdC A H ad vs):RdC A H ad (vs.take n):=by
 obtain ⟨bk,q1,q2,q3,q4⟩:=h
 refine ⟨bk,q1,q2,q3,fun i v hv=>?_⟩
 rw [List.getElem?_take] at hv
 split at hv
 ·exact q4 _ v hv
 ·cases hv
theorem asNat_ok {k:IntKind} {a:Int} {n:Nat} (h:0≤a∧a≤(n:Int)):asNat (.int k a) n=some a.toNat:=by
 simp only [asNat,if_pos h]
theorem rd_lo {k:IntKind} {w:Value} {cs:List Value} {s:Int} (h:RdS A H w cs) (hs:0≤s∧s≤(cs.length:Int)):∃ a cap v',w=.slice a cs.length cap∧aslice 1 a cs.length cap (some (.int k s)) none none=some v'∧RdS A H v' (cs.drop s.toNat):=by
 obtain ⟨a,cap,rfl,hc,h2⟩:=h
 have hlen:(cs.drop s.toNat).length=cs.length-s.toNat:=List.length_drop
 have hst:s.toNat≤cs.length:=by omega
 simp only [aslice,optNat,asNat_ok hs]
 have key:∀ a',(a'=a.map (addOff · (s.toNat*1))∨cs.length=s.toNat)→(cs.drop s.toNat)≠[]→∃ ad,a'=some ad∧RdC A H ad (cs.drop s.toNat):=by
  intro a' ha hne
  have hne':cs≠[]:=fun e=>hne (by rw [e];simp)
  obtain ⟨ad,rfl,h3⟩:=h2 hne'
  rcases ha with rfl | ha
  ·exact ⟨addOff ad (s.toNat*1),rfl,h3.part rfl (by simp [addOff])⟩
  ·exact absurd (List.drop_eq_nil_iff.2 (by omega)) hne
 by_cases hu:cap=UC
 ·subst hu
  refine ⟨a,UC,?_⟩
  rw [show UC.beq UC=true from Nat.beq_refl _]
  exact ⟨_,rfl,rfl,_,UC,by rw [hlen],.inl rfl,key _ (.inl rfl)⟩
 ·refine ⟨a,cap,?_⟩
  rw [beq_false hu]
  have hcl:cs.length≤cap:=hc.resolve_left hu
  by_cases hcs:cap=s.toNat
  ·subst hcs
   rw [Nat.beq_refl]
   exact ⟨_,rfl,rfl,a,_,by rw [hlen];rfl,.inr (by rw [hlen];omega),key _ (.inr (by omega))⟩
  ·rw [beq_false hcs]
   exact ⟨_,rfl,rfl,_,_,by rw [hlen];rfl,.inr (by rw [hlen];omega),key _ (.inl rfl)⟩
theorem rd_hi {k:IntKind} {w:Value} {cs:List Value} {s:Int} (h:RdS A H w cs) (hs:0≤s∧s≤(cs.length:Int)):∃ a cap v',w=.slice a cs.length cap∧aslice 1 a cs.length cap none (some (.int k s)) none=some v'∧RdS A H v' (cs.take s.toNat):=by
 obtain ⟨a,cap,rfl,hc,h2⟩:=h
 have hst:s.toNat≤cs.length:=by omega
 have hlen:(cs.take s.toNat).length=s.toNat:=by rw [List.length_take];omega
 simp only [aslice,optNat,asNat_ok hs,Nat.sub_zero]
 have key:∀ a',(a'=a.map (addOff · (0*1))∨a'=a)→(cs.take s.toNat)≠[]→∃ ad,a'=some ad∧RdC A H ad (cs.take s.toNat):=by
  intro a' ha hne
  have hne':cs≠[]:=fun e=>hne (by rw [e];simp)
  obtain ⟨ad,rfl,h3⟩:=h2 hne'
  rcases ha with rfl | rfl
  ·exact ⟨addOff ad (0*1),rfl,(h3.part (n:=0) rfl (by simp [addOff])).take⟩
  ·exact ⟨ad,rfl,h3.take⟩
 by_cases hu:cap=UC
 ·subst hu
  refine ⟨a,UC,?_⟩
  rw [show UC.beq UC=true from Nat.beq_refl _]
  exact ⟨_,rfl,rfl,_,UC,by rw [hlen],.inl rfl,key _ (.inl rfl)⟩
 ·refine ⟨a,cap,?_⟩
  rw [beq_false hu]
  have hcl:cs.length≤cap:=hc.resolve_left hu
  cases cap.beq 0 with
  | true=>exact ⟨_,rfl,rfl,a,cap,by rw [hlen];rfl,.inr (by rw [hlen];omega),key _ (.inr rfl)⟩
  | false=>exact ⟨_,rfl,rfl,_,cap,by rw [hlen];rfl,.inr (by rw [hlen];omega),key _ (.inl rfl)⟩
theorem OwS.shape {w:Value} {cs:List Value} (h:OwS H w cs):∃ a cap,w=.slice a cs.length cap∧(cap=UC∨cap=cs.length)∧(cs≠[]→∃ id,a=some ⟨id,0,none⟩∧id<H.n∧∃ kd,(kd=3∨kd=0)∧H.t.get id=some ⟨cs,kd⟩):=by
 rcases h with ⟨rfl,rfl⟩ | ⟨id,c,kd,rfl,hk,h1,h2⟩
 ·exact ⟨none,0,rfl,.inr rfl,fun h=>absurd rfl h⟩
 ·exact ⟨_,_,rfl,by rcases hk with ⟨rfl,_⟩ | ⟨rfl,_⟩<;>simp,fun _=>⟨id,rfl,h1,kd,by rcases hk with ⟨_,rfl⟩ | ⟨_,rfl⟩<;>simp,h2⟩⟩
theorem ow_lo {k:IntKind} {w:Value} {cs:List Value} {s:Int} {i:Nat} (hm:m[i]?=some w) (h:OwS H w cs) (hs:0≤s∧s≤(cs.length:Int)):∃ a cap v',w=.slice a cs.length cap∧aslice 1 a cs.length cap (some (.int k s)) none none=some v'∧Den A m H (.ss i s ((cs.length:Int)-s)) v':=by
 obtain ⟨a,cap,rfl,hc,h2⟩:=h.shape
 have e:((cs.length:Int)-s).toNat=cs.length-s.toNat:=by omega
 simp only [aslice,optNat,asNat_ok hs]
 have key:∀ a',(a'=a.map (addOff · (s.toNat*1))∨cs.length=s.toNat)→((cs.length:Int)-s)≠0→∃ id,a=some ⟨id,0,none⟩∧a'=some ⟨id,s.toNat,none⟩:=by
  intro a' ha hne
  obtain ⟨id,rfl,_⟩:=h2 (fun e=>by subst e;simp at hs hne;omega)
  rcases ha with rfl | ha
  ·exact ⟨id,rfl,by simp [addOff]⟩
  ·omega
 by_cases hu:cap=UC
 ·subst hu
  refine ⟨a,UC,?_⟩
  rw [show UC.beq UC=true from Nat.beq_refl _]
  exact ⟨_,rfl,rfl,a,_,_,_,_,hm,by rw [e],hs.1,by omega,by omega,.inl rfl,key _ (.inl rfl)⟩
 ·refine ⟨a,cap,?_⟩
  rw [beq_false hu]
  obtain rfl:=hc.resolve_left hu
  by_cases hcs:cs.length=s.toNat
  ·rw [show cs.length.beq s.toNat=true by rw [hcs,Nat.beq_refl]]
   exact ⟨_,rfl,rfl,a,_,_,_,_,hm,by rw [e],hs.1,by omega,by omega,.inr (by omega),key _ (.inr hcs)⟩
  ·rw [beq_false hcs]
   exact ⟨_,rfl,rfl,a,_,_,_,_,hm,by rw [e];rfl,hs.1,by omega,by omega,.inr (by omega),key _ (.inl rfl)⟩
theorem ow_hi {k:IntKind} {w:Value} {cs:List Value} {s:Int} {i:Nat} (hm:m[i]?=some w) (h:OwS H w cs) (hs:0≤s∧s≤(cs.length:Int)):∃ a cap v',w=.slice a cs.length cap∧aslice 1 a cs.length cap none (some (.int k s)) none=some v'∧Den A m H (.ss i 0 s) v':=by
 obtain ⟨a,cap,rfl,hc,h2⟩:=h.shape
 simp only [aslice,optNat,asNat_ok hs,Nat.sub_zero]
 have key:∀ a',(a'=a.map (addOff · (0*1))∨a'=a)→s≠0→∃ id,a=some ⟨id,0,none⟩∧a'=some ⟨id,(0:Int).toNat,none⟩:=by
  intro a' ha hne
  obtain ⟨id,rfl,_⟩:=h2 (fun e=>by subst e;simp at hs;omega)
  rcases ha with rfl | rfl
  ·exact ⟨id,rfl,by simp [addOff]⟩
  ·exact ⟨id,rfl,rfl⟩
 by_cases hu:cap=UC
 ·subst hu
  refine ⟨a,UC,?_⟩
  rw [show UC.beq UC=true from Nat.beq_refl _]
  exact ⟨_,rfl,rfl,a,_,_,_,_,hm,rfl,Int.le_refl _,hs.1,by omega,.inl rfl,key _ (.inl rfl)⟩
 ·refine ⟨a,cap,?_⟩
  have hcap:cap=UC∨s.toNat≤cap:=.inr (by rw [hc.resolve_left hu];omega)
  rw [beq_false hu]
  cases cap.beq 0 with
  | true=>exact ⟨_,rfl,rfl,a,_,_,_,_,hm,rfl,Int.le_refl _,hs.1,by omega,hcap,key _ (.inr rfl)⟩
  | false=>exact ⟨_,rfl,rfl,a,_,_,_,_,hm,rfl,Int.le_refl _,hs.1,by omega,hcap,key _ (.inl rfl)⟩
theorem len_int (l:List Int):(intV l).length=l.length:=List.length_map _
theorem len_bool (l:List Bool):(boolV l).length=l.length:=List.length_map _
theorem own_at {s:St} (ho:Obs m s.objs H) {i:Nat} {w:Value} (hd:Den A m H (.s i) w) {o:Obj} (h:objAt s i=o) (hdd:o≠.dead):m[i]?=some w∧s.objs[i]?=some o∧ObjOk (Own m s.objs) m H w o:=by
 simp only [Den] at hd
 unfold objAt at h
 split at h
 ·rename_i o' ho'
  subst h
  exact ⟨hd.1,ho',ho.ok i _ w ho' hd.1⟩
 ·exact absurd h.symm hdd
theorem obj_at {s:St} (ho:Obs m s.objs H) {i:Nat} {w:Value} (hm:m[i]?=some w) {o:Obj} (h:objAt s i=o) (hdd:o≠.dead):s.objs[i]?=some o∧ObjOk (Own m s.objs) m H w o:=by
 unfold objAt at h
 split at h
 ·rename_i o' ho'
  subst h
  exact ⟨ho',ho.ok i _ w ho' hm⟩
 ·exact absurd h.symm hdd
def sliceV (esz:Nat) (arr:Option Nat) (w:Value) (lo hi mx:Option Value):Option Value:=
 match arr,w,mx with
 | none,.slice a len cap,mx=>bif esz.beq 0 then none else aslice esz a len cap lo hi mx
 | some n,.pointer (some a),none=>aslice esz (some a) n n lo hi none
 | _,_,_=>none
theorem sliceS_ok {s:St} (ho:Obs m s.objs H) {esz:Nat} {arr:Option Nat} {x:SV} {lo hi mx:Option SV} {w:Value} {lo' hi' mx':Option Value} {K:SV→Prop} (h:sliceS (std C tb B D) s esz arr x lo hi mx K) (hx:Den A m H x w)
  (hl:DenO A m H lo lo') (hh:DenO A m H hi hi') (hm:DenO A m H mx mx') :
  To A m H (sliceV esz arr w lo' hi' mx') K:=by
 cases mx with
 | some q=>exact h.elim
 | none=>
   have hm0:mx'=none:=by cases mx' with
    | none=>rfl
    | some x=>exact hm.elim
   subst hm0
   cases arr with
   | some n=>
     simp only [sliceS] at h
     split at h
     ·rename_i i off
      obtain ⟨h1,hq⟩:=when_elim h;clear h;have h:=hq;clear hq
      simp only [Bool.and_eq_true,Bool.not_eq_true'] at h1
      have hn:n.beq 0=false:=h1.1
      have he:=Nat.le_of_ble_eq_true h1.2
      have:lo'=none:=by cases lo' with
       | none=>rfl
       | some x=>exact hl.elim
      subst this
      have:hi'=none:=by cases hi' with
       | none=>rfl
       | some x=>exact hh.elim
      subst this
      simp only [Den] at hx
      obtain ⟨id,h2,rfl⟩:=hx
      by_cases hu:n=UC
      ·subst hu
       refine To.mk h (by simp only [sliceV,aslice,optNat,show UC.beq UC=true from Nat.beq_refl _,cond_true];rfl) ?_
       simp only [Den]
       exact ⟨id,_,h2,by simp [addOff];rfl,he⟩
      ·refine To.mk h (by simp only [sliceV,aslice,optNat,beq_false hu,cond_false,hn];rfl) ?_
       simp only [Den]
       exact ⟨id,_,h2,by simp [addOff];rfl,he⟩
     ·exact h.elim
   | none=>
     simp only [sliceS] at h
     obtain ⟨he,hq⟩:=when_elim h;clear h;have h:=hq;clear hq
     have he:=Nat.eq_of_beq_eq_true he
     subst he
     have lg:∀ {a:Int},(std C tb B D).le a=fun n=>0≤a∧a≤n:=rfl
     cases lo with
     | some lo=>
       cases hi with
       | some hi=>exact h.elim
       | none=>
       cases lo' with
       | none=>exact hl.elim
       | some lw=>
         have:hi'=none:=by cases hi' with
          | none=>rfl
          | some x=>exact hh.elim
         subst this
         obtain ⟨⟨k,a⟩,h1,hq⟩:=on_elim h;clear h;have h:=hq;clear hq
         obtain rfl:=asI_ok h1 hl
         split at h
         ·rename_i l
          obtain ⟨c1,hq⟩:=h;have h:=hq;clear hq
          obtain ⟨a',cap,v',rfl,q1,q2⟩:=rd_lo (k:=k) (s:=a) (show RdS A H w (intV l) from hx) (by rw [len_int];exact c1)
          exact To.mk h q1 (by show RdS A H v' (intV (l.drop a.toNat));unfold intV;rw [List.map_drop];exact q2)
         ·rename_i l
          obtain ⟨c1,hq⟩:=h;have h:=hq;clear hq
          obtain ⟨a',cap,v',rfl,q1,q2⟩:=rd_lo (k:=k) (s:=a) (show RdS A H w (boolV l) from hx) (by rw [len_bool];exact c1)
          exact To.mk h q1 (by show RdS A H v' (boolV (l.drop a.toNat));unfold boolV;rw [List.map_drop];exact q2)
         ·split at h
          ·rename_i i l hob
           obtain ⟨c1,hq⟩:=h;have h:=hq;clear hq
           obtain ⟨k1,k2,k3⟩:=own_at ho hx hob (by simp)
           obtain ⟨a',cap,v',rfl,q1,q2⟩:=ow_lo (A:=A) (k:=k) (s:=a) k1 (show OwS H w (intV l) from k3) (by rw [len_int];exact c1)
           rw [len_int] at q2
           exact To.mk h q1 q2
          ·exact h.elim
         ·exact h.elim
     | none=>
       cases hi with
       | none=>exact h.elim
       | some hi=>
       cases hi' with
       | none=>exact hh.elim
       | some lw=>
         have:lo'=none:=by cases lo' with
          | none=>rfl
          | some x=>exact hl.elim
         subst this
         obtain ⟨⟨k,a⟩,h1,hq⟩:=on_elim h;clear h;have h:=hq;clear hq
         obtain rfl:=asI_ok h1 hh
         split at h
         ·rename_i l
          obtain ⟨c1,hq⟩:=h;have h:=hq;clear hq
          obtain ⟨a',cap,v',rfl,q1,q2⟩:=rd_hi (k:=k) (s:=a) (show RdS A H w (intV l) from hx) (by rw [len_int];exact c1)
          exact To.mk h q1 (by show RdS A H v' (intV (l.take a.toNat));unfold intV;rw [List.map_take];exact q2)
         ·rename_i l
          obtain ⟨c1,hq⟩:=h;have h:=hq;clear hq
          obtain ⟨a',cap,v',rfl,q1,q2⟩:=rd_hi (k:=k) (s:=a) (show RdS A H w (boolV l) from hx) (by rw [len_bool];exact c1)
          exact To.mk h q1 (by show RdS A H v' (boolV (l.take a.toNat));unfold boolV;rw [List.map_take];exact q2)
         ·split at h
          ·rename_i i l hob
           obtain ⟨c1,hq⟩:=h;have h:=hq;clear hq
           obtain ⟨k1,k2,k3⟩:=own_at ho hx hob (by simp)
           obtain ⟨a',cap,v',rfl,q1,q2⟩:=ow_hi (A:=A) (k:=k) (s:=a) k1 (show OwS H w (intV l) from k3) (by rw [len_int];exact c1)
           exact To.mk h q1 q2
          ·exact h.elim
         ·exact h.elim
end
end Go.SX
end
section
set_option linter.unusedVariables false
set_option linter.unusedSimpArgs false
set_option linter.unusedSectionVars false
namespace Go.SX
open Go.AL
section
variable {A:Nat→Prop} {m:List Value} {H:AH} {E:Env} {e:T SV} {C:Ctx} {tb:List (List Int)} {B:AH} {D:Bs}
def lenV (str:Bool) (w:Value):Option Value:=match w with
 | .slice _ n _=>bif str then none else some (.int .i64 n)
 | .string s=>bif str then some (.int .i64 s.size) else none
 | _=>none
theorem lenS_ok {s:St} (ho:Obs m s.objs H) {str:Bool} {x:SV} {w:Value} {K:SV→Prop} (h:lenS (std C tb B D) s str x K) (hx:Den A m H x w):To A m H (lenV str w) K:=by
 unfold lenS at h
 split at h
 ·rename_i q
  obtain rfl:=(show w=_ from hx)
  cases str with
  | true=>exact To.mk h rfl rfl
  | false=>exact h.elim
 all_goals first
  | (exact h.elim)
  | (cases str with
     | true=>exact h.elim
     | false=>?_)
 ·rename_i l
  obtain ⟨a,c,rfl,_⟩:=(show RdS A H w (intV l) from hx)
  exact To.mk h rfl (by rw [len_int];rfl)
 ·rename_i l
  obtain ⟨a,c,rfl,_⟩:=(show RdS A H w (boolV l) from hx)
  exact To.mk h rfl (by rw [len_bool];rfl)
 ·obtain rfl:=(show w=_ from hx)
  exact To.mk h rfl rfl
 ·rename_i i
  simp only [cond_false] at h
  split at h
  ·rename_i l hob
   obtain ⟨k1,k2,k3⟩:=own_at ho hx hob (by simp)
   obtain ⟨a,c,rfl,_⟩:=OwS.shape (show OwS H w (intV l) from k3)
   exact To.mk h rfl (by rw [len_int];rfl)
  ·rename_i l hob
   obtain ⟨k1,k2,k3⟩:=own_at ho hx hob (by simp)
   obtain ⟨a,c,rfl,_⟩:=OwS.shape (show OwS H w (boolV l) from k3)
   exact To.mk h rfl (by rw [len_bool];rfl)
  ·rename_i hob
   obtain ⟨k1,k2,k3⟩:=own_at ho hx hob (by simp)
   obtain ⟨id,rfl,_⟩:=k3
   exact To.mk h rfl rfl
  ·exact h.elim
 ·rename_i i off len
  simp only [cond_false] at h
  split at h
  ·simp only [Den] at hx
   obtain ⟨a,n,c,a',c',_,rfl,_,h2,_⟩:=hx
   refine To.mk h rfl ?_
   show Value.int .i64 ((len.toNat:Nat):Int)=Value.int .i64 len
   rw [Int.toNat_of_nonneg h2]
  ·exact h.elim
 ·rename_i e cs
  simp only [Den] at hx
  obtain ⟨a,n,c,vs,rfl,h1,h2,_⟩:=hx
  refine To.mk h rfl ?_
  show Value.int .i64 (n:Int)=Value.int .i64 ((cs.length / e:Nat):Int)
  rw [h1,Nat.mul_div_cancel n (by omega)]
 ·rename_i i off n e
  simp only [Den] at hx
  obtain ⟨id,c,_,rfl,_⟩:=hx
  exact To.mk h rfl rfl
theorem RdC.one {vs:List Value} {ad ad':Addr} {n:Nat} {v:Value} (h:RdC A H ad vs) (hv:vs[n]?=some v) (h1:ad'.block=ad.block) (h2:ad'.off=ad.off+n):RdC A H ad' [v]:=by
 obtain ⟨bk,q1,q2,q3,q4⟩:=h
 refine ⟨bk,by rw [h1];exact q1,by rw [h1];exact q2,by rw [h1];exact q3,fun i u hu=>?_⟩
 cases i with
 | zero=>simp at hu;subst hu;rw [h2];exact q4 n v hv
 | succ i=>simp at hu
theorem gu_get {l:List Int} {a:Int} (h:0≤a∧a<(l.length:Int)):l[a.toNat]?=some (gu l a):=by
 unfold gu
 rw [List.getElem?_eq_getElem (by omega)];rfl
theorem gb_get {l:List Bool} {a:Int} (h:0≤a∧a<(l.length:Int)):l[a.toNat]?=some (gb l a):=by
 unfold gb
 rw [List.getElem?_eq_getElem (by omega)];rfl
theorem intV_get {l:List Int} {a:Int} (h:0≤a∧a<(l.length:Int)):(intV l)[a.toNat]?=some (uv (gu l a)):=by
 unfold intV
 rw [List.getElem?_map,gu_get h];rfl
theorem boolV_get {l:List Bool} {a:Int} (h:0≤a∧a<(l.length:Int)):(boolV l)[a.toNat]?=some (.bool (gb l a)):=by
 unfold boolV
 rw [List.getElem?_map,gb_get h];rfl
def idxV (esz:Nat) (arr:Option Nat) (w i:Value):Option Value:=match arr,w,i with
 | none,.slice (some a) len _,.int _ i=>if 0≤i∧i<(len:Int) then some (.pointer (some (addOff a (i.toNat*esz)))) else none
 | some n,.pointer (some a),.int _ i=>if 0≤i∧i<(n:Int) then some (.pointer (some (addOff a (i.toNat*esz)))) else none
 | _,_,_=>none
theorem idxS_ok {s:St} (ho:Obs m s.objs H) (hgl:Gl tb H) {esz:Nat} {arr:Option Nat} {x i:SV} {w wi:Value} {K:SV→Prop} (h:idxS (std C tb B D) tb s esz arr x i K) (hx:Den (Own m s.objs) m H x w) (hi:Den (Own m s.objs) m H i wi):To (Own m s.objs) m H (idxV esz arr w wi) K:=by
 have lit:∀ {j n:Nat},Nat.blt j n=true→(0:Int)≤(Int.ofNat j)∧(Int.ofNat j)<(n:Int):=fun {j n} hj=>by
  have:j<n:=Nat.le_of_ble_eq_true hj
  exact ⟨Int.natCast_nonneg j,by show (j:Int)<n;omega⟩
 cases arr with
 | none=>
   simp only [idxS] at h
   split at h
   ·rename_i l
    obtain ⟨he,hq⟩:=when_elim h;clear h
    obtain ⟨⟨k,a⟩,h1,h⟩:=on_elim hq;clear hq
    obtain rfl:=Nat.eq_of_beq_eq_true he
    obtain rfl:=asI_ok h1 hi
    obtain ⟨ad,c,rfl,_,h3⟩:=(show RdS _ H w (intV l) from hx)
    have c1:0≤a∧a<(l.length:Int):=h.1
    obtain ⟨ad,rfl,h5⟩:=h3 (fun e=>by have:=congrArg List.length e;rw [len_int] at this;simp at this;subst this;simp at c1;omega)
    refine To.mk h.2 (by simp only [idxV,len_int,if_pos c1];rfl) ?_
    simp only [Den]
    exact ⟨_,_,rfl,⟨_,[],rfl,rfl,rfl⟩,h5.one (intV_get c1) rfl (by simp [addOff])⟩
   ·rename_i l
    obtain ⟨he,hq⟩:=when_elim h;clear h
    obtain ⟨⟨k,a⟩,h1,h⟩:=on_elim hq;clear hq
    obtain rfl:=Nat.eq_of_beq_eq_true he
    obtain rfl:=asI_ok h1 hi
    obtain ⟨ad,c,rfl,_,h3⟩:=(show RdS _ H w (boolV l) from hx)
    have c1:0≤a∧a<(l.length:Int):=h.1
    obtain ⟨ad,rfl,h5⟩:=h3 (fun e=>by have:=congrArg List.length e;rw [len_bool] at this;simp at this;subst this;simp at c1;omega)
    refine To.mk h.2 (by simp only [idxV,len_bool,if_pos c1];rfl) ?_
    simp only [Den]
    exact ⟨_,_,rfl,⟨_,[],rfl,rfl,rfl⟩,h5.one (boolV_get c1) rfl (by simp [addOff])⟩
   ·rename_i j
    obtain ⟨he,hq⟩:=when_elim h;clear h
    obtain ⟨⟨k,a⟩,h1,h⟩:=on_elim hq;clear hq
    obtain rfl:=Nat.eq_of_beq_eq_true he
    obtain rfl:=asI_ok h1 hi
    have key:∀ {cs:List Value} {P:Prop},OwS H w cs→(0≤a∧a<(cs.length:Int))→m[j]?=some w→∃ id n c,w=.slice (some ⟨id,0,none⟩) n c∧n=cs.length:=by
     intro cs P ho2 c1 hm
     obtain ⟨ad,c,rfl,_,h3⟩:=ho2.shape
     obtain ⟨id,rfl,_⟩:=h3 (fun e=>by subst e;simp at c1;omega)
     exact ⟨id,_,c,rfl,rfl⟩
    split at h
    ·rename_i l hob
     have c1:0≤a∧a<(l.length:Int):=h.1
     obtain ⟨k1,k2,k3⟩:=own_at ho hx hob (by simp)
     obtain ⟨id,n,c,rfl,hn⟩:=key (P:=True) (show OwS H w (intV l) from k3) (by rw [len_int];exact c1) k1
     rw [len_int] at hn
     subst hn
     refine To.mk h.2 (by simp only [idxV,if_pos c1];rfl) ?_
     simp only [Den]
     exact ⟨id,_,c,k1,by simp [addOff]⟩
    ·rename_i l hob
     have c1:0≤a∧a<(l.length:Int):=h.1
     obtain ⟨k1,k2,k3⟩:=own_at ho hx hob (by simp)
     obtain ⟨id,n,c,rfl,hn⟩:=key (P:=True) (show OwS H w (boolV l) from k3) (by rw [len_bool];exact c1) k1
     rw [len_bool] at hn
     subst hn
     refine To.mk h.2 (by simp only [idxV,if_pos c1];rfl) ?_
     simp only [Den]
     exact ⟨id,_,c,k1,by simp [addOff]⟩
    ·exact h.elim
   ·rename_i e cs
    split at h
    ·rename_i k j
     obtain ⟨hc,hq⟩:=when_elim h;clear h
     simp only [Bool.and_eq_true] at hc
     obtain rfl:=Nat.eq_of_beq_eq_true hc.1.1
     have h2:=Nat.le_of_ble_eq_true hc.1.2
     simp only [Den] at hx
     obtain ⟨a,n,c,vs,rfl,q1,q2,q3,q4⟩:=hx
     obtain rfl:=(show wi=_ from hi)
     have hjn:j<n:=by
      rw [q1] at h2
      exact Nat.lt_of_succ_le (Nat.le_of_mul_le_mul_right h2 (by omega))
     have hvs:vs≠[]:=fun e0=>by
      have:=q3.len
      rw [e0] at this
      have h3:1≤(j+1)*esz:=Nat.mul_pos (by omega) (by omega)
      simp at this;omega
     obtain ⟨ad,rfl,q5⟩:=q4 hvs
     refine To.mk hq (by simp only [idxV];rw [if_pos (lit (Nat.ble_eq_true_of_le hjn))]) ?_
     simp only [Den]
     exact ⟨_,_,rfl,q3.drop _,q5.part rfl rfl⟩
    ·exact h.elim
   ·rename_i q off n e
    split at h
    ·rename_i k j
     obtain ⟨hc,hq⟩:=when_elim h;clear h
     simp only [Bool.and_eq_true] at hc
     obtain rfl:=Nat.eq_of_beq_eq_true hc.1
     simp only [Den] at hx
     obtain ⟨id,c,q1,rfl,q2⟩:=hx
     obtain rfl:=(show wi=_ from hi)
     refine To.mk hq (by simp only [idxV];rw [if_pos (lit hc.2)]) ?_
     simp only [Den]
     exact ⟨id,q1,rfl⟩
    ·exact h.elim
   ·exact h.elim
 | some n=>
   simp only [idxS] at h
   split at h
   ·rename_i q off
    split at h
    ·rename_i k j
     obtain ⟨hc,hq⟩:=when_elim h;clear h
     simp only [Den] at hx
     obtain ⟨id,q1,rfl⟩:=hx
     obtain rfl:=(show wi=_ from hi)
     refine To.mk hq (by simp only [idxV];rw [if_pos (lit hc)]) ?_
     simp only [Den]
     exact ⟨id,q1,rfl⟩
    ·exact h.elim
   ·rename_i cs
    split at h
    ·rename_i k j
     obtain ⟨hc,hq⟩:=when_elim h;clear h
     simp only [Den] at hx
     obtain ⟨ad,vs,rfl,q2,q3⟩:=hx
     obtain rfl:=(show wi=_ from hi)
     refine To.mk hq (by simp only [idxV];rw [if_pos (lit hc)]) ?_
     simp only [Den]
     exact ⟨_,_,rfl,q2.drop _,q3.part rfl rfl⟩
    ·exact h.elim
   ·rename_i g
    obtain ⟨⟨k,a⟩,h1,hq⟩:=on_elim h;clear h
    obtain ⟨l,h2,h⟩:=on_elim hq;clear hq
    obtain ⟨he,hq⟩:=when_elim h;clear h
    obtain rfl:=Nat.eq_of_beq_eq_true he
    obtain rfl:=asI_ok h1 hi
    obtain rfl:=(show w=_ from hx)
    obtain ⟨c0,c1,hq⟩:=hq
    have c0:0≤a∧a<(n:Int):=c0
    have c1:0≤a∧a<(l.length:Int):=c1
    obtain ⟨g1,g2⟩:=hgl g l h2
    refine To.mk hq (by simp only [idxV,if_pos c0];rfl) ?_
    simp only [Den]
    refine ⟨_,_,rfl,⟨_,[],rfl,rfl,rfl⟩,RdC.one (ad:=⟨g,0,none⟩) (vs:=intV l) ⟨_,g1,?_,g2,fun i v hv=>by rw [Nat.zero_add];exact hv⟩ (intV_get c1) rfl (by simp [addOff])⟩
    intro hown
    obtain ⟨_,bk,e1,e2⟩:=ho.lt hown
    rw [g2] at e1
    obtain rfl:=Option.some.inj e1
    exact e2 rfl
   ·exact h.elim
theorem foldS_ok {g:Int→Int→Int} {f:Value→Value→Option Value} (hf:∀ k k' a b,f (.int k a) (.int k' b)=some (.int k (g a b))):∀ {xs:List SV} {ws:List Value} {k:IntKind} {a c:Int},foldS g a xs=some c→DenL A m H xs ws→foldV f (.int k a) ws=some (.int k c)
 | [],ws,k,a,c,h,hd=>by simp only [DenL] at hd;subst hd;obtain rfl:=Option.some.inj h;rfl
 | x::xs,ws,k,a,c,h,hd=>by
   simp only [DenL] at hd
   obtain ⟨w,ws',rfl,h2,h3⟩:=hd
   simp only [foldS] at h
   split at h
   ·cases h
   ·rename_i k' b hb
    rw [asI_ok hb h2]
    simp only [foldV,hf]
    exact foldS_ok hf h h3
theorem br_elim {c:SV} {w:Value} {P Q:Unit→Prop} (h:br (std C tb B D) c P Q) (hd:Den A m H c w):∃ b,w=.bool b∧if b=true then P () else Q ():=by
 unfold br at h
 split at h
 ·obtain rfl:=(show w=_ from hd);exact ⟨true,rfl,h⟩
 ·obtain rfl:=(show w=_ from hd);exact ⟨false,rfl,h⟩
 ·rename_i x
  obtain rfl:=(show w=_ from hd)
  cases x with
  | true=>exact ⟨true,rfl,h.1 rfl⟩
  | false=>exact ⟨false,rfl,h.2 rfl⟩
 ·exact h.elim
theorem pureS {s:St} {op:IOp} {K:SV→St→Bool→Prop} (h:Wop (std C tb B D) tb op s K) (ht:op.touch=false) (hs:Sat tb B D m s E H):To (Own m s.objs) m H (AL.pop E op) fun x=>K x s false:=by
 have he:=hs.env
 have ho:=hs.obs
 cases op with
 | mov x=>
   obtain ⟨x1,h1,h2⟩:=on_elim h
   obtain ⟨w,h3,h4⟩:=sev_ok he h1
   exact To.mk h2 h3 h4
 | pick c a b=>
   obtain ⟨c1,h1,h2⟩:=on_elim h
   obtain ⟨w,h3,h4⟩:=sev_ok he h1
   obtain ⟨t,rfl,h5⟩:=br_elim h2 h4
   cases t with
   | true=>
     rw [if_pos rfl] at h5
     obtain ⟨x1,h6,h7⟩:=on_elim h5
     obtain ⟨w,h8,h9⟩:=sev_ok he h6
     exact To.mk h7 (by simp only [AL.pop,h3,h8]) h9
   | false=>
     rw [if_neg (by simp)] at h5
     obtain ⟨x1,h6,h7⟩:=on_elim h5
     obtain ⟨w,h8,h9⟩:=sev_ok he h6
     exact To.mk h7 (by simp only [AL.pop,h3,h8]) h9
 | build zero ps=>
   obtain ⟨cs,h1,h2⟩:=on_elim h
   obtain ⟨ws,h3,h4⟩:=sFill_ok he h1 (ofCs_ok zero)
   exact To.mk h2 (by simp only [AL.pop,h3]) ⟨ws,rfl,h4⟩
 | bin tk op x y=>
   obtain ⟨x1,h1,hq⟩:=on_elim h
   obtain ⟨y1,h2,h⟩:=on_elim hq
   obtain ⟨w,h3,h4⟩:=sev_ok he h1
   obtain ⟨v,h5,h6⟩:=sev_ok he h2
   obtain ⟨r,x',k1,k2,k3⟩:=binS_ok h h4 h6
   exact To.mk k3 (by simp only [AL.pop,h3,h5];exact k1) k2
 | un op x=>
   obtain ⟨x1,h1,hq⟩:=on_elim h
   obtain ⟨w,h3,h4⟩:=sev_ok he h1
   obtain ⟨r,x',k1,k2,k3⟩:=unS_ok hq h4
   exact To.mk k3 (by simp only [AL.pop,h3];exact k1) k2
 | conv k x=>
   obtain ⟨x1,h1,hq⟩:=on_elim h
   obtain ⟨w,h3,h4⟩:=sev_ok he h1
   obtain ⟨n,k',rfl,r,x',k1,k2,k3⟩:=convS_ok hq h4
   exact To.mk k3 (by simp only [AL.pop,h3];exact k1) k2
 | clo fn fs cs=>
   obtain ⟨x1,h1,hq⟩:=on_elim h
   obtain ⟨y1,h2,h⟩:=on_elim hq
   obtain ⟨ws,h3,h4⟩:=sevs_ok he h1
   obtain ⟨vs,h5,h6⟩:=sevs_ok he h2
   cases fn with
   | func k=>exact To.mk h (by simp only [AL.pop,h3,h5]) ⟨ws,vs,rfl,h4,h6⟩
   | _=>exact h.elim
 | slice esz arr x lo hi mx=>
   obtain ⟨x1,h1,hq⟩:=on_elim h;clear h
   obtain ⟨lo1,h2,h⟩:=on_elim hq;clear hq
   obtain ⟨hi1,h3,hq⟩:=on_elim h;clear h
   obtain ⟨mx1,h4,h⟩:=on_elim hq;clear hq
   obtain ⟨w,k1,k2⟩:=sev_ok he h1
   obtain ⟨lw,k3,k4⟩:=sevo_ok he h2
   obtain ⟨hw,k5,k6⟩:=sevo_ok he h3
   obtain ⟨mw,k7,k8⟩:=sevo_ok he h4
   obtain ⟨r,x',q1,q2,q3⟩:=sliceS_ok ho h k2 k4 k6 k8
   refine To.mk q3 ?_ q2
   cases arr with
   | none=>
     simp only [AL.pop,k1,k3,k5,k7]
     cases w<;>simp only [sliceV,reduceCtorEq] at q1 ⊢
     exact q1
   | some n=>
     simp only [AL.pop,k1,k3,k5,k7]
     cases w<;>simp only [sliceV,reduceCtorEq] at q1 ⊢
     rename_i a
     cases a<;>cases mw<;>simp only [sliceV,reduceCtorEq] at q1 ⊢
     exact q1
 | fieldAddr off x=>
   obtain ⟨x1,h1,hq⟩:=on_elim h
   obtain ⟨w,h3,h4⟩:=sev_ok he h1
   clear h
   split at hq
   ·simp only [Den] at h4
    obtain ⟨id,q1,rfl⟩:=h4
    refine To.mk hq (by simp only [AL.pop,h3];rfl) ?_
    simp only [Den]
    exact ⟨id,q1,rfl⟩
   ·simp only [Den] at h4
    obtain ⟨ad,vs,rfl,q2,q3⟩:=h4
    refine To.mk hq (by simp only [AL.pop,h3];rfl) ?_
    simp only [Den]
    exact ⟨_,_,rfl,q2.drop _,q3.part rfl rfl⟩
   ·exact hq.elim
 | field agg off x=>
   obtain ⟨x1,h1,hq⟩:=on_elim h
   obtain ⟨w,h3,h4⟩:=sev_ok he h1
   clear h
   split at hq
   ·obtain ⟨x',k1,k2⟩:=on_elim hq
    obtain ⟨ws,rfl,q1⟩:=h4
    obtain ⟨u,q2,q3⟩:=sPart_ok k1 q1
    exact To.mk k2 (by simp only [AL.pop,h3];exact q2) q3
   ·exact hq.elim
 | indexAddr esz arr x i=>
   obtain ⟨x1,h1,hq⟩:=on_elim h
   obtain ⟨y1,h2,h⟩:=on_elim hq
   obtain ⟨w,h3,h4⟩:=sev_ok he h1
   obtain ⟨v,h5,h6⟩:=sev_ok he h2
   obtain ⟨r,x',q1,q2,q3⟩:=idxS_ok ho hs.gl h h4 h6
   refine To.mk q3 ?_ q2
   cases arr with
   | none=>
     simp only [AL.pop,h3,h5]
     cases w<;>simp only [idxV,reduceCtorEq] at q1 ⊢
     rename_i a _ _
     cases a<;>cases v<;>simp only [idxV,reduceCtorEq] at q1 ⊢
     exact q1
   | some n=>
     simp only [AL.pop,h3,h5]
     cases w<;>simp only [idxV,reduceCtorEq] at q1 ⊢
     rename_i a
     cases a<;>cases v<;>simp only [idxV,reduceCtorEq] at q1 ⊢
     exact q1
 | index esz agg n x i=>
   obtain ⟨x1,h1,hq⟩:=on_elim h
   obtain ⟨y1,h2,h⟩:=on_elim hq
   obtain ⟨w,h3,h4⟩:=sev_ok he h1
   obtain ⟨v,h5,h6⟩:=sev_ok he h2
   clear hq
   split at h
   ·rename_i cs k j
    obtain ⟨c1,h7⟩:=when_elim h
    obtain ⟨x',k1,k2⟩:=on_elim h7
    obtain ⟨ws,rfl,q1⟩:=h4
    obtain rfl:=(show v=_ from h6)
    obtain ⟨u,q2,q3⟩:=sPart_ok k1 q1
    have c2:(0:Int)≤(Int.ofNat j)∧(Int.ofNat j)<(n:Int):=by
     have:j<n:=Nat.le_of_ble_eq_true c1
     exact ⟨Int.natCast_nonneg j,by show (j:Int)<n;omega⟩
    exact To.mk k2 (by simp only [AL.pop,h3,h5,if_pos c2];exact q2) q3
   ·exact h.elim
 | strIndex x i=>
   obtain ⟨x1,h1,hq⟩:=on_elim h;clear h
   obtain ⟨y1,h2,h⟩:=on_elim hq;clear hq
   obtain ⟨w,h3,h4⟩:=sev_ok he h1
   obtain ⟨v,h5,h6⟩:=sev_ok he h2
   obtain ⟨⟨k,a⟩,h7,hq⟩:=on_elim h;clear h
   obtain rfl:=asI_ok h7 h6
   dsimp only at hq
   split at hq
   ·rename_i q
    obtain ⟨c1,h8⟩:=hq
    have c1:0≤a∧a<(q.size:Int):=c1
    obtain rfl:=(show w=_ from h4)
    have hb:∃ x,q[a.toNat]?=some x:=⟨_,getElem?_pos q a.toNat (by omega)⟩
    obtain ⟨x,hx⟩:=hb
    refine To.mk h8 (by simp only [AL.pop,h3,h5,if_pos c1.1,hx];rfl) ?_
    show Value.int .u8 (x.toNat:Int)=Value.int .u8 (sgS q a)
    unfold sgS
    rw [hx]
   ·exact hq.elim
 | extract x j=>
   obtain ⟨x1,h1,hq⟩:=on_elim h
   obtain ⟨w,h3,h4⟩:=sev_ok he h1
   clear h
   split at hq
   ·obtain ⟨x',k1,k2⟩:=on_elim hq
    obtain ⟨ws,rfl,q1⟩:=h4
    obtain ⟨u,q2,q3⟩:=q1.get k1
    exact To.mk k2 (by simp only [AL.pop,h3];exact q2) q3
   ·exact hq.elim
 | len str x=>
   obtain ⟨x1,h1,hq⟩:=on_elim h
   obtain ⟨w,h3,h4⟩:=sev_ok he h1
   obtain ⟨r,x',q1,q2,q3⟩:=lenS_ok ho hq h4
   refine To.mk q3 ?_ q2
   simp only [AL.pop,h3]
   cases w<;>simp only [lenV,reduceCtorEq] at q1 ⊢
   ·exact q1
   ·exact q1
 | lenArr n=>exact To.mk (x:=.n .i64 n) h rfl rfl
 | max xs=>
   obtain ⟨x1,h1,hq⟩:=on_elim h
   obtain ⟨ws,h3,h4⟩:=sevs_ok he h1
   clear h
   split at hq
   ·rename_i x r
    obtain ⟨⟨k,a⟩,h7,h⟩:=on_elim hq
    obtain ⟨c,h8,h9⟩:=on_elim h
    simp only [DenL] at h4
    obtain ⟨w,ws',rfl,q1,q2⟩:=h4
    obtain rfl:=asI_ok h7 q1
    exact To.mk h9 (by simp only [AL.pop,h3];exact foldS_ok (fun k k' a b=>AL.amax_mx k k' a b) h8 q2) rfl
   ·exact hq.elim
 | min xs=>
   obtain ⟨x1,h1,hq⟩:=on_elim h
   obtain ⟨ws,h3,h4⟩:=sevs_ok he h1
   clear h
   split at hq
   ·rename_i x r
    obtain ⟨⟨k,a⟩,h7,h⟩:=on_elim hq
    obtain ⟨c,h8,h9⟩:=on_elim h
    simp only [DenL] at h4
    obtain ⟨w,ws',rfl,q1,q2⟩:=h4
    obtain rfl:=asI_ok h7 q1
    exact To.mk h9 (by simp only [AL.pop,h3];exact foldS_ok (fun k k' a b=>AL.amin_mn k k' a b) h8 q2) rfl
   ·exact hq.elim
 | _=>cases ht
end
end Go.SX
end
section
set_option linter.unusedVariables false
set_option linter.unusedSimpArgs false
set_option linter.unusedSectionVars false
namespace Go.SX
open Go.AL
section
variable {A:Nat→Prop} {m:List Value} {H:AH} {E:Env} {C:Ctx} {tb:List (List Int)} {B:AH} {D:Bs} {s:St}
theorem Sat.add (hs:Sat tb B D m s E H) {o:Obj} {v:Value} {H':AH} (hn:H.n≤H'.n) (hg:∀ id,id<H.n→H'.t.get id=H.t.get id) (hw:∀ x,x≤H.wl→x≤H.n→x≤H'.wl)
  (hb:∀ id,blkOf v=some id→H.n≤id) (ho:(∀ x w,Den (Own m s.objs) m H x w→Den (Own (m++[v]) (s.objs++[o])) (m++[v]) H' x w)→(∀ xs ws,DenL (Own m s.objs) m H xs ws→DenL (Own (m++[v]) (s.objs++[o])) (m++[v]) H' xs ws)→ObjOk (Own (m++[v]) (s.objs++[o])) (m++[v]) H' v o) :
  Sat tb B D (m++[v]) (s.add o) E H'∧(∀ x w,Den (Own m s.objs) m H x w→Den (Own (m++[v]) (s.objs++[o])) (m++[v]) H' x w)∧(m++[v])[s.objs.length]?=some v:=by
 have one:∀ {α:Type} {i:Nat} {a b:α},[a][i]?=some b→i=0∧b=a:=by
  intro α i a b h
  cases i with
  | zero=>simp at h;exact ⟨rfl,h.symm⟩
  | succ i=>simp at h
 have hpre:∀ j v',m[j]?=some v'→(m++[v])[j]?=some v':=fun j v' hj=>by
  rw [List.getElem?_append_left (List.getElem?_eq_some_iff.1 hj).1];exact hj
 have hA0:∀ id,id<H.n→Own (m++[v]) (s.objs++[o]) id→Own m s.objs id:=by
  rintro id hid ⟨i,o',v',h1,h2,h3,h4⟩
  by_cases hi:i<s.objs.length
  ·rw [List.getElem?_append_left hi] at h1
   rw [List.getElem?_append_left (by rw [hs.obs.len];exact hi)] at h3
   exact ⟨i,o',v',h1,h2,h3,h4⟩
  ·rw [List.getElem?_append_right (by rw [hs.obs.len];omega)] at h3
   obtain ⟨_,rfl⟩:=one h3
   have:=hb id h4
   omega
 have hden:∀ x w,Den (Own m s.objs) m H x w→Den (Own (m++[v]) (s.objs++[o])) (m++[v]) H' x w:=fun x w h=>Den.mono hA0 hn (fun id hid _=>hg id hid) x w (fun j v' _ hj=>hpre j v' hj) h
 have hdenL:∀ xs ws,DenL (Own m s.objs) m H xs ws→DenL (Own (m++[v]) (s.objs++[o])) (m++[v]) H' xs ws:=fun x w h=>DenL.mono hA0 hn (fun id hid _=>hg id hid) x w (fun j v' _ hj=>hpre j v' hj) h
 obtain ⟨h1,hA⟩:=hs.obs.adds (m1:=[v]) (os:=[o]) (H':=H') hn hg rfl (fun i o' v' id e1 _ e3 e4=>by
   obtain ⟨_,rfl⟩:=one e3;exact hb id e4) (fun i j o1 o2 v1 v2 id e1 _ e3 _ e5 e6 _ _=>by
   obtain ⟨rfl,_⟩:=one e1;obtain ⟨rfl,_⟩:=one e3;rfl) (fun i o' v' e1 e2=>by
   obtain ⟨_,rfl⟩:=one e1;obtain ⟨_,rfl⟩:=one e2;exact ho hden hdenL)
 refine ⟨⟨h1,?_,?_,?_,?_,?_⟩,hden,by rw [←hs.obs.len];simp⟩
 ·intro id hid
  by_cases hlt:id<H.n
  ·exact hs.own id (hA id hlt hid)
  ·exact .inl (Nat.le_trans hs.fr.n (by omega))
 ·intro t x hx
  obtain ⟨w,e1,e2⟩:=hs.env t x hx
  exact ⟨w,e1,hden x w e2⟩
 ·exact ⟨Nat.le_trans hs.fr.n hn,fun id hid hd=>by rw [hg id (Nat.lt_of_lt_of_le hid hs.fr.n)];exact hs.fr.get id hid hd,fun x h1 h2 h3=>hw x (hs.fr.wl x h1 h2 h3) (Nat.le_trans h2 hs.fr.n)⟩
 ·intro i v' hv
  obtain ⟨k1,cs,k2⟩:=hs.fix i v' hv
  exact ⟨hpre i v' k1,cs,by show (s.objs++[o])[i]?=_;rw [List.getElem?_append_left (List.getElem?_eq_some_iff.1 k2).1];exact k2⟩
 ·intro k l hk
  obtain ⟨g1,g2⟩:=hs.gl k l hk
  exact ⟨Nat.lt_of_lt_of_le g1 hn,by rw [hg k g1];exact g2⟩
theorem Sat.newB (hs:Sat tb B D m s E H) {o:Obj} {v:Value} {b:Blk} (hb:blkOf v=some H.n)
  (ho:(∀ x w,Den (Own m s.objs) m H x w→Den (Own (m++[v]) (s.objs++[o])) (m++[v]) (H.new b) x w)→(∀ xs ws,DenL (Own m s.objs) m H xs ws→DenL (Own (m++[v]) (s.objs++[o])) (m++[v]) (H.new b) xs ws)→ObjOk (Own (m++[v]) (s.objs++[o])) (m++[v]) (H.new b) v o) :
  Sat tb B D (m++[v]) (s.add o) E (H.new b)∧(∀ x w,Den (Own m s.objs) m H x w→Den (Own (m++[v]) (s.objs++[o])) (m++[v]) (H.new b) x w)∧(m++[v])[s.objs.length]?=some v:=
 hs.add (Nat.le_succ _) (fun id hid=>by show (H.t.set H.n b).get id=_;rw [T.get_set_ne _ _ (by omega)]) (fun x h _=>h) (fun id e=>by rw [hb] at e;cases e;exact Nat.le_refl _) ho
theorem new_get (H:AH) (b:Blk):(H.new b).t.get H.n=some b:=T.get_set_self _ _ _
theorem new_lt (H:AH) (b:Blk):H.n<(H.new b).n:=Nat.lt_succ_self _
theorem part_rd {agg:Option Nat} {vs cs:List Value} {off:Nat} {w:Value} (h:AL.part agg vs 0=some w) (hc:∀ i v,vs[i]?=some v→cs[off+i]?=some v):AL.part agg cs off=some w:=by
 cases agg with
 | none=>exact hc 0 w h
 | some n=>
   simp only [AL.part,takeCells,List.drop_zero] at h ⊢
   cases hb:(vs.take n).length.beq n with
   | false=>simp only [hb,cond_false,reduceCtorEq] at h
   | true=>
     simp only [hb,cond_true] at h
     have hlen:=Nat.eq_of_beq_eq_true hb
     have e:(cs.drop off).take n=vs.take n:=by
      apply List.ext_getElem?
      intro i
      by_cases hi:i<n
      ·rw [List.getElem?_take,if_pos hi,List.getElem?_drop,List.getElem?_take,if_pos hi]
       have hv:i<vs.length:=by rw [List.length_take] at hlen;omega
       rw [List.getElem?_eq_getElem hv]
       exact hc i _ (List.getElem?_eq_getElem hv)
      ·rw [List.getElem?_take,if_neg hi,List.getElem?_take,if_neg hi]
     rw [e,hb]
     exact h
def loadV (H:AH) (agg:Option Nat) (w:Value):Option Value:=match w with
 | .pointer (some a)=>(match H.t.get a.block with
   | some b=>AL.part agg b.cells a.off
   | none=>none)
 | _=>none
theorem loadS_ok (ho:Obs m s.objs H) {agg:Option Nat} {x:SV} {w:Value} {K:SV→Prop} (h:loadS (std C tb B D) s agg x K) (hx:Den (Own m s.objs) m H x w):To (Own m s.objs) m H (loadV H agg w) K:=by
 unfold loadS at h
 split at h
 ·rename_i cs
  obtain ⟨y,h1,h2⟩:=on_elim h
  simp only [Den] at hx
  obtain ⟨ad,vs,rfl,q1,bk,q2,q3,q4,q5⟩:=hx
  obtain ⟨u,q6,q7⟩:=sPart_ok h1 q1
  exact To.mk h2 (by simp only [loadV,q4];exact part_rd q6 q5) q7
 ·rename_i i off
  split at h
  ·rename_i cs hob
   obtain ⟨y,h1,h2⟩:=on_elim h
   simp only [Den] at hx
   obtain ⟨id,q1,rfl⟩:=hx
   obtain ⟨k1,k2⟩:=obj_at ho q1 hob (by simp)
   obtain ⟨id',vs,e,q3,q4,q5⟩:=k2
   simp only [Value.pointer.injEq,Option.some.injEq,Addr.mk.injEq] at e
   obtain ⟨rfl,_⟩:=e
   obtain ⟨u,q6,q7⟩:=sPart_ok h1 q5
   exact To.mk h2 (by simp only [loadV,q4];exact q6) q7
  ·exact h.elim
 ·rename_i i a
  obtain ⟨h1,hq⟩:=when_elim h
  clear h
  have:agg=none:=by cases agg with
   | none=>rfl
   | some n=>cases h1
  subst this
  simp only [Den] at hx
  obtain ⟨id,n,c,q1,rfl⟩:=hx
  have key:∀ {cs:List Value},OwS H (.slice (some ⟨id,0,none⟩) n c) cs→∃ kd,H.t.get id=some ⟨cs,kd⟩:=by
   rintro cs (⟨e,_⟩ | ⟨id',c',kd,e,hk,h1,h2⟩)
   ·cases e
   ·cases e;exact ⟨kd,h2⟩
  split at hq
  ·rename_i l hob
   obtain ⟨c1,h2⟩:=hq
   obtain ⟨k1,k2⟩:=obj_at ho q1 hob (by simp)
   obtain ⟨kd,k3⟩:=key k2
   exact To.mk h2 (by simp only [loadV,k3];exact intV_get c1) rfl
  ·rename_i l hob
   obtain ⟨c1,h2⟩:=hq
   obtain ⟨k1,k2⟩:=obj_at ho q1 hob (by simp)
   obtain ⟨kd,k3⟩:=key k2
   exact To.mk h2 (by simp only [loadV,k3];exact boolV_get c1) rfl
  ·exact hq.elim
 ·exact h.elim
def ToH (tb:List (List Int)) (B:AH) (D:Bs) (E:Env) (r:Option (Value×AH)) (K:SV→St→Bool→Prop):Prop:=
 ∃ w x s' H1 m',r=some (w,H1)∧Sat tb B D m' s' E H1∧Den (Own m' s'.objs) m' H1 x w∧K x s' false
theorem den_o {i id off:Nat} (h:m[i]?=some (.pointer (some ⟨id,0,none⟩))):Den A m H (.o i off) (.pointer (some ⟨id,off,none⟩)):=by
 simp only [Den];exact ⟨id,h,rfl⟩
theorem den_s {i n c:Nat} {a:Option Addr} (h:m[i]?=some (.slice a n c)):Den A m H (.s i) (.slice a n c):=by
 simp only [Den];exact ⟨h,_,_,_,rfl⟩
theorem den_os {i id off n c e:Nat} (h:m[i]?=some (.pointer (some ⟨id,0,none⟩))) (he:1≤e):Den A m H (.os i off n e) (.slice (some ⟨id,off,none⟩) n c):=by
 simp only [Den];exact ⟨id,c,h,rfl,he⟩
theorem ToH.mk {r:Option (Value×AH)} {K:SV→St→Bool→Prop} {w:Value} {x:SV} {s':St} {H1:AH} {m':List Value} (h:K x s' false) (h1:Sat tb B D m' s' E H1) (hr:r=some (w,H1)) (hd:Den (Own m' s'.objs) m' H1 x w):ToH tb B D E r K:=⟨w,x,s',H1,m',hr,h1,hd,h⟩
theorem hopS {op:IOp} {K:SV→St→Bool→Prop} (h:Wop (std C tb B D) tb op s K) (ht:op.touch=true) (hw:op.wrt=false) (hs:Sat tb B D m s E H):ToH tb B D E (AL.hop E H op) K:=by
 have he:=hs.env
 have ho:=hs.obs
 cases op with
 | new zero=>
   obtain ⟨h1,h2,h3⟩:=hs.newB (o:=.x (zero.map ofC)) (v:=.pointer (some ⟨H.n,0,none⟩)) (b:=⟨zero,0⟩) rfl (fun _ _=>⟨H.n,zero,rfl,new_lt _ _,new_get _ _,ofCs_ok zero⟩)
   exact ToH.mk h h1 rfl (den_o h3)
 | box x=>
   obtain ⟨x1,q1,q2⟩:=on_elim h
   obtain ⟨q3,q4⟩:=when_elim q2
   obtain ⟨w,k1,k2⟩:=sev_ok he q1
   obtain ⟨h1,h2,h3⟩:=hs.newB (o:=.x (sCells x1)) (v:=.pointer (some ⟨H.n,0,none⟩)) (b:=⟨cellsOf w,0⟩) rfl (fun _ hd=>⟨H.n,_,rfl,new_lt _ _,new_get _ _,hd _ _ (sCells_ok k2 q3)⟩)
   exact ToH.mk q4 h1 (by simp only [AL.hop,k1,noJunk_ok k2 q3,cond_false]) (den_o h3)
 | buildSlice zero len ps=>
   obtain ⟨cs,q1,q2⟩:=on_elim h
   obtain ⟨ws,q3,q4⟩:=sFill_ok he q1 (ofCs_ok zero)
   have hop:AL.hop E H (.buildSlice zero len ps)=some (.slice (some ⟨H.n,0,none⟩) len len,H.new ⟨ws,0⟩):=by simp only [AL.hop,q3]
   rw [hop]
   have own:∀ {cs':List Value},ws=cs'→len.beq cs.length=true→OwS (H.new ⟨ws,0⟩) (.slice (some ⟨H.n,0,none⟩) len len) cs':=by
    rintro _ rfl hl
    have hl:=Nat.eq_of_beq_eq_true hl
    subst hl
    exact .inr ⟨H.n,cs.length,0,by rw [q4.len],.inr ⟨q4.len.symm,rfl⟩,new_lt _ _,new_get _ _⟩
   split at q2
   ·obtain ⟨c1,q5⟩:=when_elim q2
    simp only [Bool.and_eq_true] at c1
    obtain rfl:=Nat.eq_of_beq_eq_true c1.1
    have hws:ws=[]:=List.length_eq_zero_iff.1 (by rw [q4.len];exact Nat.eq_of_beq_eq_true c1.2)
    subst hws
    obtain ⟨h1,h2,h3⟩:=hs.newB (o:=.e) (v:=.slice (some ⟨H.n,0,none⟩) 0 0) (b:=⟨[],0⟩) rfl (fun _ _=>⟨H.n,rfl,new_lt _ _,new_get _ _⟩)
    exact ToH.mk q5 h1 rfl (den_s h3)
   ·unfold sel at q2
    split at q2
    ·rename_i hl
     obtain ⟨c1,q5⟩:=when_elim q2
     obtain ⟨l,q6,q7⟩:=on_elim q5
     have hk:=kn_inj c1
     subst hk
     obtain ⟨h1,h2,h3⟩:=hs.newB (o:=.u l) (v:=.slice (some ⟨H.n,0,none⟩) len len) (b:=⟨ws,0⟩) rfl (fun _ _=>own (allI_ok q6 q4) hl)
     exact ToH.mk q7 h1 rfl (den_s h3)
    ·obtain ⟨c1,q5⟩:=when_elim q2
     obtain ⟨h1,h2,h3⟩:=hs.newB (o:=.x cs) (v:=.pointer (some ⟨H.n,0,none⟩)) (b:=⟨ws,0⟩) rfl (fun _ hd=>⟨H.n,_,rfl,new_lt _ _,new_get _ _,hd _ _ q4⟩)
     exact ToH.mk q5 h1 rfl (den_os h3 (Nat.le_of_ble_eq_true c1))
   ·obtain ⟨c1,q5⟩:=when_elim q2
    obtain ⟨l,q6,q7⟩:=on_elim q5
    obtain ⟨h1,h2,h3⟩:=hs.newB (o:=.b l) (v:=.slice (some ⟨H.n,0,none⟩) len len) (b:=⟨ws,0⟩) rfl (fun _ _=>own (allB_ok q6 q4) c1)
    exact ToH.mk q7 h1 rfl (den_s h3)
   ·obtain ⟨c1,q5⟩:=when_elim q2
    obtain ⟨h1,h2,h3⟩:=hs.newB (o:=.x cs) (v:=.pointer (some ⟨H.n,0,none⟩)) (b:=⟨ws,0⟩) rfl (fun _ hd=>⟨H.n,_,rfl,new_lt _ _,new_get _ _,hd _ _ q4⟩)
    exact ToH.mk q5 h1 rfl (den_os h3 (Nat.le_of_ble_eq_true c1))
 | load agg x=>
   obtain ⟨x1,q1,q2⟩:=on_elim h
   obtain ⟨w,k1,k2⟩:=sev_ok he q1
   obtain ⟨u,y,h1,h2,h3⟩:=loadS_ok ho q2 k2
   refine ⟨u,y,s,H,m,?_,hs,h2,h3⟩
   simp only [AL.hop,k1]
   cases w<;>simp only [loadV,reduceCtorEq] at h1 ⊢
   rename_i a
   cases a<;>simp only [loadV,reduceCtorEq] at h1 ⊢
   rename_i a
   cases hb:H.t.get a.block with
   | none=>simp [hb] at h1
   | some b=>
     simp only [hb] at h1 ⊢
     rw [h1]
 | make esz y zero l c=>
   obtain ⟨l1,q1,hq⟩:=on_elim h;clear h
   obtain ⟨c1,q2,h⟩:=on_elim hq;clear hq
   obtain ⟨q3,hq⟩:=when_elim h;clear h
   obtain rfl:=Nat.eq_of_beq_eq_true q3
   obtain ⟨⟨k,a⟩,q4,h⟩:=on_elim hq;clear hq
   obtain ⟨⟨k',a'⟩,q5,hq⟩:=on_elim h;clear h
   obtain ⟨w,k1,k2⟩:=sev_ok he q1
   obtain ⟨w',k3,k4⟩:=sev_ok he q2
   obtain rfl:=asI_ok q4 k2
   obtain rfl:=asI_ok q5 k4
   dsimp only at hq
   split at hq
   ·rename_i kz z
    obtain ⟨q6,h⟩:=when_elim hq
    simp only [Bool.and_eq_true] at q6
    have hk:=kn_inj q6.1
    subst hk
    have hz:z=0:=by
     have:=q6.2
     cases z with
     | ofNat n=>cases n with
       | zero=>rfl
       | succ n=>cases this
     | negSucc n=>cases this
    subst hz
    obtain ⟨c2,rfl,h⟩:=h
    have c2:0≤a'∧a'≤2^40:=c2
    have cc:0≤a'∧a'≤a'∧a'≤2^40:=⟨c2.1,Int.le_refl _,c2.2⟩
    obtain ⟨h1,h2,h3⟩:=hs.newB (o:=.u (List.replicate a'.toNat 0)) (v:=.slice (some ⟨H.n,0,none⟩) a'.toNat a'.toNat) (b:=⟨intV (List.replicate a'.toNat 0),0⟩) rfl
     (fun _ _=>.inr ⟨H.n,a'.toNat,0,by rw [len_int];simp,.inr ⟨by rw [len_int];simp,rfl⟩,new_lt _ _,new_get _ _⟩)
    refine ToH.mk h h1 ?_ (den_s h3)
    simp only [AL.hop,k1,k3,if_pos cc]
    rw [map_repU];rfl
   ·obtain ⟨c2,rfl,h⟩:=hq
    have c2:0≤a'∧a'≤2^40:=c2
    have cc:0≤a'∧a'≤a'∧a'≤2^40:=⟨c2.1,Int.le_refl _,c2.2⟩
    obtain ⟨h1,h2,h3⟩:=hs.newB (o:=.b (List.replicate a'.toNat false)) (v:=.slice (some ⟨H.n,0,none⟩) a'.toNat a'.toNat) (b:=⟨boolV (List.replicate a'.toNat false),0⟩) rfl
     (fun _ _=>.inr ⟨H.n,a'.toNat,0,by rw [len_bool];simp,.inr ⟨by rw [len_bool];simp,rfl⟩,new_lt _ _,new_get _ _⟩)
    refine ToH.mk h h1 ?_ (den_s h3)
    simp only [AL.hop,k1,k3,if_pos cc]
    rw [map_rep];rfl
   ·exact hq.elim
 | _=>first | (cases ht;done) | (cases hw;done)
end
end Go.SX
end
section
set_option linter.unusedVariables false
set_option linter.unusedSimpArgs false
set_option linter.unusedSectionVars false
namespace Go.SX
open Go.AL
section
variable {A:Nat→Prop} {m:List Value} {H:AH} {E:Env} {C:Ctx} {tb:List (List Int)} {B:AH} {D:Bs} {s:St}
theorem Sat.upd (hs:Sat tb B D m s E H) {i:Nat} {oi o':Obj} {vi v':Value} {s':St} {H':AH} (hi:s.objs[i]?=some oi) (hdi:oi≠.dead) (hv:m[i]?=some vi) (hn:H.n≤H'.n)
  (hg:∀ id,id<H.n→blkOf vi≠some id→H'.t.get id=H.t.get id) (hw:∀ x,x≤H.wl→x≤H.n→(∀ id,blkOf vi=some id→x≤id)→x≤H'.wl) (hb:∀ id,blkOf v'=some id→H.n≤id∨blkOf vi=some id) (hl:s'.objs.length=s.objs.length) (hoi:s'.objs[i]?=some o')
  (hoj:∀ (j:Nat) (o:Obj),j≠i→s'.objs[j]?=some o→∃ o0,s.objs[j]?=some o0∧(o=o0∧(v'=vi∨(match o with | .x cs=>menL i cs | _=>false)=false)∨∃ cs cs0,o=.x cs∧o0=.x cs0∧∀ (A:Nat→Prop) (m:List Value) (H:AH) vs,DenL A m H cs0 vs→DenL A m H cs vs∧(v'=vi∨menL i cs=false)))
  (henv:∀ t x,s'.env.get t=some x→x=.any∧(∃ y,s.env.get t=some y)∨s.env.get t=some x∧(v'=vi∨men i x=false))
  (hx:(∃ cs,oi=.x cs)→v'=vi∧∃ cs,o'=.x cs)
  (ho:(∀ x w,(v'=vi∨men i x=false)→Den (Own m s.objs) m H x w→Den (Own (m.set i v') s'.objs) (m.set i v') H' x w)→(∀ xs ws,(v'=vi∨menL i xs=false)→DenL (Own m s.objs) m H xs ws→DenL (Own (m.set i v') s'.objs) (m.set i v') H' xs ws)→ObjOk (Own (m.set i v') s'.objs) (m.set i v') H' v' o') :
  Sat tb B D (m.set i v') s' E H'∧(m.set i v')[i]?=some v':=by
 have hmi:i<m.length:=(List.getElem?_eq_some_iff.1 hv).1
 have sp:∀ {j:Nat} {v:Value},(m.set i v')[j]?=some v→(j=i∧v=v')∨(j≠i∧m[j]?=some v):=by
  intro j v hj
  by_cases e:j=i
  ·subst e
   rw [List.getElem?_set_self hmi] at hj
   exact .inl ⟨rfl,(Option.some.inj hj).symm⟩
  ·rw [List.getElem?_set_ne (Ne.symm e)] at hj
   exact .inr ⟨e,hj⟩
 have hA:∀ id,id<H.n→Own (m.set i v') s'.objs id→Own m s.objs id:=by
  rintro id hid ⟨j,o,v,h1,h2,h3,h4⟩
  rcases sp h3 with ⟨rfl,rfl⟩ | ⟨hj,h3⟩
  ·rcases hb id h4 with h5 | h5
   ·omega
   ·exact ⟨j,oi,vi,hi,hdi,hv,h5⟩
  ·obtain ⟨o0,k1,k2⟩:=hoj j o hj h1
   refine ⟨j,o0,v,k1,?_,h3,h4⟩
   rcases k2 with ⟨rfl,_⟩ | ⟨cs,cs0,rfl,rfl,_⟩
   ·exact h2
   ·simp
 have hgA:∀ id,id<H.n→¬ Own m s.objs id→H'.t.get id=H.t.get id:=fun id hid ho=>hg id hid fun e=>ho ⟨i,oi,vi,hi,hdi,hv,e⟩
 have hmm:∀ j v,(v'=vi∨j≠i)→m[j]?=some v→(m.set i v')[j]?=some v:=by
  intro j v hj h1
  by_cases e:j=i
  ·subst e
   rcases hj with rfl | hj
   ·rw [List.getElem?_set_self hmi,←hv];exact h1
   ·exact absurd rfl hj
  ·rw [List.getElem?_set_ne (Ne.symm e)];exact h1
 have hden:∀ x w,(v'=vi∨men i x=false)→Den (Own m s.objs) m H x w→Den (Own (m.set i v') s'.objs) (m.set i v') H' x w:=fun x w hx h=>
  Den.mono hA hn hgA x w (fun j v hj=>hmm j v (hx.imp_right fun hx e=>by subst e;rw [hx] at hj;cases hj)) h
 have hdenL:∀ xs ws,(v'=vi∨menL i xs=false)→DenL (Own m s.objs) m H xs ws→DenL (Own (m.set i v') s'.objs) (m.set i v') H' xs ws:=fun x w hx h=>
  DenL.mono hA hn hgA x w (fun j v hj=>hmm j v (hx.imp_right fun hx e=>by subst e;rw [hx] at hj;cases hj)) h
 obtain ⟨h1,_⟩:=hs.obs.upd (H':=H') hi hdi hv hn hg hb hl hoi hoj (ho hden hdenL)
 have hoi':Own m s.objs=Own m s.objs:=rfl
 refine ⟨⟨h1,?_,?_,?_,?_,?_⟩,List.getElem?_set_self hmi⟩
 ·intro id hid
  by_cases hlt:id<H.n
  ·exact hs.own id (hA id hlt hid)
  ·exact .inl (Nat.le_trans hs.fr.n (by omega))
 ·intro t x hx
  rcases henv t x hx with ⟨rfl,y,hy⟩ | ⟨k1,k2⟩
  ·obtain ⟨w,e1,e2⟩:=hs.env t y hy
   exact ⟨w,e1,trivial⟩
  ·obtain ⟨w,e1,e2⟩:=hs.env t x k1
   exact ⟨w,e1,hden x w k2 e2⟩
 ·have own:∀ id,blkOf vi=some id→B.n≤id∨D.d id:=fun id e=>hs.own id ⟨i,oi,vi,hi,hdi,hv,e⟩
  refine ⟨Nat.le_trans hs.fr.n hn,fun id hid hd=>?_,fun x h1 h2 h3=>hw x (hs.fr.wl x h1 h2 h3) (Nat.le_trans h2 hs.fr.n) fun id e=>?_⟩
  ·rw [hg id (Nat.lt_of_lt_of_le hid hs.fr.n) fun e=>?_]
   ·exact hs.fr.get id hid hd
   ·rcases own id e with h | h
    ·omega
    ·exact hd h
  ·rcases own id e with h | h
   ·omega
   ·exact h3 id h
 ·intro j v hv'
  obtain ⟨k1,cs,k2⟩:=hs.fix j v hv'
  by_cases e:j=i
  ·subst e
   rw [hi] at k2
   obtain rfl:=Option.some.inj k2
   obtain ⟨rfl,cs',rfl⟩:=hx ⟨cs,rfl⟩
   rw [hv] at k1
   exact ⟨by rw [List.getElem?_set_self hmi];exact k1,cs',hoi⟩
  ·have hlt:j<s'.objs.length:=by rw [hl];exact (List.getElem?_eq_some_iff.1 k2).1
   obtain ⟨o0,q1,q2⟩:=hoj j _ e (List.getElem?_eq_getElem hlt)
   rw [k2] at q1
   obtain rfl:=Option.some.inj q1
   refine ⟨by rw [List.getElem?_set_ne (Ne.symm e)];exact k1,?_⟩
   rcases q2 with ⟨q2,_⟩ | ⟨cs1,cs0,q2,_,_⟩
   ·exact ⟨cs,by rw [List.getElem?_eq_getElem hlt,q2]⟩
   ·exact ⟨cs1,by rw [List.getElem?_eq_getElem hlt,q2]⟩
 ·intro k l hk
  obtain ⟨g1,g2⟩:=hs.gl k l hk
  refine ⟨Nat.lt_of_lt_of_le g1 hn,?_⟩
  rw [hg k g1 fun e=>?_]
  ·exact g2
  ·obtain ⟨_,bk,e1,e2⟩:=hs.obs.lt ⟨i,oi,vi,hi,hdi,hv,e⟩
   rw [g2] at e1
   obtain rfl:=Option.some.inj e1
   exact e2 rfl
theorem Sat.setO (hs:Sat tb B D m s E H) {i:Nat} {oi o':Obj} {id:Nat} {vi:Value} {b':Blk} {wl:Nat} (hi:s.objs[i]?=some oi) (hdi:oi≠.dead) (hv:m[i]?=some vi) (hb:blkOf vi=some id) (hwl:wl=min H.wl (min H.n id)) (hx:(∃ cs,oi=.x cs)→∃ cs,o'=.x cs)
  (ho:(∀ x w,Den (Own m s.objs) m H x w→Den (Own m (s.objs.set i o')) m ⟨H.t.set id b',H.n,wl⟩ x w)→(∀ xs ws,DenL (Own m s.objs) m H xs ws→DenL (Own m (s.objs.set i o')) m ⟨H.t.set id b',H.n,wl⟩ xs ws)→ObjOk (Own m (s.objs.set i o')) m ⟨H.t.set id b',H.n,wl⟩ vi o') :
  Sat tb B D m (s.setO i o') E ⟨H.t.set id b',H.n,wl⟩:=by
 have hmi:i<m.length:=(List.getElem?_eq_some_iff.1 hv).1
 have hoi:i<s.objs.length:=(List.getElem?_eq_some_iff.1 hi).1
 have e:m.set i vi=m:=by
  apply List.ext_getElem?
  intro j
  by_cases h:j=i
  ·subst h;rw [List.getElem?_set_self hmi];exact hv.symm
  ·rw [List.getElem?_set_ne (Ne.symm h)]
 have:=(hs.upd (i:=i) (oi:=oi) (o':=o') (vi:=vi) (v':=vi) (s':=s.setO i o') (H':=⟨H.t.set id b',H.n,wl⟩) hi hdi hv (Nat.le_refl _)
  (fun k hk hne=>by show (H.t.set id b').get k=_;rw [T.get_set_ne _ _ (fun e=>hne (by rw [hb,e]))])
  (fun x h1 h2 h3=>by have:=h3 id hb;show x≤wl;omega) (fun k hk=>.inr hk) (by simp [St.setO]) (by simp [St.setO,hoi])
  (fun j o hj h=>⟨o,by simpa [St.setO,List.getElem?_set_ne (Ne.symm hj)] using h,.inl ⟨rfl,.inl rfl⟩⟩)
  (fun t x hx=>.inr ⟨hx,.inl rfl⟩) (fun h=>⟨rfl,hx h⟩)
  (fun h1 h2=>by rw [e] at h1 h2 ⊢;exact ho (fun x w=>h1 x w (.inl rfl)) (fun x w=>h2 x w (.inl rfl)))).1
 rw [e] at this
 exact this
def ToW (tb:List (List Int)) (B:AH) (D:Bs) (E:Env) (H:AH) (r:Option (Value×AH)) (K:SV→St→Bool→Prop):Prop:=
 ∃ w x s' H1 m' f,r=some (w,H1)∧Sat tb B D m' s' E { H1 with wl:=min H.wl H1.wl }∧Den (Own m' s'.objs) m' { H1 with wl:=min H.wl H1.wl } x w∧K x s' f∧(Nat.blt H1.wl H.n=true→f=true)
theorem ToW.mk {r:Option (Value×AH)} {K:SV→St→Bool→Prop} {w:Value} {x:SV} {s':St} {H1:AH} {m':List Value} {f:Bool} (h:K x s' f) (h1:Sat tb B D m' s' E { H1 with wl:=min H.wl H1.wl }) (hr:r=some (w,H1)) (hd:Den (Own m' s'.objs) m' { H1 with wl:=min H.wl H1.wl } x w) (hf:Nat.blt H1.wl H.n=true→f=true):ToW tb B D E H r K:=
 ⟨w,x,s',H1,m',f,hr,h1,hd,h,hf⟩
theorem scal_noJunk {x:SV} (h:(sCells x).all scal=true):noJunk x=true:=by
 cases x<;>first | rfl | (simp [sCells,scal] at h;exact h) | (simp [sCells,scal] at h)
theorem put_one {cs:List Value} {off:Nat} {v:Value} (h:off<cs.length):putCells cs off [v]=some (cs.set off v):=by
 unfold putCells
 have hle:Nat.ble (off+1) cs.length=true:=Nat.ble_eq_true_of_le h
 simp only [List.length_cons,List.length_nil,Nat.zero_add,hle,cond_true,Option.some.injEq]
 rw [List.set_eq_take_append_cons_drop,if_pos h]
 simp
theorem storeS_ok {sz:Nat} {x y:SV} {ox oy:Operand} {w v:Value} {K:SV→St→Bool→Prop} (hs:Sat tb B D m s E H) (h:storeS (std C tb B D) s sz x y fun s=>K (.t []) s true) (hx:Den (Own m s.objs) m H x w) (hy:Den (Own m s.objs) m H y v) (e1:ev E ox=some w) (e2:ev E oy=some v):ToW tb B D E H (AL.hop E { H with wl:=H.n } (.store sz ox oy)) K:=by
 have ho:=hs.obs
 unfold storeS at h
 split at h
 ·rename_i i off
  split at h
  ·rename_i cs hob
   obtain ⟨c1,h1⟩:=when_elim h
   simp only [Bool.and_eq_true] at c1
   obtain ⟨cs',h2,h3⟩:=on_elim h1
   simp only [Den] at hx
   obtain ⟨id,q1,rfl⟩:=hx
   obtain ⟨k1,id',vs,e,q3,q4,q5⟩:=obj_at ho q1 hob (by simp)
   simp only [Value.pointer.injEq,Option.some.injEq,Addr.mk.injEq] at e
   obtain ⟨rfl,_⟩:=e
   have hcl:=sCells_ok hy (scal_noJunk c1.2)
   obtain ⟨vs',p1,p2⟩:=sPut_ok h2 q5 hcl
   refine ToW.mk (w:=.tuple ⟨[]⟩) (H1:=⟨H.t.set id ⟨vs',0⟩,H.n,min H.n id⟩) h3 (hs.setO k1 (by simp) q1 rfl rfl (fun _=>⟨_,rfl⟩) fun _ hd=>⟨id,vs',rfl,q3,T.get_set_self _ _ _,hd _ _ p2⟩) ?_ ⟨[],rfl,rfl⟩ (fun _=>rfl)
   simp only [AL.hop,e1,e2,q4,show Nat.beq 0 1=false from rfl,hcl.len,c1.1,scals_ok hcl c1.2,Bool.not_true,Bool.or_self,cond_false,p1]
   rfl
  ·exact h.elim
 ·rename_i i a
  obtain ⟨c1,hq⟩:=when_elim h;clear h
  obtain rfl:=Nat.eq_of_beq_eq_true c1
  simp only [Den] at hx
  obtain ⟨id,n,c,q1,rfl⟩:=hx
  have key:∀ {cs:List Value},OwS H (.slice (some ⟨id,0,none⟩) n c) cs→∃ kd,id<H.n∧n=cs.length∧H.t.get id=some ⟨cs,kd⟩∧((c=UC∧kd=3)∨(c=cs.length∧kd=0)):=by
   rintro cs (⟨e,_⟩ | ⟨id',c',kd,e,hk,h1,h2⟩)
   ·cases e
   ·cases e;exact ⟨kd,h1,rfl,h2,hk⟩
  split at hq
  ·rename_i l hob
   obtain ⟨⟨k,z⟩,h1,h⟩:=on_elim hq;clear hq
   obtain ⟨c2,hq⟩:=when_elim h;clear h
   have hk:=kn_inj c2
   subst hk
   obtain ⟨c3,h3⟩:=hq
   have c3:0≤a∧a<(l.length:Int):=c3
   obtain rfl:=asI_ok h1 hy
   obtain ⟨k1,k2⟩:=obj_at ho q1 hob (by simp)
   obtain ⟨kd,g1,g2,g3,g4⟩:=key k2
   have hlt:a.toNat<(intV l).length:=by rw [len_int];omega
   have hset:(intV l).set a.toNat (.int .u8 z)=intV (l.set a.toNat z):=by unfold intV;rw [List.map_set]
   have hkd:kd.beq 1=false:=by rcases g4 with ⟨_,rfl⟩ | ⟨_,rfl⟩<;>rfl
   refine ToW.mk (w:=.tuple ⟨[]⟩) (H1:=⟨H.t.set id ⟨intV (l.set a.toNat z),kd⟩,H.n,min H.n id⟩) h3 (hs.setO k1 (by simp) q1 rfl rfl (fun ⟨_,h⟩=>by cases h) fun _ _=>?_) ?_ ⟨[],rfl,rfl⟩ (fun _=>rfl)
   ·change OwS _ _ (intV (l.set a.toNat z))
    refine .inr ⟨id,c,kd,?_,?_,g1,T.get_set_self _ _ _⟩
    ·rw [g2]
     simp [len_int]
    ·simpa [len_int] using g4
   ·simp only [AL.hop,e1,e2,g3,hkd,AL.cellsOf,List.length_cons,List.length_nil,Nat.beq_refl,List.all_cons,List.all_nil,scalar,Bool.and_self,Bool.not_true,Bool.or_self,cond_false,put_one hlt,hset]
    rfl
  ·rename_i l hob
   obtain ⟨z,h1,h⟩:=on_elim hq;clear hq
   obtain ⟨c3,h3⟩:=h
   have c3:0≤a∧a<(l.length:Int):=c3
   obtain rfl:=asB_ok h1 hy
   obtain ⟨k1,k2⟩:=obj_at ho q1 hob (by simp)
   obtain ⟨kd,g1,g2,g3,g4⟩:=key k2
   have hlt:a.toNat<(boolV l).length:=by rw [len_bool];omega
   have hset:(boolV l).set a.toNat (.bool z)=boolV (l.set a.toNat z):=by unfold boolV;rw [List.map_set]
   have hkd:kd.beq 1=false:=by rcases g4 with ⟨_,rfl⟩ | ⟨_,rfl⟩<;>rfl
   refine ToW.mk (w:=.tuple ⟨[]⟩) (H1:=⟨H.t.set id ⟨boolV (l.set a.toNat z),kd⟩,H.n,min H.n id⟩) h3 (hs.setO k1 (by simp) q1 rfl rfl (fun ⟨_,h⟩=>by cases h) fun _ _=>?_) ?_ ⟨[],rfl,rfl⟩ (fun _=>rfl)
   ·change OwS _ _ (boolV (l.set a.toNat z))
    refine .inr ⟨id,c,kd,?_,?_,g1,T.get_set_self _ _ _⟩
    ·rw [g2]
     simp [len_bool]
    ·simpa [len_bool] using g4
   ·simp only [AL.hop,e1,e2,g3,hkd,AL.cellsOf,List.length_cons,List.length_nil,Nat.beq_refl,List.all_cons,List.all_nil,scalar,Bool.and_self,Bool.not_true,Bool.or_self,cond_false,put_one hlt,hset]
    rfl
  ·exact hq.elim
 ·exact h.elim
end
end Go.SX
end
