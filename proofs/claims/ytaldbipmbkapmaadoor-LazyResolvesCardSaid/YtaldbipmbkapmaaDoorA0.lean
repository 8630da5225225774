/- DEFINITIONS ALONE: an abstract machine over typed pure data, for any program; no claim is stated here. Conditions: none. -/
import Derived.Calls
import Derived.Laws.Build
namespace Go.Abs
set_option linter.unusedVariables false
set_option linter.unusedSimpArgs false
structure Univ where
 Ty:Type
 El:Ty→Type
 eq:DecidableEq Ty
instance (U:Univ):DecidableEq U.Ty:=U.eq
inductive D (U:Univ) where
 | int (k:IntKind) (n:Int)
 | bool (b:Bool)
 | str (s:ByteArray)
 | sl (c:U.Ty) (xs:List (U.El c))
 | nils
 | nilp
 | nilf
 | nilm
 | nili
inductive Rf where
 | l (s:Nat)
 | g (o:Nat)
 deriving DecidableEq
inductive C (U:Univ) where
 | d (x:D U)
 | clip (c:U.Ty) (xs:List (U.El c))
 | ep (cells:List (D U))
 | ptr (r:Rf) (off:Nat)
 | pa (r:Rf) (gen row col:Nat)
 | asl (r:Rf) (gen:Nat) (sub:Option (Nat×Nat)) (cl:Bool)
 | osl (c:U.Ty) (xs:List (U.El c))
 | mp (r:Rf)
 | fn (f:FuncId) (first caps:List (C U))
 | fp (f:FuncId) (first caps:List (C U))
 | optr (o:Option Nat)
 | agg (cs:List (C U))
 | tup (vs:List (C U))
 | ifc (t:TypeId) (x:C U)
 | dead
inductive Vc (U:Univ) where
 | pure (c:U.Ty)
 | ptr
 | raw (n:Nat)
 | row
abbrev Vc.El {U:Univ}:Vc U→Type
 | .pure c=>U.El c
 | .ptr=>Option Nat
 | .raw _=>List (C U)
 | .row=>Nat×Nat×Option (Nat×Nat)×Bool
inductive O (U:Univ) where
 | cells (cs:List (C U))
 | arr (gen:Nat) (v:Vc U) (xs:List v.El)
 | fro (gen:Nat) (c:U.Ty) (xs:List (U.El c))
 | map (ag:Bool×Bool) (kc:U.Ty) (v:Vc U) (es:List (U.El kc×v.El))
inductive Z where
 | int (k:IntKind)|bool|str|nilp|nils|nilm|nilf|nili
 deriving DecidableEq
def Z.d {U:Univ}:Z→D U
 | .int k=>.int k 0
 | .bool=>.bool false
 | .str=>.str ⟨#[]⟩
 | .nilp=>.nilp
 | .nils=>.nils
 | .nilm=>.nilm
 | .nilf=>.nilf
 | .nili=>.nili
def Z.of:Value→Option Z
 | .int k n=>if n=0 then some (.int k) else none
 | .bool b=>if b then none else some .bool
 | .string s=>if s.data.size=0 then some .str else none
 | .pointer none=>some .nilp
 | .slice none l c=>if l=0∧c=0 then some .nils else none
 | .map none=>some .nilm
 | .nilFunc=>some .nilf
 | .nilIface=>some .nili
 | _=>none
inductive TK where
 | int (k:IntKind)|bool|str|slice (e:TypeId)|ptr (e:TypeId)|map (k e:TypeId)
 | strct (fs:List (TypeId×Nat))|arr (n:Nat) (e:TypeId)|func|iface|tuple
 deriving DecidableEq
structure TI where
 kind:TK
 size:Nat
 bytes:Nat
 zero:List Z
 deriving DecidableEq
def TI.whole (i:TI):Bool:=match i.kind with|.tuple=>false|_=>i.zero.length == i.size
def TI.agg (i:TI):Bool:=match i.kind with|.strct _|.arr _ _=>true|_=>false
def TK.is:TK→TypeDesc→Bool
 | .int k,.int k'=>k == k'
 | .bool,.bool|.str,.string=>true
 | .slice e,.slice e'|.ptr e,.pointer e'=>e == e'
 | .map k e,.map k' e'=>k == k' && e == e'
 | .strct fs, .struct fs' => (fs'.toList.map fun f => (f.type, f.offset)) == fs && fs'.toList.all fun f => f.name != "_"
 | .arr n e,.array n' e'=>n == n' && e == e'
 | .func,.func _ _ _|.iface,.interface _|.tuple,.tuple _=>true
 | _,_=>false
def TI.ok (P:Program) (t:TypeId) (i:TI):Bool:=
 (match P.underlying t with|some d=>i.kind.is d|none=>false) &&
 match P.info? t with
 | some j=>j.size == i.size && j.bytes == i.bytes && (match j.zero with|some v=>v.cells.toList.map Z.of == i.zero.map some && (i.agg == (v matches .agg _))|none=>i.kind == .tuple)
 | none=>false
structure OpAnn (U:Univ) where
 glob:Bool:=false
 own:List (Nat×Option Nat×Vc U):=[]
 slot:Option Nat:=none
 sym:Option TypeId:=none
 co:List (Option U.Ty):=[]
 frz:Bool:=false
structure FAnn (U:Univ) where
 live:Nat→Option (List (Nat×List (Option U.Ty))×List (Nat×List (Option U.Ty))):=fun _=>none
 op:Nat→Nat→OpAnn U:=fun _ _=>{}
 split:Nat→Bool:=fun _=>false
 pure:Bool:=false
 scalar:Bool:=false
 own:Bool:=false
 trim:Nat→List (Nat×Nat):=fun _=>[]
 perm:Nat→List Nat:=fun _=>[]
 pco:List (List (Option U.Ty)):=[]
 rco:List (List (Option U.Ty)):=[]
structure BackI where
 t:TypeId
 e:TypeId
 i:TypeId
 b:TypeId
 y:TypeId
def backBody (x:BackI):Code:=
 .seq (.region 0 #[⟨some 4, .load x.t (.tmp 1), x.t, "iter.go:28", #[], none⟩, ⟨some 5, .call { callee := .builtin .len, args := #[.tmp 4], argTypes := #[x.t] }, x.i, "iter.go:28", #[⟨0, .data⟩], none⟩,
   ⟨some 6, .binOp .sub x.i (.tmp 5) (.const (.int .i64 1)) x.i, x.i, "iter.go:28", #[⟨1, .data⟩], none⟩, ⟨some 3, .assign (.tmp 6), x.i, "iter.go:28", #[⟨2, .data⟩, ⟨0, .phase⟩, ⟨1, .phase⟩, ⟨2, .phase⟩], none⟩] false)
  (.block 0 (.loop (.seq
   (.seq (.region 1 #[⟨some 7, .move (.tmp 3), x.i, "iter.go:28", #[], none⟩, ⟨some 8, .binOp .geq x.i (.tmp 7) (.const (.int .i64 0)) x.i, x.b, "iter.go:28", #[⟨0, .data⟩], none⟩] false) (.cond (.tmp 8) .skip (.exit 0)))
   (.seq (.block 1 (.seq (.region 3 #[⟨some 11, .move (.tmp 0), x.y, "iter.go:29", #[], none⟩, ⟨some 12, .move (.tmp 3), x.i, "iter.go:29", #[], none⟩, ⟨some 13, .load x.t (.tmp 1), x.t, "iter.go:29", #[], none⟩, ⟨some 14, .move (.tmp 3), x.i, "iter.go:29", #[], none⟩,
     ⟨some 15, .indexAddr x.t (.tmp 13) (.tmp 14), 0, "iter.go:29", #[⟨2, .data⟩, ⟨3, .data⟩], none⟩, ⟨some 16, .load x.e (.tmp 15), x.e, "iter.go:29", #[⟨4, .data⟩], none⟩,
     ⟨some 17, .call { callee := .value (.tmp 11), args := #[.tmp 12, .tmp 16], argTypes := #[x.i, x.e] }, x.b, "iter.go:29", #[⟨0, .data⟩, ⟨1, .data⟩, ⟨5, .data⟩], none⟩, ⟨some 18, .unOp .not x.b (.tmp 17), x.b, "iter.go:29", #[⟨6, .data⟩], none⟩] false)
    (.cond (.tmp 18) .ret .skip)))
    (.region 2 #[⟨some 9, .move (.tmp 3), x.i, "iter.go:28", #[], none⟩, ⟨some 10, .binOp .sub x.i (.tmp 9) (.const (.int .i64 1)) x.i, x.i, "iter.go:28", #[⟨0, .data⟩], none⟩, ⟨some 3, .assign (.tmp 10), x.i, "iter.go:28", #[⟨1, .data⟩, ⟨0, .phase⟩, ⟨1, .phase⟩], none⟩] false)))))
structure Cfg where
 U:Univ
 width:U.Ty→Nat
 enc:(c:U.Ty)→U.El c→List (D U)
 dec:(c:U.Ty)→List (D U)→Option (U.El c)
 dflt:(c:U.Ty)→U.El c
 flat:U.Ty→Bool
 bytesC:U.Ty→Nat
 keyEq:(c:U.Ty)→Option (List Z×(U.El c→U.El c→Bool))
 P:Program
 ti:TypeId→Option TI
 vc:TypeId→Vc U
 kc:TypeId→U.Ty
 meth:TypeId→String→Option FuncId
 glob:Nat→Option (List (D U))
 ann:FuncId→FAnn U
 back:FuncId→Option BackI:=fun _=>none
section
variable {K:Cfg}
abbrev Cfg.CC (K:Cfg):=C K.U
def Cfg.encV (K:Cfg):(v:Vc K.U)→v.El→List (C K.U)
 | .pure c,x=>(K.enc c x).map .d
 | .ptr,o=>[.optr o]
 | .raw _,cs=>cs
 | .row,x=>[.asl (.g x.1) x.2.1 x.2.2.1 x.2.2.2]
def C.d? {U:Univ}:C U→Option (D U)
 | .d x=>some x
 | .clip c xs=>some (.sl c xs)
 | _=>none
def C.ds? {U:Univ}:List (C U)→Option (List (D U))
 | []=>some []
 | x :: xs=>match x.d?,C.ds? xs with
  | some y,some ys=>some (y :: ys)
  | _,_=>none
def C.isAgg {U:Univ}:C U→Bool
 | .agg _=>true
 | _=>false
def C.pureC {U:Univ}:C U→Bool
 | .d _|.clip _ _=>true
 | .agg cs=>cs.all fun|.d _|.clip _ _=>true|_=>false
 | _=>false
def C.one {U:Univ}:C U→Bool
 | .agg _|.tup _|.dead|.osl _ _=>false
 | _=>true
def decPtr {U:Univ}:List (C U)→Option (Option Nat)
 | [.ptr (.g n) 0]=>some (some n)
 | [.optr o]=>some o
 | [.d .nilp]=>some none
 | _=>none
def decRow {U:Univ}:List (C U)→Option (Nat×Nat×Option (Nat×Nat)×Bool)
 | [.asl (.g a) g s cl]=>some (a,g,s,cl)
 | _=>none
def Cfg.decV (K:Cfg):(v:Vc K.U)→List (C K.U)→Option v.El
 | .pure c,cs=>match C.ds? cs with|some ds=>K.dec c ds|none=>none
 | .ptr,cs=>decPtr cs
 | .raw n,cs=>if cs.length=n∧cs.all C.one then some cs else none
 | .row,cs=>decRow cs
def Cfg.widthV (K:Cfg):Vc K.U→Nat
 | .pure c=>K.width c
 | .ptr=>1
 | .raw n=>n
 | .row=>1
def Cfg.fitsV (K:Cfg) (v:Vc K.U) (j:TI):Bool:=
 Nat.beq (K.widthV v) j.size && match v with|.pure c=>Nat.beq (K.bytesC c) j.bytes|_=>true
def Cfg.dfltV (K:Cfg):(v:Vc K.U)→v.El
 | .pure c=>K.dflt c
 | .ptr=>(none:Option Nat)
 | .raw n=>List.replicate n (.d .nilp)
 | .row=>((0,0,none,false):Nat×Nat×Option (Nat×Nat)×Bool)
instance {U:Univ}:DecidableEq (Vc U)
 | .pure a,.pure b=>if h:a=b then isTrue (by rw [h]) else isFalse (fun e=>h (by cases e; rfl))
 | .ptr,.ptr=>isTrue rfl
 | .raw a,.raw b=>if h:a=b then isTrue (by rw [h]) else isFalse (fun e=>h (by cases e; rfl))
 | .pure _,.ptr=>isFalse (fun e=>by cases e)
 | .pure _,.raw _=>isFalse (fun e=>by cases e)
 | .ptr,.pure _=>isFalse (fun e=>by cases e)
 | .ptr,.raw _=>isFalse (fun e=>by cases e)
 | .raw _,.pure _=>isFalse (fun e=>by cases e)
 | .raw _,.ptr=>isFalse (fun e=>by cases e)
 | .row,.row=>isTrue rfl
 | .row,.pure _=>isFalse (fun e=>by cases e)
 | .row,.ptr=>isFalse (fun e=>by cases e)
 | .row,.raw _=>isFalse (fun e=>by cases e)
 | .pure _,.row=>isFalse (fun e=>by cases e)
 | .ptr,.row=>isFalse (fun e=>by cases e)
 | .raw _,.row=>isFalse (fun e=>by cases e)
def castL {α:Type} [DecidableEq α] {F:α→Type} {a b:α} (xs:List (F a)):Option (List (F b)):=
 if h:a=b then some (h▸xs) else none
def rd {α:Type} (d:α) (xs:List α) (i:Int):α:=xs.getD i.toNat d
def rdN {α:Type} (d:α) (xs:List α) (i:Nat):α:=xs.getD i d
def inB (i:Int) (n:Nat):Bool:=decide (0≤i) && decide (i<(n:Int))
def ltN (i n:Nat):Bool:=decide (i<n)
def leN (i n:Nat):Bool:=decide (i≤n)
def lenL {α:Type} (xs:List α):Nat:=xs.length
def intN (n:Nat):Int:=(n:Int)
def natI (i:Int):Nat:=i.toNat
def addN (a b:Nat):Nat:=a+b
def subN (a b:Nat):Nat:=a - b
def appL {α:Type} (xs ys:List α):List α:=xs ++ ys
def takeL {α:Type} (n:Nat) (xs:List α):List α:=xs.take n
def dropL {α:Type} (n:Nat) (xs:List α):List α:=xs.drop n
def setL {α:Type} (xs:List α) (i:Nat) (x:α):List α:=xs.set i x
abbrev nilL (α:Type):List α:=[]
def replL {α:Type} (n:Int) (x:α):List α:=List.replicate n.toNat x
def emptyL {α:Type} (xs:List α):Bool:=xs.isEmpty
def andB (a b:Bool):Bool:=a && b
def orB (a b:Bool):Bool:=a || b
def notB (a:Bool):Bool:=!a
def eqB (a b:Bool):Bool:=a == b
def eqI (a b:Int):Bool:=a == b
def ltI (a b:Int):Bool:=decide (a<b)
def leI (a b:Int):Bool:=decide (a≤b)
def addW (k:IntKind) (a b:Int):Int:=k.wrap (a+b)
def subW (k:IntKind) (a b:Int):Int:=k.wrap (a - b)
def mulW (k:IntKind) (a b:Int):Int:=k.wrap (a * b)
def quoW (k:IntKind) (a b:Int):Int:=k.wrap (a.tdiv b)
def remW (a b:Int):Int:=a.tmod b
def andW (k:IntKind) (a b:Int):Int:=k.wrap (BitVec.ofInt k.bits a &&& BitVec.ofInt k.bits b).toNat
def orW (k:IntKind) (a b:Int):Int:=k.wrap (BitVec.ofInt k.bits a ||| BitVec.ofInt k.bits b).toNat
def xorW (k:IntKind) (a b:Int):Int:=k.wrap (BitVec.ofInt k.bits a ^^^ BitVec.ofInt k.bits b).toNat
def andNotW (k:IntKind) (a b:Int):Int:=k.wrap (BitVec.ofInt k.bits a &&& ~~~BitVec.ofInt k.bits b).toNat
def shlW (k:IntKind) (a b:Int):Int:=k.wrap (a * 2 ^ (min b.toNat k.bits))
def shrW (k:IntKind) (a b:Int):Int:=a.fdiv (2 ^ (min b.toNat k.bits))
def negW (k:IntKind) (a:Int):Int:=k.wrap (0 - a)
def comW (k:IntKind) (a:Int):Int:=k.wrap (BitVec.ofInt k.bits a ^^^ BitVec.ofInt k.bits (if k.signed then -1 else k.max)).toNat
def convW (k:IntKind) (a:Int):Int:=k.wrap a
def pickB:Bool→Bool→Bool→Bool
 | true,x,_=>x
 | false,_,y=>y
def bs (l:List Nat):ByteArray:=⟨(l.map UInt8.ofNat).toArray⟩
def strAdd (x y:ByteArray):ByteArray:=x ++ y
def maxStr:Nat:=4611686018427387904
def strRoom (x y:ByteArray):Bool:=decide (x.size+y.size≤maxStr)
def strEq (x y:ByteArray):Bool:=x.toList == y.toList
def strLt (x y:ByteArray):Bool:=Op.bytesLess x.toList y.toList
def strLen (s:ByteArray):Nat:=s.size
def strSub (s:ByteArray) (l h:Int):ByteArray:=s.extract l.toNat h.toNat
def byteAt (s:ByteArray) (i:Int):Int:=(s.data.toList.getD i.toNat 0).toNat
def maxI (a b:Int):Int:=if b > a then b else a
def minI (a b:Int):Int:=if b<a then b else a
def findK {κ α:Type} (eq:κ→κ→Bool) (k:κ) (es:List (κ×α)):Option α:=(es.find? fun e=>eq k e.1).map (·.2)
def updK {κ α:Type} (eq:κ→κ→Bool) (k:κ) (x:α):List (κ×α)→List (κ×α)
 | []=>[(k,x)]
 | e :: es=>if eq k e.1 then (k,x) :: es else e :: updK eq k x es
def idxK {κ α:Type} (eq:κ→κ→Bool) (k:κ):List (κ×α)→Nat
 | []=>0
 | e :: es=>if eq k e.1 then 0 else idxK eq k es+1
def entK {κ α:Type} (eq:κ→κ→Bool) (k:κ) (x:α):List (κ×α)→List (κ×α)
 | []=>[(k,x)]
 | e :: es=>if eq k e.1 then (k,e.2) :: es else e :: entK eq k x es
def setK {κ α:Type}:List (κ×α)→Nat→α→List (κ×α)
 | [],_,_=>[]
 | e :: es,0,x=>(e.1,x) :: es
 | e :: es,n+1,x=>e :: setK es n x
def someO {α:Type} (o:Option α):Bool:=o.isSome
def getO' {α:Type} (d:α) (o:Option α):α:=o.getD d
def room:Nat:=140737488355328
def roomB (n bytes:Nat):Bool:=decide (n * bytes≤room)
def roomI (n:Int) (bytes:Nat):Bool:=decide (n * bytes≤room)
def splice {α:Type} (cs:List α) (off:Nat) (vals:List α):List α:=cs.take off ++ vals ++ cs.drop (off+vals.length)
def obj {U:Univ} (H:List (O U)) (n:Nat):Option (O U):=H[n]?
abbrev Loc (U:Univ):=Nat→Option (O U)
structure St (U:Univ) where
 tmps:Nat→C U
 loc:Loc U
 H:List (O U)
def getO {U:Univ} (loc:Loc U) (H:List (O U)):Rf→Option (O U)
 | .l s=>loc s
 | .g o=>H[o]?
structure Out (U:Univ) where
 ok:Bool
 v:C U
 rd:List Rf:=[]
 wr:List (Rf×O U):=[]
def apL {U:Univ} (loc:Loc U):List (Rf×O U)→Loc U
 | []=>loc
 | (.l s,x) :: l=>apL (fun t=>bif Nat.beq t s then some x else loc t) l
 | (.g _,_) :: l=>apL loc l
def apH {U:Univ} (H:List (O U)):List (Rf×O U)→List (O U)
 | []=>H
 | (.l _,_) :: l=>apH H l
 | (.g o,x) :: l=>apH (bif Nat.beq o H.length then H ++ [x] else H.set o x) l
def newO {U:Univ} (loc:Loc U) (H:List (O U)) (slot:Option Nat):Option Rf:=
 match slot with
 | some s=>match loc s with
  | none=>some (.l s)
  | some _=>none
 | none=>some (.g H.length)
def C.ref {U:Univ}:C U→List Rf
 | .ptr r _|.pa r _ _ _|.asl r _ _ _|.mp r=>[r]
 | _=>[]
inductive Step (U:Univ) where
 | out (o:Out U)
 | call (f:FuncId) (args:List (C U))
 | dyn (f:FuncId) (pre args post:List (C U))
def Cfg.rowAt (K:Cfg):(v:Vc K.U)→List v.El→Nat→v.El
 | .pure c,xs,row=>rdN (K.dflt c) xs row
 | .ptr,xs,row=>rdN (none:Option Nat) xs row
 | .raw n,xs,row=>match xs with
  | [x]=>x
  | _=>rdN (List.replicate n (.d .nilp)) xs row
 | .row,xs,row=>rdN ((0,0,none,false):Nat×Nat×Option (Nat×Nat)×Bool) xs row
def Cfg.cellsAt (K:Cfg) (loc:Loc K.U) (H:List (O K.U)):C K.U→Option (Bool×List (C K.U))
 | .ep cells=>some (true,cells.map .d)
 | .ptr r off=>match getO loc H r with
  | some (.cells cs)=>some (true,cs.drop off)
  | _=>none
 | .pa r gen row col=>match getO loc H r with
  | some (.arr g v xs)=>some (andB (g == gen) (ltN row (lenL xs)),(K.encV v (K.rowAt v xs row)).drop col)
  | some (.fro g c xs)=>some (andB (g == gen) (ltN row (lenL xs)),((K.enc c (rdN (K.dflt c) xs row)).map .d).drop col)
  | _=>none
 | _=>none
def valOf {U:Univ} (i:TI) (cs:List (C U)):Option (C U):=
 if i.agg then (if i.size≤cs.length then some (.agg (cs.take i.size)) else none)
 else match cs with
  | x :: _=>some x
  | []=>none
def C.cells {U:Univ}:C U→List (C U)
 | .agg cs=>cs
 | v=>[v]
def Cfg.load (K:Cfg) (loc:Loc K.U) (H:List (O K.U)) (t:TypeId) (a:C K.U):Option (Out K.U):=
 match K.ti t,K.cellsAt loc H a with
 | some i,some (ok,cs)=>match valOf i cs with
  | some v=>some { ok:=ok,v:=v,rd:=a.ref }
  | none=>none
 | _,_=>none
def Cfg.store (K:Cfg) (loc:Loc K.U) (H:List (O K.U)) (t:TypeId) (a v:C K.U):Option (Out K.U):=
 match K.ti t with
 | none=>none
 | some i=>
  if v.cells.length=i.size∧v.cells.all C.one then
   match a with
   | .ptr r off=>match getO loc H r with
    | some (.cells cs)=>
     if off+v.cells.length≤cs.length then
      some { ok:=true,v:=.tup [],wr:=[(r,.cells (splice cs off v.cells))] }
     else none
    | _=>none
   | .pa r gen row col=>match getO loc H r with
    | some (.arr g vc xs)=>
     if col+v.cells.length≤(K.encV vc (rdN (K.dfltV vc) xs row)).length then
      match K.decV vc (splice (K.encV vc (rdN (K.dfltV vc) xs row)) col v.cells) with
      | some x=>
       some { ok:=andB (g == gen) (ltN row (lenL xs)),v:=.tup [],wr:=[(r,.arr g vc (setL xs row x))] }
      | none=>none
     else none
    | _=>none
   | _=>none
  else none
def Cfg.fieldAddr (K:Cfg) (s:TypeId) (x:C K.U) (f:Nat):Option (C K.U):=
 match K.ti s with
 | some { kind:=.strct fs,.. }=>match fs[f]? with
  | some (t,off)=>match K.ti t with
   | some j=>if j.size=0 then none else match x with
    | .ep cells=>some (.ep (cells.drop off))
    | .ptr r o=>some (.ptr r (o+off))
    | .pa r gen row col=>some (.pa r gen row (col+off))
    | _=>none
   | none=>none
  | none=>none
 | _=>none
def subBy {α:Type} (sub:Option (Nat×Nat)) (xs:List α):List α:=
 match sub with
 | none=>xs
 | some (o,n)=>takeL n (dropL o xs)
def subOk (sub:Option (Nat×Nat)) (n:Nat):Bool:=
 match sub with
 | none=>true
 | some (o,k)=>leN (addN o k) n
def sub? (sub:Option (Nat×Nat)) (n:Nat):Nat×Nat:=sub.getD (0,n)
def Cfg.lenOf (K:Cfg) (loc:Loc K.U) (H:List (O K.U)):TK→C K.U→Option (Bool×Nat)
 | .str,.d (.str s)=>some (true,strLen s)
 | .slice _,.d (.sl _ xs)|.slice _,.clip _ xs=>some (true,lenL xs)
 | .slice _,.d .nils=>some (true,0)
 | .slice _,.asl r gen sub _=>match getO loc H r with
  | some (.arr g _ xs)=>some (g == gen,(sub? sub (lenL xs)).2)
  | some (.fro g _ xs)=>some (g == gen,(sub? sub (lenL xs)).2)
  | _=>none
 | .map _ _,.mp r=>match getO loc H r with
  | some (.map _ _ _ es)=>some (true,lenL es)
  | _=>none
 | .map _ _,.d .nilm=>some (true,0)
 | _,_=>none
def Cfg.decDs (K:Cfg) (c:K.U.Ty):Nat→Nat→List (D K.U)→Option (List (K.U.El c))
 | 0,_,_=>some []
 | n+1,k,ds=>match K.dec c (ds.take k),K.decDs c n k (ds.drop k) with
  | some x,some xs=>some (x :: xs)
  | _,_=>none
def Cfg.indexAddr (K:Cfg) (loc:Loc K.U) (H:List (O K.U)) (t:TypeId) (x:C K.U) (i:Int):Option (Bool×C K.U):=
 match K.ti t with
 | some { kind:=.slice e,.. }=>match K.ti e with
  | some j=>match x with
   | .d (.sl c xs)|.clip c xs=>if K.width c=j.size then some (inB i (lenL xs),.ep (K.enc c (rd (K.dflt c) xs i))) else none
   | .asl r gen sub _=>match getO loc H r with
    | some (.arr g v xs)=>
     if K.widthV v=j.size then
      match sub with
      | none=>some (andB (g == gen) (inB i (lenL xs)),.pa r gen (natI i) 0)
      | some (o,n)=>some (andB (g == gen) (andB (inB i n) (leN (addN o n) (lenL xs))),.pa r gen (addN o (natI i)) 0)
     else none
    | some (.fro g c xs)=>
     if K.width c=j.size then
      match sub with
      | none=>some (andB (g == gen) (inB i (lenL xs)),.pa r gen (natI i) 0)
      | some (o,n)=>some (andB (g == gen) (andB (inB i n) (leN (addN o n) (lenL xs))),.pa r gen (addN o (natI i)) 0)
     else none
    | _=>none
   | _=>none
  | none=>none
 | some { kind:=.arr n e,.. }=>match K.ti e with
  | some j=>if n≤1 then none else match x with
   | .ep cells=>match K.vc e with
    | .pure c=>match Nat.beq (K.width c) j.size,K.decDs c n j.size cells with
     | true,some xs=>some (inB i n,.ep (K.enc c (rd (K.dflt c) xs i)))
     | _,_=>some (inB i n,.ep (cells.drop (i.toNat * j.size)))
    | _=>some (inB i n,.ep (cells.drop (i.toNat * j.size)))
   | .ptr r o=>some (inB i n,.ptr r (o+i.toNat * j.size))
   | .pa r gen row col=>some (inB i n,.pa r gen row (col+i.toNat * j.size))
   | _=>none
  | none=>none
 | _=>none
def toI {U:Univ}:Option (C U)→Int→Option Int
 | none,n=>some n
 | some (.d (.int _ n)),_=>some n
 | _,_=>none
def cutSub {U:Univ} (lo:Option (C U)) (l h:Int) (o:Nat):Option (Nat×Nat):=
 match lo with
 | none=>some (o,natI h)
 | some _=>some (addN o (natI l),subN (natI h) (natI l))
def sliceStr {U:Univ} (s:ByteArray) (lo hi mx:Option (C U)):Option (Bool×C U):=
 match toI lo 0,toI hi (intN (strLen s)),mx with
 | some l,some h,none=>some (andB (leI 0 l) (andB (leI l h) (leI h (intN (strLen s)))),.d (.str (strSub s l h)))
 | _,_,_=>none
def sliceData {U:Univ} (c:U.Ty) (xs:List (U.El c)) (lo hi mx:Option (C U)):Option (Bool×C U):=
 match toI lo 0,toI hi (intN (lenL xs)),mx with
 | some l,some h,none=>some (andB (leI 0 l) (andB (leI l h) (leI h (intN (lenL xs)))),.d (.sl c (dropL (natI l) (takeL (natI h) xs))))
 | some l,some h,some (.d (.int _ m))=>match hi with
  | some _=>some (andB (eqI m h) (andB (leI 0 l) (andB (leI l h) (leI h (intN (lenL xs))))),.clip c (dropL (natI l) (takeL (natI h) xs)))
  | none=>none
 | _,_,_=>none
def sliceArr {U:Univ} (r:Rf) (gen g:Nat) (sub:Option (Nat×Nat)) (cl:Bool) (len:Nat) (lo hi mx:Option (C U)):Option (Bool×C U):=
 match toI lo 0,toI hi (intN (sub? sub len).2),mx with
 | some l,some h,none=>
  if cl then none else
  some (andB (leI 0 l) (andB (leI l h) (andB (leI h (intN (sub? sub len).2)) (andB (g == gen) (subOk sub len)))),.asl r gen (cutSub lo l h (sub? sub len).1) false)
 | some l,some h,some (.d (.int _ m))=>match hi with
  | some _=>some (andB (eqI m h) (andB (leI 0 l) (andB (leI l h) (andB (leI h (intN (sub? sub len).2)) (andB (g == gen) (subOk sub len))))),.asl r gen (cutSub lo l h (sub? sub len).1) true)
  | none=>none
 | _,_,_=>none
def sliceNil {U:Univ} (lo hi mx:Option (C U)):Option (Bool×C U):=
 match toI lo 0,toI hi (intN 0),mx with
 | some l,some h,none=>some (andB (leI 0 l) (andB (leI l h) (leI h 0)),.d .nils)
 | _,_,_=>none
def Cfg.slice (K:Cfg) (loc:Loc K.U) (H:List (O K.U)) (t:TypeId) (x:C K.U) (lo hi mx:Option (C K.U)):Option (Bool×C K.U):=
 match K.ti t with
 | some i=>match i.kind with
  | .str=>match x with
   | .d (.str s)=>sliceStr s lo hi mx
   | _=>none
  | .slice e=>match K.ti e,x with
   | some j,.d (.sl c xs)=>if K.width c=j.size then sliceData c xs lo hi mx else none
   | some j,.asl r gen sub cl=>match getO loc H r with
    | some (.arr g v xs)=>if K.widthV v=j.size then sliceArr r gen g sub cl (lenL xs) lo hi mx else none
    | some (.fro g c xs)=>if K.width c=j.size then sliceArr r gen g sub cl (lenL xs) lo hi mx else none
    | _=>none
   | some _,.d .nils=>sliceNil lo hi mx
   | _,_=>none
  | .arr n e=>match x,lo,hi,mx with
   | .ep ds,none,none,none=>match K.ti e,K.vc e with
    | some j,.pure c=>match K.decDs c n j.size ds with
     | some xs=>if K.width c=j.size∧n * K.bytesC c≤room then some (true,.d (.sl c xs)) else none
     | none=>none
    | _,_=>none
   | _,_,_,_=>none
  | _=>none
 | none=>none
def Cfg.rowsOf (K:Cfg) (loc:Loc K.U) (H:List (O K.U)) (v:Vc K.U):C K.U→Option (Bool×List v.El)
 | .d .nils=>some (true,nilL _)
 | .d (.sl c xs)|.clip c xs=>(castL (F:=Vc.El) (a:=.pure c) (b:=v) xs).map fun ys=>(true,ys)
 | .asl r gen sub _=>match getO loc H r with
  | some (.arr g w xs)=>match castL (F:=Vc.El) (a:=w) (b:=v) xs with
   | some ys=>some (andB (g == gen) (subOk sub (lenL ys)),subBy sub ys)
   | none=>none
  | some (.fro g c xs)=>match castL (F:=Vc.El) (a:=.pure c) (b:=v) xs with
   | some ys=>some (andB (g == gen) (subOk sub (lenL ys)),subBy sub ys)
   | none=>none
  | _=>none
 | _=>none
def Cfg.vcAt (K:Cfg) (slot:Option Nat) (e:TypeId) (n:Nat):Vc K.U:=
 match slot with
 | some s=>match Nat.ble 50000 s with
  | true=>match Nat.ble 60000 s with
   | true=>.row
   | false=>.raw n
  | false=>K.vc e
 | none=>K.vc e
def Cfg.appFresh (K:Cfg) (loc:Loc K.U) (H:List (O K.U)) (slot:Option Nat) (j:TI) (rd:List Rf) (v:Vc K.U) (ok:Bool) (xs ys:List v.El):Option (Out K.U):=
 if K.fitsV v j=true∧j.whole∧j.bytes ≠ 0 then
  match newO loc H slot with
  | some r=>some { ok:=andB ok (andB (orB (emptyL xs) (notB (emptyL ys))) (roomB (addN (lenL xs) (lenL ys)) j.bytes)),v:=.asl r 0 none false,rd:=rd,wr:=[(r,.arr 0 v (appL xs ys))] }
  | none=>none
 else none
def Cfg.appEmpty (K:Cfg) (loc:Loc K.U) (H:List (O K.U)) (slot:Option Nat) (j:TI) (rd:List Rf) (v:Vc K.U) (ok:Bool) (ys:List v.El):Option (Out K.U):=
 if K.fitsV v j=true∧j.whole∧j.bytes ≠ 0 then
  match newO loc H slot with
  | some r=>some { ok:=andB ok (andB (orB (emptyL (nilL v.El)) (notB (emptyL ys))) (roomB (addN (lenL (nilL v.El)) (lenL ys)) j.bytes)),v:=.asl r 0 none false,rd:=rd,wr:=[(r,.arr 0 v ys)] }
  | none=>none
 else none
def cutTo {α:Type} (sub:Option (Nat×Nat)) (xs:List α):List α:=
 match sub with
 | none=>xs
 | some (_,n)=>takeL n xs
def sameSlot (slot:Option Nat) (r:Rf):Bool:=match slot,r with
 | some s,.l s'=>Nat.beq s s'
 | _,_=>false
def Cfg.appArr (K:Cfg) (loc:Loc K.U) (H:List (O K.U)) (slot:Option Nat) (j:TI) (rd:List Rf) (r:Rf) (gen g:Nat) (sub:Option (Nat×Nat)) (cl:Bool) (v:Vc K.U) (ok:Bool) (xs ys:List v.El):Option (Out K.U):=
 if K.fitsV v j=true∧j.whole∧j.bytes ≠ 0 then
  match cl with
  | true=>if sameSlot slot r=true then
    some { ok:=andB ok (andB (g == gen) (andB (subOk sub (lenL xs)) (andB (notB (emptyL ys)) (roomB (addN (sub? sub (lenL xs)).2 (lenL ys)) j.bytes)))),v:=.asl r (gen+1) none false,rd:=rd,wr:=[(r,.arr (gen+1) v (appL (subBy sub xs) ys))] }
   else match newO loc H slot with
   | some r'=>some { ok:=andB ok (andB (g == gen) (andB (subOk sub (lenL xs)) (andB (notB (emptyL ys)) (roomB (addN (sub? sub (lenL xs)).2 (lenL ys)) j.bytes)))),v:=.asl r' 0 none false,rd:=r :: rd,wr:=[(r',.arr 0 v (appL (subBy sub xs) ys))] }
   | none=>none
  | false=>
   if (sub? sub (lenL xs)).1=0 then
    some { ok:=andB ok (andB (g == gen) (andB (subOk sub (lenL xs)) (roomB (addN (sub? sub (lenL xs)).2 (lenL ys)) j.bytes))),v:=.asl r (gen+1) none false,rd:=rd,wr:=[(r,.arr (gen+1) v (appL (cutTo sub xs) ys))] }
   else none
 else none
def Cfg.append (K:Cfg) (loc:Loc K.U) (H:List (O K.U)) (slot:Option Nat) (t:TypeId) (x y:C K.U):Option (Out K.U):=
 match K.ti t with
 | some i=>match i.kind with
  | .slice e=>match K.ti e with
   | none=>none
   | some j=>match x with
    | .d .nils=>match K.rowsOf loc H (K.vc e) y with
     | some (ok,ys)=>K.appFresh loc H slot j y.ref (K.vc e) ok (nilL _) ys
     | none=>none
    | .clip c xs=>match K.rowsOf loc H (.pure c) y with
     | some (ok,ys)=>K.appFresh loc H slot j y.ref (.pure c) ok xs ys
     | none=>none
    | .asl r gen sub cl=>match getO loc H r with
     | some (.arr g v xs)=>match K.rowsOf loc H v y with
      | some (ok,ys)=>K.appArr loc H slot j y.ref r gen g sub cl v ok xs ys
      | none=>match cl,K.rowsOf loc H (K.vcAt slot e j.size) y with
       | true,some (ok,ys)=>K.appEmpty loc H slot j (r :: y.ref) (K.vcAt slot e j.size) (andB ok (andB (g == gen) (andB (subOk sub (lenL xs)) (leN (sub? sub (lenL xs)).2 0)))) ys
       | _,_=>none
     | some (.fro g c xs)=>match cl && sameSlot slot r with
      | true=>match K.rowsOf loc H (.pure c) y with
       | some (ok,ys)=>K.appArr loc H slot j y.ref r gen g sub cl (.pure c) ok xs ys
       | none=>none
      | false=>match cl,K.rowsOf loc H (K.vcAt slot e j.size) y with
       | true,some (ok,ys)=>K.appEmpty loc H slot j (r :: y.ref) (K.vcAt slot e j.size) (andB ok (andB (g == gen) (andB (subOk sub (lenL xs)) (leN (sub? sub (lenL xs)).2 0)))) ys
       | _,_=>none
     | _=>none
    | _=>none
  | _=>none
 | none=>none
def Cfg.now (K:Cfg) (loc:Loc K.U) (H:List (O K.U)) (r:Rf) (gen:Nat) (sub:Option (Nat×Nat)):Option (Bool×D K.U×O K.U):=
 match getO loc H r with
 | some (.arr g (.pure c) xs)=>some (andB (g == gen) (subOk sub (lenL xs)),.sl c (subBy sub xs),.fro g c xs)
 | some (.fro g c xs)=>some (andB (g == gen) (subOk sub (lenL xs)),.sl c (subBy sub xs),.fro g c xs)
 | _=>none
def Cfg.storeFrz (K:Cfg) (loc:Loc K.U) (H:List (O K.U)) (t:TypeId) (a x:C K.U):Option (Out K.U):=
 match x with
 | .asl (.l s) gen sub _=>match K.now loc H (.l s) gen sub with
  | some (ok,d,o)=>match K.store (apL loc [(.l s,o)]) H t a (.d d) with
   | some r=>some { ok:=andB ok r.ok,v:=r.v,rd:=r.rd,wr:=(.l s,o) :: r.wr }
   | none=>none
  | none=>none
 | _=>none
def Cfg.storeX (K:Cfg) (frz:Bool) (loc:Loc K.U) (H:List (O K.U)) (t:TypeId) (a x:C K.U):Option (Out K.U):=
 match frz with
 | false=>K.store loc H t a x
 | true=>K.storeFrz loc H t a x
def C.ofZ {U:Univ} (z:List Z):List (C U):=z.map fun x=>.d x.d
def ofV1 {U:Univ}:Value→Option (C U)
 | .int k n=>some (.d (.int k n))
 | .bool b=>some (.d (.bool b))
 | .string s=>if Nat.ble s.size maxStr then some (.d (.str s)) else none
 | .pointer none=>some (.d .nilp)
 | .slice none 0 0=>some (.d .nils)
 | .map none=>some (.d .nilm)
 | .nilFunc=>some (.d .nilf)
 | .nilIface=>some (.d .nili)
 | .func (.func f) ⟨[]⟩ ⟨[]⟩=>some (.fn f [] [])
 | _=>none
def ofV {U:Univ}:Value→Option (C U)
 | .agg cs=>(cs.toList.mapM ofV1).map .agg
 | .tuple ⟨[]⟩=>some (.tup [])
 | v=>ofV1 v
def Cfg.ev (K:Cfg) (tmps:Nat→C K.U):Operand→Option (C K.U)
 | .tmp t=>some (tmps t)
 | .const v=>ofV v
 | .global g=>(K.glob g).map .ep
 | .func f=>some (.fn f [] [])
def fillC {U:Univ} (place:Nat→Option (Nat×Nat)) (cells:List (C U)):List (Nat×C U)→Option (List (C U))
 | []=>some cells
 | (i,v) :: rest=>match place i with
  | none=>none
  | some (off,size)=>if v.cells.length=size∧off+size≤cells.length∧v.cells.all C.one then fillC place (splice cells off v.cells) rest else none
def Cfg.places (K:Cfg) (fs:List (TypeId×Nat)):Option (List (Nat×Nat)):=fs.mapM fun (t,off)=>(K.ti t).map fun j=>(off,j.size)
def Cfg.build (K:Cfg) (t:TypeId) (parts:List (Nat×C K.U)):Option (C K.U):=
 match K.ti t with
 | some i=>match i.kind with
  | .strct fs=>match K.places fs with
   | some ps=>(fillC (ps[·]?) (C.ofZ i.zero) parts).map .agg
   | none=>none
  | _=>none
 | none=>none
def Cfg.decAll (K:Cfg) (v:Vc K.U):List (List (C K.U))→Option (List v.El)
 | []=>some []
 | r :: rs=>match K.decV v r,K.decAll v rs with
  | some x,some xs=>some (x :: xs)
  | _,_=>none
def rowsOfCells {α:Type} (n size:Nat) (cs:List α):List (List α):=(List.range n).map fun i=>(cs.drop (i * size)).take size
def timesL {α:Type} (n:Nat) (cs:List α):List α:=(List.replicate n cs).flatten
def Cfg.buildSlice (K:Cfg) (loc:Loc K.U) (H:List (O K.U)) (slot:Option Nat) (t:TypeId) (n:Nat) (parts:List (Nat×C K.U)):Option (Out K.U):=
 match K.ti t with
 | some i=>match i.kind with
  | .slice e=>match K.ti e with
   | some j=>
    if (n * j.size≤2 ^ 20∧n * j.bytes≤room)∧j.size ≠ 0∧K.fitsV (K.vcAt slot e j.size) j=true∧j.whole then
     match fillC (fun i=>some (i * j.size,j.size)) (timesL n (C.ofZ j.zero)) parts with
     | some cs=>match K.decAll (K.vcAt slot e j.size) (rowsOfCells n j.size cs),newO loc H slot with
      | some xs,some r=>some { ok:=true,v:=.asl r 0 none false,wr:=[(r,.arr 0 (K.vcAt slot e j.size) xs)] }
      | _,_=>none
     | none=>none
    else none
   | none=>none
  | _=>none
 | none=>none
def Cfg.buildSliceX (K:Cfg) (frz:Bool) (loc:Loc K.U) (H:List (O K.U)) (slot:Option Nat) (t:TypeId) (n:Nat) (parts:List (Nat×C K.U)):Option (Out K.U):=
 match frz with
 | false=>K.buildSlice loc H slot t n parts
 | true=>if parts.all (fun p=>p.2.pureC)=true then match K.buildSlice (fun _=>none) [] (some 0) t n parts with
  | some r=>match r.wr with
   | [(.l _,.arr _ (.pure c) xs)]=>some { ok:=true,v:=.d (.sl c xs) }
   | _=>none
  | none=>none
  else none
def rowsSlot (slot:Option Nat):Bool:=match slot with
 | some s=>Nat.beq s 60000
 | none=>false
def Cfg.makeRows (K:Cfg) (H:List (O K.U)) (t:TypeId) (len cap:C K.U):Option (Out K.U):=
 match K.ti t with
 | some i=>match i.kind with
  | .slice e=>match K.ti e,len,cap with
   | some j,.d (.int .i64 n),.d (.int .i64 m)=>match j.kind with
    | .slice e'=>
     if j.zero=[.nils]∧j.size=1∧j.whole∧j.bytes ≠ 0 then
      some { ok:=andB (leI 0 n) (andB (leI n m) (roomI m j.bytes)),v:=.asl (.g (H.length+1)) 0 none false,wr:=[(.g H.length,.arr 0 (K.vc e') (nilL _)),(.g (H.length+1),.arr 0 .row (replL n ((H.length,0,none,true):Nat×Nat×Option (Nat×Nat)×Bool)))] }
     else none
    | _=>none
   | _,_,_=>none
  | _=>none
 | none=>none
def Cfg.makeSlice (K:Cfg) (loc:Loc K.U) (H:List (O K.U)) (slot:Option Nat) (t:TypeId) (len cap:C K.U):Option (Out K.U):=
 match K.ti t with
 | some i=>match i.kind with
  | .slice e=>match K.ti e,len,cap with
   | some j,.d (.int .i64 n),.d (.int .i64 m)=>
    if K.fitsV (K.vc e) j=true∧j.size ≠ 0∧j.whole∧j.bytes ≠ 0 then
     match K.decV (K.vc e) (C.ofZ j.zero),newO loc H slot with
     | some x,some r=>some { ok:=andB (leI 0 n) (andB (leI n m) (roomI m j.bytes)),v:=.asl r 0 none false,wr:=[(r,.arr 0 (K.vc e) (replL n x))] }
     | _,_=>none
    else none
   | _,_,_=>none
  | _=>none
 | none=>none
def sameZ {U:Univ}:Z→C U→C U→Option Bool
 | .int k,.d (.int i a),.d (.int j b)=>if i=k∧j=k then some (eqI a b) else none
 | .bool,.d (.bool a),.d (.bool b)=>some (eqB a b)
 | .str,.d (.str a),.d (.str b)=>some (strEq a b)
 | _,_,_=>none
def sameCells {U:Univ}:List Z→List (C U)→List (C U)→Option Bool
 | [],[],[]=>some true
 | z :: zs,x :: xs,y :: ys=>match sameZ z x y,sameCells zs xs ys with
  | some a,some b=>some (andB a b)
  | _,_=>none
 | _,_,_=>none
def Cfg.tiles (K:Cfg) (zs:List Z):List (TypeId×Nat)→Nat→Nat→Bool
 | [],a,b=>a == b
 | (t,off) :: fs,a,b=>off == a && match K.ti t with
  | some j=>(zs.drop off).take j.size == j.zero && K.tiles zs fs (a+j.size) b
  | none=>false
def Cfg.plainT (K:Cfg):Nat→TypeId→Bool
 | 0,_=>false
 | d+1,t=>match K.ti t with
  | some i=>i.zero.length == i.size && match i.kind with
   | .int k=>i.zero == [.int k]
   | .bool=>i.zero == [.bool]
   | .str=>i.zero == [.str]
   | .strct fs=>!K.P.stoodInHeld t && K.tiles i.zero fs 0 i.size && fs.all fun f=>K.plainT d f.1
   | _=>false
  | none=>false
def Cfg.keyOf (K:Cfg) (kc:K.U.Ty) (v:C K.U):Option (K.U.El kc):=
 match C.ds? v.cells with
 | some ds=>K.dec kc ds
 | none=>none
def Cfg.zeroV (K:Cfg) (e:TypeId) (v:Vc K.U):Option v.El:=
 match K.ti e with
 | some j=>if j.whole∧K.widthV v=j.size then K.decV v (C.ofZ j.zero) else none
 | none=>none
def elemVal {U:Univ} (i:TI) (cs:List (C U)):Option (C U):=
 if i.agg then some (.agg cs) else match cs with
  | [x]=>some x
  | _=>none
def Cfg.lookup (K:Cfg) (loc:Loc K.U) (H:List (O K.U)) (t:TypeId) (m k:C K.U) (ok:Bool):Option (Out K.U):=
  match K.ti t with
  | some ti=>match ti.kind with
   | .map kt e=>match K.ti e,K.ti kt,m with
    | some j,some i,.mp r=>match getO loc H r with
      | some (.map ag kc v es)=>match K.keyEq kc,K.keyOf kc k,K.zeroV e v with
        | some (zs,eq),some key,some z=>
          if zs=i.zero∧K.plainT 8 kt=true∧K.width kc=i.size∧ag=(i.agg,j.agg)∧i.agg=k.isAgg then
            match elemVal j (K.encV v (getO' z (findK eq key es))) with
            | some x=>some { ok:=true,v:=if ok then .tup [x,.d (.bool (someO (findK eq key es)))] else x,rd:=m.ref }
            | none=>none
          else none
        | _,_,_=>none
      | _=>none
    | _,_,_=>none
   | _=>none
  | none=>none
def Cfg.mapUpdate (K:Cfg) (loc:Loc K.U) (H:List (O K.U)) (t:TypeId) (m k x:C K.U):Option (Out K.U):=
  match K.ti t with
  | some ti=>match ti.kind with
   | .map kt e=>match K.ti e,K.ti kt,m with
    | some j,some i,.mp r=>match getO loc H r with
      | some (.map ag kc v es)=>match K.keyEq kc,K.keyOf kc k,K.decV v x.cells with
        | some (zs,eq),some key,some y=>
          if zs=i.zero∧K.plainT 8 kt=true∧K.width kc=i.size∧x.cells.length=j.size∧x.cells.all C.one∧ag=(i.agg,j.agg)∧i.agg=k.isAgg∧j.agg=x.isAgg then
            some { ok:=true,v:=.tup [],wr:=[(r,.map ag kc v (updK eq key y es))] }
          else none
        | _,_,_=>none
      | _=>none
    | _,_,_=>none
   | _=>none
  | none=>none
def Cfg.mapEntry (K:Cfg) (loc:Loc K.U) (H:List (O K.U)) (t:TypeId) (m k:C K.U):Option (Out K.U):=
  match K.ti t with
  | some ti=>match ti.kind with
   | .map kt e=>match K.ti e,K.ti kt,m with
    | some j,some i,.mp r=>match getO loc H r with
      | some (.map ag kc v es)=>match K.keyEq kc,K.keyOf kc k,K.zeroV e v with
        | some (zs,eq),some key,some z=>
          if zs=i.zero∧K.plainT 8 kt=true∧K.width kc=i.size∧ag=(i.agg,j.agg)∧i.agg=k.isAgg then
            match elemVal j (K.encV v (getO' z (findK eq key es))) with
            | some x=>some { ok:=true,v:=.tup [x,.d (.int .i64 (intN (idxK eq key es)))],wr:=[(r,.map ag kc v (entK eq key z es))] }
            | none=>none
          else none
        | _,_,_=>none
      | _=>none
    | _,_,_=>none
   | _=>none
  | none=>none
def Cfg.entryStore (K:Cfg) (loc:Loc K.U) (H:List (O K.U)) (t:TypeId) (m s x:C K.U):Option (Out K.U):=
  match K.ti t with
  | some ti=>match ti.kind with
   | .map _ e=>match K.ti e,m,s with
    | some j,.mp r,.d (.int .i64 n)=>match getO loc H r with
      | some (.map ag kc v es)=>match K.decV v x.cells with
        | some y=>
          if x.cells.length=j.size∧x.cells.all C.one∧j.agg=ag.2∧j.agg=x.isAgg then
            some { ok:=inB n (lenL es),v:=.tup [],wr:=[(r,.map ag kc v (setK es (natI n) y))] }
          else none
        | _=>none
      | _=>none
    | _,_,_=>none
   | _=>none
  | none=>none
def natOp (k:IntKind) (op:BinOp) (a b:Int):Option (Int×Bool):=
 match op with
 | .add=>some (addW k a b,true)
 | .sub=>some (subW k a b,true)
 | .mul=>some (mulW k a b,true)
 | .quo=>some (quoW k a b,notB (eqI b 0))
 | .rem=>some (remW a b,notB (eqI b 0))
 | .and=>some (andW k a b,true)
 | .or=>some (orW k a b,true)
 | .xor=>some (xorW k a b,true)
 | .andNot=>some (andNotW k a b,true)
 | _=>none
def cmpOp (op:BinOp) (a b:Int):Option Bool:=
 match op with
 | .eql=>some (eqI a b)
 | .neq=>some (notB (eqI a b))
 | .lss=>some (ltI a b)
 | .leq=>some (leI a b)
 | .gtr=>some (ltI b a)
 | .geq=>some (leI b a)
 | _=>none
def strOp {U:Univ} (op:BinOp) (x y:ByteArray):Option (Bool×D U):=
 match op with
 | .add=>some (strRoom x y,.str (strAdd x y))
 | .eql=>some (true,.bool (strEq x y))
 | .neq=>some (true,.bool (notB (strEq x y)))
 | .lss=>some (true,.bool (strLt x y))
 | .leq=>some (true,.bool (orB (strLt x y) (strEq x y)))
 | .gtr=>some (true,.bool (notB (orB (strLt x y) (strEq x y))))
 | .geq=>some (true,.bool (notB (strLt x y)))
 | _=>none
def C.isNil {U:Univ}:TK→C U→Option Bool
 | .ptr _,.d .nilp|.func,.d .nilf|.map _ _,.d .nilm|.slice _,.d .nils=>some true
 | .ptr _,.optr o=>some (notB (someO o))
 | .ptr _,.ptr _ _|.ptr _,.pa _ _ _ _|.ptr _,.ep _|.map _ _,.mp _|.func,.fn _ _ _|.func,.fp _ _ _=>some false
 | _,_=>none
def C.nil {U:Univ}:C U→Bool
 | .d .nilp|.d .nilf|.d .nilm|.d .nils=>true
 | _=>false
def Cfg.binOp (K:Cfg) (op:BinOp) (t:TypeId) (x y:C K.U):Option (Bool×C K.U):=
 match op,x,y with
 | .shl,.d (.int k a),.d (.int _ b)=>some (leI 0 b,.d (.int k (shlW k a b)))
 | .shr,.d (.int k a),.d (.int _ b)=>some (leI 0 b,.d (.int k (shrW k a b)))
 | _,.d (.int k a),.d (.int k' b)=>
  if k=k' then match natOp k op a b with
   | some (n,ok)=>some (ok,.d (.int k n))
   | none=>(cmpOp op a b).map fun r=>(true,.d (.bool r))
  else none
 | _,.d (.str a),.d (.str b)=>(strOp op a b).map fun (ok,r)=>(ok,.d r)
 | .eql,.d (.bool a),.d (.bool b)=>match K.ti t with
  | some { kind:=.bool,.. }=>some (true,.d (.bool (eqB a b)))
  | _=>none
 | .neq,.d (.bool a),.d (.bool b)=>match K.ti t with
  | some { kind:=.bool,.. }=>some (true,.d (.bool (notB (eqB a b))))
  | _=>none
 | _,.agg xs,.agg ys=>match K.ti t with
  | some i=>if i.agg=true∧K.plainT 8 t=true∧K.P.eqGuardType K.P.depth t=false then match sameCells i.zero xs ys with
   | some b=>match op with
    | .eql=>some (true,.d (.bool b))
    | .neq=>some (true,.d (.bool (notB b)))
    | _=>none
   | none=>none
   else none
  | none=>none
 | _,x,y=>match K.ti t with
  | some { kind:=k,.. }=>
   if x.nil || y.nil then match x.isNil k,y.isNil k with
    | some a,some b=>match op with
     | .eql=>some (true,.d (.bool (andB a b)))
     | .neq=>some (true,.d (.bool (notB (andB a b))))
     | _=>none
    | _,_=>none
   else none
  | none=>none
def Cfg.unOp (K:Cfg) (op:UnOp) (x:C K.U):Option (C K.U):=
 match op,x with
 | .not,.d (.bool b)=>some (.d (.bool (notB b)))
 | .neg,.d (.int k n)=>some (.d (.int k (negW k n)))
 | .xor,.d (.int k n)=>some (.d (.int k (comW k n)))
 | _,_=>none
def Cfg.convert (K:Cfg) (src dst:TypeId) (x:C K.U):Option (C K.U):=
 if (K.ti src).isNone then none else match K.ti dst,x with
 | some { kind:=.int k,.. },.d (.int _ n)=>some (.d (.int k (convW k n)))
 | some { kind:=.str,.. },.d (.str s)=>some (.d (.str s))
 | _,_=>none
def pickC {U:Univ} (c:Bool) (a b:C U):Option (C U):=
 match a,b with
 | .d (.bool x),.d (.bool y)=>some (.d (.bool (pickB c x y)))
 | a,b=>match c with
  | true=>some a
  | false=>some b
def maxOf:List Int→Int→Int
 | [],m=>m
 | n :: l,m=>maxOf l (maxI m n)
def minOf:List Int→Int→Int
 | [],m=>m
 | n :: l,m=>minOf l (minI m n)
def intsOf {U:Univ} (k:IntKind):List (C U)→Option (List Int)
 | []=>some []
 | .d (.int k' n) :: l=>if k'=k then (intsOf k l).map (n :: ·) else none
 | _=>none
def outV {U:Univ} (ok:Bool) (v:C U) (rd:List Rf:=[]):Option (Step U):=some (.out { ok:=ok,v:=v,rd:=rd })
def C.co {U:Univ}:Option U.Ty→C U→C U
 | some c,.d .nils=>.d (.sl c (nilL _))
 | _,x=>x
def C.coL {U:Univ}:List (Option U.Ty)→List (C U)→List (C U)
 | o :: os,x :: xs=>x.co o :: C.coL os xs
 | _,xs=>xs
def C.coV {U:Univ} (os:List (Option U.Ty)):C U→C U
 | .agg cs=>.agg (C.coL os cs)
 | x=>match os with
  | o :: _=>x.co o
  | []=>x
def ownAll {U:Univ} (loc:Loc U) (H:List (O U)):List (Nat×Option Nat×Vc U)→List (C U)→Option (List (C U)×List (Rf×O U))
 | [],cs=>some (cs,[])
 | (i,slot,v) :: rest,cs=>match cs[i]? with
  | some (.d .nils)=>match newO loc H slot with
   | some r=>match ownAll (apL loc [(r,.arr 0 v (nilL _))]) (apH H [(r,.arr 0 v (nilL _))]) rest (cs.set i (.asl r 0 none false)) with
    | some (ds,wr)=>some (ds,(r,.arr 0 v (nilL _)) :: wr)
    | none=>none
   | none=>none
  | _=>none
def ownOut {U:Univ} (loc:Loc U) (H:List (O U)) (own:List (Nat×Option Nat×Vc U)) (v:C U):Option (Step U):=
 match own with
 | []=>some (.out { ok:=true,v:=v })
 | _=>match ownAll loc H own v.cells with
  | some (cs,wr)=>match v with
   | .agg _=>some (.out { ok:=true,v:=.agg cs,wr:=wr })
   | _=>match cs with
    | [x]=>some (.out { ok:=true,v:=x,wr:=wr })
    | _=>none
  | none=>none
def stepOut {U:Univ} (x:Option (Out U)):Option (Step U):=x.map .out
def Cfg.appZeros (K:Cfg) (loc:Loc K.U) (H:List (O K.U)) (slot:Option Nat) (t:TypeId) (x y:C K.U):Option (Out K.U):=
 match K.ti t with
 | some i=>match i.kind with
  | .slice e=>match K.ti e,x,y with
   | some j,.d .nils,.d (.int .i64 n)=>
    if K.fitsV (K.vc e) j=true∧j.size ≠ 0∧j.whole∧j.bytes ≠ 0 then
     match K.decV (K.vc e) (C.ofZ j.zero),newO loc H slot with
     | some z,some r=>some { ok:=andB (ltI 0 n) (roomI n j.bytes),v:=.asl r 0 none false,wr:=[(r,.arr 0 (K.vc e) (replL n z))] }
     | _,_=>none
    else none
   | _,_,_=>none
  | _=>none
 | none=>none
def twoSlot (slot:Option Nat):Bool:=match slot with
 | some s=>Nat.beq s 70000
 | none=>false
def Cfg.builtin (K:Cfg) (slot:Option Nat) (b:Builtin) (ts:List TypeId) (args:List (C K.U)) (loc:Loc K.U) (H:List (O K.U)):Option (Out K.U):=
 match b,ts,args with
 | .len,t :: _,[x]=>match K.ti t with
  | some i=>match K.lenOf loc H i.kind x with
   | some (ok,n)=>some { ok:=ok,v:=.d (.int .i64 (intN n)),rd:=x.ref }
   | none=>none
  | none=>none
 | .append,[t,u],[x,y]=>match K.ti u with
  | some i=>match i.kind,twoSlot slot with
   | .slice _,false=>K.append loc H slot t x y
   | .int _,false=>K.appZeros loc H slot t x y
   | _,_=>none
  | none=>none
 | .cap,t :: _,[.d .nils]=>match K.ti t with
  | some i=>match i.kind with
   | .slice _=>some { ok:=true,v:=.d (.int .i64 0) }
   | _=>none
  | none=>none
 | .max,_,.d (.int k n) :: rest=>match intsOf k rest with
  | some l=>some { ok:=true,v:=.d (.int k (maxOf l n)) }
  | none=>none
 | .min,_,.d (.int k n) :: rest=>match intsOf k rest with
  | some l=>some { ok:=true,v:=.d (.int k (minOf l n)) }
  | none=>none
 | _,_,_=>none
def evs (f:Operand→Option (C K.U)):List Operand→Option (List (C K.U))
 | []=>some []
 | x :: xs=>match f x,evs f xs with
  | some y,some ys=>some (y :: ys)
  | _,_=>none
def evsN (f:Operand→Option (C K.U)):List (Nat×Operand)→Option (List (Nat×C K.U))
 | []=>some []
 | (i,x) :: xs=>match f x,evsN f xs with
  | some y,some ys=>some ((i,y) :: ys)
  | _,_=>none
def evO (f:Operand→Option (C K.U)):Option Operand→Option (Option (C K.U))
 | none=>some none
 | some x=>(f x).map some
def Cfg.aopAt (K:Cfg) (slot:Option Nat) (an:OpAnn K.U) (o:Oper) (f:Operand→Option (C K.U)) (loc:Loc K.U) (H:List (O K.U)):Option (Step K.U):=
 match o.op with
 | .move x|.assign x=>match f x with
  | some v=>ownOut loc H an.own v
  | none=>none
 | .pick c a b=>match f c,f a,f b with
  | some (.d (.bool c)),some a,some b=>match pickC c a b with
   | some v=>outV true v
   | none=>none
  | _,_,_=>none
 | .alloc t=>match K.ti t with
  | some i=>if i.whole then match newO loc H slot with
   | some r=>some (.out { ok:=true,v:=.ptr r 0,wr:=[(r,.cells (C.coL an.co (C.ofZ i.zero)))] })
   | none=>none
   else none
  | none=>none
 | .box _ x=>match f x with
  | some v=>if v.cells.all C.one then match newO loc H slot with
   | some r=>some (.out { ok:=true,v:=.ptr r 0,wr:=[(r,.cells v.cells)] })
   | none=>none
   else none
  | none=>none
 | .build t parts=>match evsN f parts.toList with
  | some ps=>match K.build t ps with
   | some v=>ownOut loc H an.own (v.coV an.co)
   | none=>none
  | none=>none
 | .buildSlice t n parts=>match evsN f parts.toList with
  | some ps=>stepOut (K.buildSliceX an.frz loc H slot t n ps)
  | none=>none
 | .load t a=>match f a with
  | some a=>stepOut (K.load loc H t a)
  | none=>none
 | .store t a x=>match f a,f x with
  | some a,some x=>stepOut (K.storeX an.frz loc H t a x)
  | _,_=>none
 | .nilCheck x=>match f x with
  | some (.ptr r n)=>outV true (.ptr r n)
  | some (.ep cs)=>outV true (.ep cs)
  | some (.pa r g i j)=>outV true (.pa r g i j)
  | some (.optr o)=>outV (someO o) (.ptr (.g (getO' 0 o)) 0)
  | some (.fn g a b)=>outV true (.fn g a b)
  | some (.fp g a b)=>outV true (.fp g a b)
  | _=>none
 | .binOp op t x y _=>match f x,f y with
  | some a,some b=>match K.binOp op t a b with
   | some (ok,v)=>outV ok v
   | none=>none
  | _,_=>none
 | .unOp op _ x=>match f x with
  | some a=>match K.unOp op a with
   | some v=>outV true v
   | none=>none
  | none=>none
 | .convert s t x=>match f x with
  | some a=>match K.convert s t a with
   | some v=>outV true v
   | none=>none
  | none=>none
 | .makeFunc (.func g) first caps=>match evs f first.toList,evs f caps.toList with
  | some a,some b=>outV true (.fn g a b)
  | _,_=>none
 | .makeInterface t x=>match f x with
  | some v=>if K.P.concrete t then outV true (.ifc t v) else none
  | none=>none
 | .makeMap t none=>match K.ti t with
  | some i=>match i.kind with
   | .map kt e=>match K.ti kt,K.ti e,newO loc H slot with
    | some i,some j,some r=>some (.out { ok:=true,v:=.mp r,wr:=[(r,.map (i.agg,j.agg) (K.kc t) (K.vc e) [])] })
    | _,_,_=>none
   | _=>none
  | none=>none
 | .makeSlice t n m=>match f n,f m with
  | some n,some m=>stepOut (match rowsSlot slot with|true=>K.makeRows H t n m|false=>K.makeSlice loc H slot t n m)
  | _,_=>none
 | .slice t x lo hi mx=>match f x,evO f lo,evO f hi,evO f mx with
  | some x,some lo,some hi,some mx=>match K.slice loc H t x lo hi mx with
   | some (ok,v)=>outV ok v x.ref
   | none=>none
  | _,_,_,_=>none
 | .fieldAddr s x i=>match f x with
  | some x=>match K.fieldAddr s x i with
   | some v=>outV true v
   | none=>none
  | none=>none
 | .field t x i=>match f x,K.ti t with
  | some (.agg cs),some ti=>match ti.kind with
   | .strct fs=>match fs[i]? with
    | some (ft,off)=>match K.ti ft with
     | some j=>match valOf j (cs.drop off) with
      | some v=>outV true v
      | none=>none
     | none=>none
    | none=>none
   | _=>none
  | _,_=>none
 | .indexAddr t x i=>match f x,f i with
  | some x,some (.d (.int _ i))=>match K.indexAddr loc H t x i with
   | some (ok,v)=>outV ok v x.ref
   | none=>none
  | _,_=>none
 | .index t x i=>match f x,f i,K.ti t with
  | some (.d (.str s)),some (.d (.int _ i)),some ti=>match ti.kind with
   | .str=>outV (inB i (strLen s)) (.d (.int .u8 (byteAt s i)))
   | _=>none
  | _,_,_=>none
 | .lookup t m k ok=>match f m,f k with
  | some m,some k=>stepOut (K.lookup loc H t m k ok)
  | _,_=>none
 | .mapUpdate t m k x|.insert t m k x=>match f m,f k,f x with
  | some m,some k,some x=>stepOut (K.mapUpdate loc H t m k x)
  | _,_,_=>none
 | .mapEntry t m k=>match f m,f k with
  | some m,some k=>stepOut (K.mapEntry loc H t m k)
  | _,_=>none
 | .entryStore t m s x=>match f m,f s,f x with
  | some m,some s,some x=>stepOut (K.entryStore loc H t m s x)
  | _,_,_=>none
 | .extract t i=>match f t with
  | some (.tup vs)=>match vs[i]? with
   | some v=>outV true v
   | none=>none
  | _=>none
 | .call c=>match evs f c.args.toList with
  | some args=>match c.callee with
   | .builtin b=>stepOut (K.builtin slot b c.argTypes.toList args loc H)
   | .value (.func g)=>some (.call g args)
   | .value g=>match f g with
    | some (.fn g first caps)=>match an.frz with
     | true=>some (.call g (first ++ args ++ caps))
     | false=>some (.dyn g [] (first ++ args ++ caps) [])
    | some (.fp g first caps)=>some (.dyn g first args caps)
    | _=>none
   | .invoke x nm=>match f x with
    | some (.ifc t v)=>match K.meth t nm with
     | some g=>some (.call g (v :: args))
     | none=>none
    | _=>none
  | none=>none
 | _=>none
def Cfg.appTwo (K:Cfg) (o:Oper) (f:Operand→Option (C K.U)) (loc:Loc K.U) (H:List (O K.U)):Option (Out K.U×Out K.U):=
 match o.op with
 | .call c=>match c.callee,evs f c.args.toList,c.argTypes.toList with
  | .builtin .append,some [.asl (.l s) gen (some (p,n)) false,y],[t,u]=>match K.ti t,K.ti u with
   | some i,some iu=>match i.kind,iu.kind with
    | .slice e,.slice _=>match K.ti e,loc s with
     | some j,some (.arr g v xs)=>match K.rowsOf loc H v y with
      | some (ok,ys)=>
       if K.fitsV v j=true∧j.whole∧j.bytes ≠ 0 then
        some ({ ok:=andB ok (andB (g == gen) (andB (subOk (some (p,n)) (lenL xs)) (roomB (addN (addN p n) (lenL ys)) j.bytes))),v:=.asl (.l s) (gen+1) (some (p,addN n (lenL ys))) false,rd:=y.ref,wr:=[(.l s,.arr (gen+1) v (appL (takeL (addN p n) xs) ys))] },
         { ok:=true,v:=.asl (.l s) (gen+1) (some (0,addN n (lenL ys))) false,rd:=y.ref,wr:=[(.l s,.arr (gen+1) v (appL (subBy (some (p,n)) xs) ys))] })
       else none
      | none=>none
     | _,_=>none
    | _,_=>none
   | _,_=>none
  | _,_,_=>none
 | _=>none
def Cfg.aop (K:Cfg) (an:OpAnn K.U) (o:Oper) (f:Operand→Option (C K.U)) (loc:Loc K.U) (H:List (O K.U)):Option (Step K.U):=
 K.aopAt (if an.glob then none else match an.slot with|some s=>some s|none=>o.dst) an o f loc H
end
end Go.Abs
