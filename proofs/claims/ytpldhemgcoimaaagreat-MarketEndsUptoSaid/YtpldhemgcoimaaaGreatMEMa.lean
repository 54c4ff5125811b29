/- Part 1. -/
import Derived.WalkKit
set_option linter.unusedSimpArgs false
set_option linter.unusedVariables false
set_option maxRecDepth 4000
namespace Go.HL
inductive PO where
 |bin (op:BinOp)
 |eqB (neg:Bool)
 |eqNil (neg:Bool) (d:TypeDesc) (v:Value)
 |un (op:UnOp)
 |convI (k:IntKind)
 |same
 |chkp
 |lenS|lenL|lenC (n:Nat)|capL
 |part (agg:Bool) (off size:Nat)
 |ext (i:Nat)
 |build (zero:Array Value) (pl:List (Nat×Nat)) (ix:List Nat)
 |fld (off:Nat)
 |idxL (size:Nat)|idxP (len size:Nat)
 |chS|chA (agg:Bool) (len size:Nat)
 |slS (lo hi:Bool)|slL (size:Nat) (lo hi mx:Bool)|FZ (n size:Nat) (lo hi mx:Bool)
 |mkf (fn:Fn) (n:Nat)
 |ifc (t:TypeId)
 |cal (f:FuncId)
def zc (s:ByteArray) (i:Int):Int:=((s.data.toList[i.toNat]?.getD 0).toNat:Int)
def Ns (op:BinOp) (k:IntKind) (a b:Int):Value:=
 match op with
 | .add=> .int k (k.wrap (a+b))
 | .sub=> .int k (k.wrap (a -b))
 | .mul=> .int k (k.wrap (a*b))
 | .quo=> .int k (k.wrap (a.tdiv b))
 | .rem=> .int k (a.tmod b)
 | .and=> .int k (k.wrap (BitVec.ofInt k.bits a&&&BitVec.ofInt k.bits b).toNat)
 | .or=> .int k (k.wrap (BitVec.ofInt k.bits a|||BitVec.ofInt k.bits b).toNat)
 | .xor=> .int k (k.wrap (BitVec.ofInt k.bits a^^^BitVec.ofInt k.bits b).toNat)
 | .andNot=> .int k (k.wrap (BitVec.ofInt k.bits a&&&~~~BitVec.ofInt k.bits b).toNat)
 | .shl=> .int k (k.wrap (a*2^(min b.toNat k.bits)))
 | .shr=> .int k (a.fdiv (2^(min b.toNat k.bits)))
 | .eql=> .bool (decide (a=b))
 | .neq=> .bool (!decide (a=b))
 | .lss=> .bool (decide (a<b))
 | .leq=> .bool (decide (a<=b))
 | .gtr=> .bool (decide (b<a))
 | .geq=> .bool (decide (b<=a))
def Nt (op:BinOp) (a b:ByteArray):Value:=
 match op with
 | .add=> .string (a++b)
 | .eql=> .bool ((a.data.toList==b.data.toList))
 | .neq=> .bool (!(a.data.toList==b.data.toList))
 | .lss=> .bool (Op.bytesLess a.data.toList b.data.toList)
 | .leq=> .bool (Op.bytesLess a.data.toList b.data.toList||(a.data.toList==b.data.toList))
 | .gtr=> .bool (!(Op.bytesLess a.data.toList b.data.toList||(a.data.toList==b.data.toList)))
 | .geq=> .bool (!Op.bytesLess a.data.toList b.data.toList)
 |_=>undef
def lH:Value->Bool
 | .pointer a=>a.isNone
 | .slice a _ _=>a.isNone
 | .map r=>r.isNone
 | .nilFunc=>true
 |_=>false
def lM (d:TypeDesc) (u v:Value):Bool:=
 match d,u,v with
 | .pointer _,.pointer _,.pointer none| .slice _,.slice _ _ _,.slice none _ _| .map _ _,.map _,.map none| .func _ _ _,.nilFunc,.nilFunc| .func _ _ _,.func _ _ _,.nilFunc=>true
 |_,_,_=>false
structure PF (P:Program) where
 ids:List Nat
 val:Nat->List Value->Value
 ok:Nat->List Value->Prop
 sound:∀f∈ids,∀(args:List Value) (w:World),ok f args->
  Calls P f args.toArray w λe w'=>e= .returned (val f args)/\w'=w
 /-- calls that may change the world inside a class: where a region draws ae order they count as_ looks -/
 qs:List Nat:= []
variable {P:Program} (F:PF P)
def jQ (l:Bool) (vs:List Value):Option Int×List Value:=
 match l,vs with
 |true,.int _ i::r=>(some i,r)
 |_,r=>(none,r)
def du (len cap:Nat) (lo hi mx:Bool) (vs:List Value):Nat×Nat×Nat:=
 let (l,r):=jQ lo vs
 let (h,r):=jQ hi r
 let (m,_):=jQ mx r
 let m':=(m.map Int.toNat).getD cap
 let h':=(h.map Int.toNat).getD len
 let l':=(l.map Int.toNat).getD 0
 (l',h',m')
def jb:List Value->Bool
 | []=>true
 | .int _ _::r=>jb r
 |_=>false
def dq (len cap:Nat) (lo hi mx:Bool) (vs:List Value):Prop:=
 let n:=lo.toNat+hi.toNat+mx.toNat
 let (l,r):=jQ lo vs
 let (h,r):=jQ hi r
 let (m,_):=jQ mx r
 let (_,h',m'):=du len cap lo hi mx vs
 vs.length=n/\jb vs=true/\(mx=true->hi=true)/\(∀i,m=some i->0<=i/\i<=cap)/\(∀i,h=some i->0<=i/\i<=m')/\(∀i,l=some i->0<=i/\i<=h')
def PO.val:PO->List Value->Value
 | .bin op,[.int k a,.int _ b]=>Ns op k a b
 | .bin op,[.string a,.string b]=>Nt op a b
 | .eqB neg,[.bool a,.bool b]=> .bool (if neg then a !=b else a==b)
 | .eqNil neg _ _,[x]=> .bool (if neg then !lH x else lH x)
 | .un .neg,[.int k a]=> .int k (k.wrap (0 -a))
 | .un .not,[.bool b]=> .bool (!b)
 | .convI k,[.int _ n]=> .int k (k.wrap n)
 | .same,[x]=>x
 | .chkp,[x]=>x
 | .lenS,[.string s]=> .int .i64 s.data.toList.length
 | .lenL,[.slice _ n _]=> .int .i64 n
 | .lenC n,[_]=> .int .i64 n
 | .capL,[.slice _ _ c]=> .int .i64 c
 | .part agg off size,[.agg cs]=>if agg then .agg (cs.extract off (off+size)) else cs.getD off undef
 | .ext i,[.tuple vs]=>vs.getD i undef
 | .build zero pl ix,vs=>match Instr.fill (pl[·]?) zero (ix.zip vs) with|some cells=> .agg cells|none=>undef
 | .fld off,[.pointer (some a)]=> .pointer (some (a.add off))
 | .idxL size,[.slice (some a) _ _,.int _ i]=> .pointer (some (a.add (i.toNat*size)))
 | .idxP _ size,[.pointer (some a),.int _ i]=> .pointer (some (a.add (i.toNat*size)))
 | .chS,[.string s,.int _ i]=> .int .u8 (zc s i)
 | .chA agg _ size,[.agg cs,.int _ i]=>if agg then .agg (cs.extract (i.toNat*size) (i.toNat*size+size)) else cs.getD (i.toNat*size) undef
 | .slS lo hi,.string s::vs=>let (l,h,_):=du s.size s.size lo hi false vs; .string ⟨((s.data.toList.take h).drop l).toArray⟩
 | .slL size lo hi mx,.slice a len cap::vs=>let (l,h,m):=du len cap lo hi mx vs; .slice (if m=l then a else a.map (·.add (l*size))) (h -l) (m -l)
 | .FZ n size lo hi mx,.pointer (some a)::vs=>let (l,h,m):=du n n lo hi mx vs; .slice (some (if m=l then a else a.add (l*size))) (h -l) (m -l)
 | .mkf fn n,vs=> .func fn (vs.take n).toArray (vs.drop n).toArray
 | .ifc t,[x]=> .iface t x
 | .cal f,vs=>F.val f vs
 |_,_=>undef
def PO.ok:PO->List Value->Prop
 | .bin op,[.int k _,.int k' b]=>(op= .shl\/op= .shr->0<=b)/\(op= .shl\/op= .shr\/k=k')/\(op= .quo\/op= .rem->b≠0)
 | .bin op,[.string a,.string b]=>match op with
  | .add=>(a.size+b.size:Nat)<=maxLen
  | .eql| .neq| .lss| .leq| .gtr| .geq=>True
  |_=>False
 | .eqB _,[.bool _,.bool _]=>True
 | .eqNil _ d v,[x]=>lM d x v=true
 | .un .neg,[.int _ _]=>True
 | .un .not,[.bool _]=>True
 | .convI _,[.int _ _]=>True
 | .same,[.string _]=>True
 | .chkp,[.pointer a]=>a≠none
 | .lenS,[.string _]=>True
 | .lenL,[.slice _ _ _]=>True
 | .lenC _,[_]=>True
 | .capL,[.slice _ _ _]=>True
 | .part agg off _,[.agg cs]=>if agg then True else off<cs.size
 | .ext i,[.tuple vs]=>i<vs.size
 | .build zero pl ix,vs=>(Instr.fill (pl[·]?) zero (ix.zip vs)).isSome=true
 | .fld _,[.pointer a]=>a≠none
 | .idxL _,[.slice a len _,.int _ i]=>a≠none/\0<=i/\i<len
 | .idxP len _,[.pointer a,.int _ i]=>a≠none/\0<=i/\i<len
 | .chS,[.string s,.int _ i]=>0<=i/\i<s.data.toList.length
 | .chA agg len size,[.agg cs,.int _ i]=>0<=i/\i<len/\(agg=true\/i.toNat*size<cs.size)
 | .slS lo hi,.string s::vs=>dq s.size s.size lo hi false vs
 | .slL _ lo hi mx,.slice _ len cap::vs=>dq len cap lo hi mx vs
 | .FZ n _ lo hi mx,.pointer a::vs=>a≠none/\dq n n lo hi mx vs
 | .mkf _ n,vs=>n<=vs.length
 | .ifc _,[_]=>True
 | .cal f,vs=>F.ok f vs
 |_,_=>False
def sz (P:Program) (t:TypeId):Option Nat:=(P.info? t).map (·.size)
def gP:TypeDesc->Bool
 | .struct _| .array _ _=>true
 |_=>false
def bT (P:Program) (f:FuncId):Bool:=
 match P.funcs[f]? with
 |some fn=>fn.body.isSome&&fn.name != "runtime.NumGoroutine"
 |none=>false
def PO.of (P:Program) (F:PF P) (o:Op):Option (PO×List Operand):=
 match o with
 | .binOp op t x y _=>
  match P.underlying t with
  |some (.int _)=>some (.bin op,[x,y])
  |some .string=>some (.bin op,[x,y])
  |some .bool=>match op with
   | .eql=>some (.eqB false,[x,y])
   | .neq=>some (.eqB true,[x,y])
   |_=>none
  |some d=>
   match op,y with
   | .eql,.const v=>some (.eqNil false d v,[x])
   | .neq,.const v=>some (.eqNil true d v,[x])
   |_,_=>none
  |_=>none
 | .unOp op _ x=>match op with
  | .neg=>some (.un .neg,[x])
  | .not=>some (.un .not,[x])
  |_=>none
 | .convert s d x=>
  match P.underlying s,P.underlying d with
  |some (.int _),some (.int k)=>some (.convI k,[x])
  |some .string,some .string=>some (.same,[x])
  |_,_=>none
 | .nilCheck x=>some (.chkp,[x])
 | .field t x i=>
  match P.underlying t with
  |some (.struct fs)=>match fs[i]? with
   |some f=>match P.underlying f.type with
    |some d=>(sz P f.type).map λs=>(.part (gP d) f.offset s,[x])
    |none=>none
   |none=>none
  |_=>none
 | .extract x i=>some (.ext i,[x])
 | .build t parts=>
  match P.underlying t,P.info? t with
  |some (.struct fs),some i=>match i.zero with
   |some z=>if fs.toList.all (λf=>(P.info? f.type).isSome) then some (.build z.cells (fs.toList.map λf=>(f.offset,P.cellsOf f.type)) (parts.toList.map (·.1)),parts.toList.map (·.2)) else none
   |none=>none
  |_,_=>none
 | .fieldAddr t x i=>
  match P.underlying t with
  |some (.struct fs)=>match fs[i]? with
   |some f=>match sz P f.type with
    |some (_+1)=>some (.fld f.offset,[x])
    |_=>none
   |none=>none
  |_=>none
 | .indexAddr t x i=>
  match P.underlying t with
  |some (.slice e)=>(sz P e).map λs=>(.idxL s,[x,i])
  |some (.array n e)=>(sz P e).map λs=>(.idxP n s,[x,i])
  |_=>none
 | .index t x i=>
  match P.underlying t with
  |some .string=>some (.chS,[x,i])
  |some (.array n e)=>match P.underlying e with
   |some d=>(sz P e).map λs=>(.chA (gP d) n s,[x,i])
   |none=>none
  |_=>none
 | .slice t x lo hi mx=>
  match P.underlying t with
  |some .string=>if mx.isNone then some (.slS lo.isSome hi.isSome,x::(lo.toList++hi.toList)) else none
  |some (.slice e)=>(sz P e).map λs=>(.slL s lo.isSome hi.isSome mx.isSome,x::(lo.toList++hi.toList++mx.toList))
  |some (.array n e)=>(sz P e).map λs=>(.FZ n s lo.isSome hi.isSome mx.isSome,x::(lo.toList++hi.toList++mx.toList))
  |_=>none
 | .makeFunc fn first captured=>some (.mkf fn first.size,first.toList++captured.toList)
 | .makeInterface t x=>match P.underlying t with
  |some (.interface _)=>none
  |some _=>some (.ifc t,[x])
  |none=>none
 | .call c=>match c.callee with
  | .builtin .len=>match c.argTypes.toList,c.args.toList with
   | [t],[x]=>match P.underlying t with
    |some .string=>some (.lenS,[x])
    |some (.slice _)=>some (.lenL,[x])
    |some (.array n _)=>some (.lenC n,[x])
    |_=>none
   |_,_=>none
  | .builtin .cap=>match c.argTypes.toList,c.args.toList with
   | [t],[x]=>match P.underlying t with
    |some (.slice _)=>some (.capL,[x])
    |_=>none
   |_,_=>none
  | .value (.func f)=>if F.ids.contains f&&bT P f then some (.cal f,c.args.toList) else none
  |_=>none
 |_=>none
theorem fN {t:TypeId} {n:Nat} (h:sz P t=some n) (w:World):(sizeOf t).run P w= .ok n w:=by simp only [sz,Option.map_eq_some_iff] at h;obtain ⟨i,hi,rfl⟩:=h;simp [sizeOf,typeInfo,hi]
theorem qQ {t:TypeId} {d:TypeDesc} (h:P.underlying t=some d) (w:World):(isAgg t).run P w= .ok (gP d) w:=by simp only [isAgg,underlying,Sem.run_bind,run_program,Result.andThen_ok,h,Sem.run_pure];cases d<;>rfl
theorem Df {t:TypeId} {d:TypeDesc} {n off:Nat} (h:P.underlying t=some d) (hs:sz P t=some n) (cs:Array Value) (w:World) (ho:gP d=true\/off<cs.size):
  (part t cs off).run P w= .ok (if gP d then .agg (cs.extract off (off+n)) else cs.getD off undef) w:=by
 simp only [part,Sem.run_bind,qQ h,Result.andThen_ok];cases hd:gP d with
 |true=>simp [fN hs]
 |false=>
  have:off<cs.size:=by simpa [hd] using ho
  simp [this]
theorem bp {t:TypeId} {d:TypeDesc} (h:P.underlying t=some d) (w:World):(underlying t).run P w= .ok d w:=by simp [underlying,h]
theorem Gs (op:BinOp) (t:TypeId) (x y:Operand) (k k':IntKind) (a b:Int) (w:World) (hok:PO.ok F (.bin op) [.int k a,.int k' b]):
  (do eqGuard op t x y (.int k a) (.int k' b);binOp op t (.int k a) (.int k' b):Sem Value).run P w= .ok (Ns op k a b) w:=by
 simp only [PO.ok] at hok;obtain ⟨h1,h2,h3⟩:=hok;have hg:(eqGuard op t x y (.int k a) (.int k' b)).run P w= .ok () w:=by cases op<;>rfl
 simp only [Sem.run_bind,hg,Result.andThen_ok];cases op<;>simp at h1 h2 h3<;>(try subst h2)<;>simp [binOp,Ns,Op.shift,Op.intArith,Op.intDiv,Op.intBits,Op.intCmp, *]<;>
  (try (intro hb;omega))<;>(try (rw [Bool.eq_iff_iff];simp))
theorem Gu (op:BinOp) (t:TypeId) (x y:Operand) (a b:ByteArray) (w:World) (hok:PO.ok F (.bin op) [.string a,.string b]):
  (do eqGuard op t x y (.string a) (.string b);binOp op t (.string a) (.string b):Sem Value).run P w= .ok (Nt op a b) w:=by
 have hg:(eqGuard op t x y (.string a) (.string b)).run P w= .ok () w:=by cases op<;>rfl
 simp only [Sem.run_bind,hg,Result.andThen_ok];cases op<;>simp only [PO.ok] at hok<;>simp only [binOp,Nt,Op.stringOp,ByteArray.toList_eq,Sem.run_pure,Sem.run_ite]<;>(try (exfalso;exact hok))<;>(try rfl)
 ·rw [if_neg]
  unfold maxLen at hok;have:IntKind.max .i64=9223372036854775807:=by decide
  rw [this];omega
theorem uN (t:TypeId) (x y:Value):Op.equal t x y=Op.equalIn (9999+1) t x y:=rfl
theorem IC (n:Nat) (t:TypeId) (a b:Bool) (w:World) (ht:P.underlying t=some .bool):
  (Op.equalIn (n+1) t (.bool a) (.bool b)).run P w= .ok (a==b) w:=by
 simp only [Op.equalIn,Sem.run_bind,bp ht,Result.andThen_ok,Sem.run_pure]
theorem BM (neg:Bool) (t:TypeId) (x y:Operand) (a b:Bool) (w:World) (ht:P.underlying t=some .bool):
  (do eqGuard (if neg then .neq else .eql) t x y (.bool a) (.bool b);binOp (if neg then .neq else .eql) t (.bool a) (.bool b):Sem Value).run P w= .ok (.bool (if neg then a !=b else a==b)) w:=by
 have hg:∀op,(eqGuard op t x y (.bool a) (.bool b)).run P w= .ok () w:=by intro op;cases op<;>rfl
 have he:=IC 9999 t a b w ht;rw [<-uN] at he;cases neg
 ·show (do eqGuard .eql t x y (.bool a) (.bool b);(do pure (.bool (<-Op.equal t (.bool a) (.bool b)))):Sem Value).run P w=_
  simp only [Sem.run_bind,hg,Result.andThen_ok,he,Sem.run_pure];rfl
 ·show (do eqGuard .neq t x y (.bool a) (.bool b);(do pure (.bool (!(<-Op.equal t (.bool a) (.bool b))))):Sem Value).run P w=_
  simp only [Sem.run_bind,hg,Result.andThen_ok,he,Sem.run_pure];rfl
theorem K1 (n:Nat) (t:TypeId) (d:TypeDesc) (u v:Value) (w:World) (ht:P.underlying t=some d) (h:lM d u v=true):
  (Op.equalIn (n+1) t u v).run P w= .ok (lH u) w:=by
 unfold lM at h;split at h<;>simp only [Op.equalIn,Sem.run_bind,bp ht,Result.andThen_ok,Sem.run_pure,lH]<;>(try (rename_i a;cases a<;>simp only [Op.equalIn,Sem.run_bind,bp ht,Result.andThen_ok,Sem.run_pure,lH]<;>rfl))
 ·rename_i a _ _ _ _;cases a<;>simp only [Op.equalIn,Sem.run_bind,bp ht,Result.andThen_ok,Sem.run_pure,lH]<;>rfl
 ·cases h
theorem Gt (neg:Bool) (t:TypeId) (x y:Operand) (d:TypeDesc) (u v:Value) (w:World) (ht:P.underlying t=some d) (h:lM d u v=true):
  (do eqGuard (if neg then .neq else .eql) t x y u v;binOp (if neg then .neq else .eql) t u v:Sem Value).run P w= .ok (.bool (if neg then !lH u else lH u)) w:=by
 have he:=K1 9999 t d u v w ht h;rw [<-uN] at he;have hg:∀op,(eqGuard op t x y u v).run P w= .ok () w:=by intro op;unfold lM at h;split at h<;>first|(cases op<;>rfl)|cases h
 have hb:binOp (if neg then .neq else .eql) t u v=(do let b<-Op.equal t u v;pure (.bool (if neg then !b else b))):=by unfold lM at h;split at h<;>first|(cases neg<;>rfl)|cases h
 rw [hb];simp only [Sem.run_bind,hg,Result.andThen_ok,he,Sem.run_pure]
theorem cr (k:IntKind) (i:Int) (y:Nat) (c:BoundsCode) (w:World) (h:0<=i/\i<=y):(Instr.sliceBound (.int k i) y c).run P w= .ok i.toNat w:=by simp only [Instr.sliceBound,asIntOf,Sem.run_bind,Sem.run_pure,Result.andThen_ok];rw [if_pos h];rfl
theorem oC (isS:Bool) (len cap:Nat) (lo hi mx:Option Value) (w:World)
  (h:dq len cap lo.isSome hi.isSome mx.isSome (lo.toList++hi.toList++mx.toList)):
  (Instr.sliceBounds isS len cap lo hi mx).run P w= .ok (du len cap lo.isSome hi.isSome mx.isSome (lo.toList++hi.toList++mx.toList)) w:=by
 have hi':jb (lo.toList++hi.toList++mx.toList)=true:=h.2.1;cases lo with
 |none=>
  cases hi with
  |none=>
   cases mx with
   |none=>simp [Instr.sliceBounds,du,jQ]
   |some m=>simp [dq] at h
  |some x=>
   cases x<;>simp [jb] at hi';cases mx with
   |none=>
    simp [dq,du,jQ] at h;simp [Instr.sliceBounds,du,jQ,cr,h]
   |some m=>
    cases m<;>simp [jb] at hi';simp [dq,du,jQ] at h;simp [Instr.sliceBounds,du,jQ,cr,h]
    try (rw [cr _ _ _ _ _ (by omega)];rfl)
 |some l=>
  cases l<;>simp [jb] at hi';cases hi with
  |none=>
   cases mx with
   |none=>
    simp [dq,du,jQ] at h;simp [Instr.sliceBounds,du,jQ,cr,h]
   |some m=>simp [dq] at h
  |some x=>
   cases x<;>simp [jb] at hi';cases mx with
   |none=>
    simp [dq,du,jQ] at h;simp [Instr.sliceBounds,du,jQ,cr,h]
    try (rw [cr _ _ _ _ _ (by omega)];rfl)
   |some m=>
    cases m<;>simp [jb] at hi';simp [dq,du,jQ] at h;simp [Instr.sliceBounds,du,jQ,cr,h]
    try (rw [cr _ _ _ _ _ (by omega)];simp)
    try (rw [cr _ _ _ _ _ (by omega)];rfl)
theorem extract_toList (s:ByteArray) (l h:Nat):s.extract l h=⟨((s.data.toList.take h).drop l).toArray⟩:=by
 cases s with
 |mk d=>
  cases d with
  |mk d=>
   apply ByteArray.ext;simp [List.drop_take]
theorem dw {f:FuncId} (h:bT P f=true) (args:Array Value) (w:World):(callFunc f args).run P w= .ok (.enter f args) w:=by
 unfold bT at h;split at h
 ·rename_i fn hfn
  simp only [Bool.and_eq_true,bne_iff_ne,ne_eq] at h;have hb:¬fn.body=none:=by intro hh;simp [hh] at h
  simp [callFunc,hfn,h.2,hb]
 ·cases h
theorem FL (l:List Field) (h:l.all (λf=>(P.info? f.type).isSome)=true) (w:World):
  (l.mapM (λf=>do pure (f.offset,<-sizeOf f.type):Field->Sem (Nat×Nat))).run P w= .ok (l.map λf=>(f.offset,P.cellsOf f.type)) w:=by
 induction l with
 |nil=>rfl
 |cons f l ih=>
  simp only [List.all_cons,Bool.and_eq_true] at h;obtain ⟨i,hi⟩:=Option.isSome_iff_exists.1 h.1;have:(sizeOf f.type).run P w= .ok (P.cellsOf f.type) w:=by simp [sizeOf,typeInfo,hi,Program.cellsOf]
  simp only [List.mapM_cons,Sem.run_bind,this,Result.andThen_ok,Sem.run_pure,ih h.2,List.map_cons]
def PO.Sq (P:Program) (F:PF P) (p:PO) (vs:List Value) (s:Sem Next) (w:World):Prop:=
 s.run P w= .ok (.value (p.val F vs)) w\/∃f∈F.ids,p= .cal f/\s.run P w= .ok (.enter f vs.toArray) w
theorem PO.sound {o:Oper} {p:PO} {xs:List Operand} (h:PO.of P F o.op=some (p,xs)) (a:Act) (hok:p.ok F (xs.map a.eval)) (w:World):
  p.Sq P F (xs.map a.eval) (execOp a.eval o) w:=by
 obtain ⟨dst,op,ty,pos,after,guard⟩:=o;cases op<;>simp only [PO.of] at h<;>(try (cases h;done))
 case binOp op t x y yt=>
  left;simp only [execOp];split at h
  ·cases h
   simp only [List.map_cons,List.map_nil] at hok⊢;generalize a.eval x=u at*;generalize a.eval y=v at*;cases u<;>cases v<;>simp only [PO.ok] at hok<;>(try (exfalso;exact hok))
   ·rw [Sem.run_bind,Gs F op t x y _ _ _ _ w hok];rfl
   ·rw [Sem.run_bind,Gu F op t x y _ _ w hok];rfl
  ·cases h
   simp only [List.map_cons,List.map_nil] at hok⊢;generalize a.eval x=u at*;generalize a.eval y=v at*;cases u<;>cases v<;>simp only [PO.ok] at hok<;>(try (exfalso;exact hok))
   ·rw [Sem.run_bind,Gs F op t x y _ _ _ _ w hok];rfl
   ·rw [Sem.run_bind,Gu F op t x y _ _ w hok];rfl
  ·rename_i hT
   cases op<;>simp only at h<;>cases h
   all_goals
    simp only [List.map_cons,List.map_nil] at hok⊢;generalize a.eval x=u at*;generalize a.eval y=v at*;cases u<;>cases v<;>simp only [PO.ok] at hok<;>(try (exfalso;exact hok))
   ·rename_i c b
    have:=BM false t x y c b w hT;simp only [Bool.false_eq_true,if_false] at this;rw [Sem.run_bind,this];rfl
   ·rename_i c b
    have:=BM true t x y c b w hT;simp only [if_true] at this;rw [Sem.run_bind,this];rfl
  ·rename_i d _ _ _ hT
   split at h
   ·cases h
    rename_i v;have hv:a.eval (.const v)=v:=rfl;simp only [List.map_cons,List.map_nil,PO.ok,hv] at hok⊢;have:=Gt false t x (.const v) d (a.eval x) v w hT hok;simp only [Bool.false_eq_true,if_false] at this;rw [Sem.run_bind,this];rfl
   ·cases h
    rename_i v;have hv:a.eval (.const v)=v:=rfl;simp only [List.map_cons,List.map_nil,PO.ok,hv] at hok⊢;have:=Gt true t x (.const v) d (a.eval x) v w hT hok;simp only [if_true] at this;rw [Sem.run_bind,this];rfl
   ·cases h
  ·cases h
 case unOp op t x=>
  left;cases op<;>simp only at h<;>cases h<;>simp only [List.map_cons,List.map_nil] at hok⊢<;>generalize ha:a.eval x=u at*<;>cases u<;>simp only [PO.ok] at hok<;>(try (exfalso;exact hok))<;>
   simp [execOp,ha,Op.unary,Op.intArith,PO.val]
 case convert sT dT x=>
  left;split at h<;>cases h<;>rename_i h1 h2<;>simp only [List.map_cons,List.map_nil] at hok⊢<;>generalize ha:a.eval x=u at*
  ·cases u<;>simp only [PO.ok] at hok<;>(try (exfalso;exact hok))
   simp [execOp,ha,convert,bp h1,bp h2,Conv.intToInt,PO.val]
  ·cases u<;>simp only [PO.ok] at hok<;>(try (exfalso;exact hok))
   simp [execOp,ha,convert,bp h1,bp h2,PO.val]
 case nilCheck x=>
  left;cases h;simp only [List.map_cons,List.map_nil] at hok⊢;generalize ha:a.eval x=u at*;cases u<;>simp only [PO.ok] at hok<;>(try (exfalso;exact hok));rename_i b;cases b
  ·simp at hok
  ·simp [execOp,ha,PO.val]
 case field t x i=>
  left;split at h
  ·rename_i fs hT
   split at h
   ·rename_i f hf
    split at h
    ·rename_i d hd
     simp only [Option.map_eq_some_iff] at h;obtain ⟨n,hn,h⟩:=h;cases h;simp only [List.map_cons,List.map_nil] at hok⊢;generalize ha:a.eval x=u at*;cases u<;>simp only [PO.ok] at hok<;>(try (exfalso;exact hok));rename_i cs;have:=Df hd hn cs w (off:=f.offset) (by cases hh:gP d<;>simp [hh] at hok⊢;exact hok);simp [execOp,ha,Instr.field,bp hT,hf,asAgg,this,PO.val]
    ·cases h
   ·cases h
  ·cases h
 case extract x i=>
  left;cases h;simp only [List.map_cons,List.map_nil] at hok⊢;generalize ha:a.eval x=u at*;cases u<;>simp only [PO.ok] at hok<;>(try (exfalso;exact hok));simp [execOp,ha,Instr.extract,PO.val,hok]
 case fieldAddr t x i=>
  left;split at h
  ·rename_i fs hT
   split at h
   ·rename_i f hf
    split at h
    ·rename_i n hn
     cases h;simp only [List.map_cons,List.map_nil] at hok⊢;generalize ha:a.eval x=u at*;cases u<;>simp only [PO.ok] at hok<;>(try (exfalso;exact hok));rename_i b;cases b
     ·simp at hok
     ·simp [execOp,ha,Instr.fieldAt,bp hT,hf,Instr.sureAddr,fieldPlace,fN hn,PO.val]
    ·cases h
   ·cases h
  ·cases h
 case indexAddr t x i=>
  left;split at h
  ·rename_i e hT
   simp only [Option.map_eq_some_iff] at h;obtain ⟨n,hn,h⟩:=h;cases h;simp only [List.map_cons,List.map_nil] at hok⊢;generalize ha:a.eval x=u at*;generalize hb:a.eval i=v at*;cases u<;>cases v<;>simp only [PO.ok] at hok<;>(try (exfalso;exact hok));rename_i b _ _ _ _;cases b
   ·simp at hok
   ·simp [execOp,ha,hb,Instr.indexAt,bp hT,asIntOf,hok,fN hn,PO.val]
  ·rename_i m e hT
   simp only [Option.map_eq_some_iff] at h;obtain ⟨n,hn,h⟩:=h;cases h;simp only [List.map_cons,List.map_nil] at hok⊢;generalize ha:a.eval x=u at*;generalize hb:a.eval i=v at*;cases u<;>cases v<;>simp only [PO.ok] at hok<;>(try (exfalso;exact hok));rename_i b _ _;cases b
   ·simp at hok
   ·simp [execOp,ha,hb,Instr.indexAt,bp hT,asIntOf,hok,fN hn,PO.val,Instr.sureAddr]
  ·cases h
 case index t x i=>
  left;split at h
  ·rename_i hT
   cases h;simp only [List.map_cons,List.map_nil] at hok⊢;generalize ha:a.eval x=u at*;generalize hb:a.eval i=v at*;cases u<;>cases v<;>simp only [PO.ok] at hok<;>(try (exfalso;exact hok));rename_i s k n;have hlt:n.toNat<s.size:=by
    have:=hok.2;have e:s.data.toList.length=s.size:=by rw [Array.length_toList];rfl
    rw [e] at this;omega
   have hg:s[n.toNat]? =some s[n.toNat]:=getElem?_pos s n.toNat hlt;have hv:s.data.toList[n.toNat]? =some s[n.toNat]:=by rw [List.getElem?_eq_getElem (by rw [Array.length_toList];exact hlt)];rfl
   simp [execOp,ha,hb,Instr.index,bp hT,asIntOf,hok.1,hg,PO.val,zc,hv]
  ·rename_i m e hT
   split at h
   ·rename_i d hd
    simp only [Option.map_eq_some_iff] at h;obtain ⟨n,hn,h⟩:=h;cases h;simp only [List.map_cons,List.map_nil] at hok⊢;generalize ha:a.eval x=u at*;generalize hb:a.eval i=v at*;cases u<;>cases v<;>simp only [PO.ok] at hok<;>(try (exfalso;exact hok));rename_i cs k j;have:=Df hd hn cs w (off:=j.toNat*n) hok.2.2;simp [execOp,ha,hb,Instr.index,bp hT,asIntOf,hok.1,hok.2.1,fN hn,this,PO.val]
   ·cases h
  ·cases h
 case slice t x lo hi mx=>
  left;split at h
  ·rename_i hT
   split at h
   ·rename_i hm
    cases h;cases mx
    case some m=>simp at hm
    simp only [List.map_cons,List.map_append] at hok⊢;generalize ha:a.eval x=u at*;cases u<;>simp only [PO.ok] at hok<;>(try (exfalso;exact hok));rename_i s;have:=oC (P:=P) false s.size s.size (lo.map a.eval) (hi.map a.eval) none w (by cases lo<;>cases hi<;>simpa using hok);simp [execOp,ha,Instr.sliceAt,Instr.slice,bp hT,this,PO.val,extract_toList];cases lo<;>cases hi<;>rfl
   ·cases h
  ·rename_i e hT
   simp only [Option.map_eq_some_iff] at h;obtain ⟨n,hn,h⟩:=h;cases h;simp only [List.map_cons,List.map_append] at hok⊢;generalize ha:a.eval x=u at*;cases u<;>simp only [PO.ok] at hok<;>(try (exfalso;exact hok));rename_i s len cap;have:=oC (P:=P) true len cap (lo.map a.eval) (hi.map a.eval) (mx.map a.eval) w (by cases lo<;>cases hi<;>cases mx<;>simpa using hok);simp [execOp,ha,Instr.sliceAt,Instr.slice,bp hT,this,PO.val,fN hn];cases lo<;>cases hi<;>cases mx<;>(try simp)<;>(try rfl)<;>(try (split<;>rfl))
  ·rename_i m e hT
   simp only [Option.map_eq_some_iff] at h;obtain ⟨n,hn,h⟩:=h;cases h;simp only [List.map_cons,List.map_append] at hok⊢;generalize ha:a.eval x=u at*;cases u<;>simp only [PO.ok] at hok<;>(try (exfalso;exact hok));rename_i b;cases b
   ·simp at hok
   have:=oC (P:=P) false m m (lo.map a.eval) (hi.map a.eval) (mx.map a.eval) w (by cases lo<;>cases hi<;>cases mx<;>simpa using hok);simp [execOp,ha,Instr.sliceAt,bp hT,this,PO.val,fN hn,Instr.sureAddr];cases lo<;>cases hi<;>cases mx<;>(try simp)<;>(try rfl)<;>(try (split<;>rfl))
  ·cases h
 case makeFunc fn first captured=>
  left;cases h;have e1:first.map a.eval=(first.toList.map a.eval).toArray:=by apply Array.ext';simp
  have e2:captured.map a.eval=(captured.toList.map a.eval).toArray:=by apply Array.ext';simp
  simp [execOp,Instr.makeFunc,PO.val,e1,e2]
 case makeInterface t x=>
  left;split at h
  ·cases h
  ·rename_i d hd hT
   cases h;simp only [List.map_cons,List.map_nil] at hok⊢;have:(Instr.makeInterface t (a.eval x)).run P w= .ok (.iface t (a.eval x)) w:=by simp only [Instr.makeInterface,Sem.run_bind,bp hT,Result.andThen_ok];cases d<;>first|rfl|exact absurd rfl (hd _)
   simp [execOp,this,PO.val]
  ·cases h
 case build t parts=>
  left;split at h
  ·rename_i fs i hT hi
   split at h
   ·rename_i z hz
    split at h
    ·rename_i hall
     cases h;have hm:(fs.mapM (λf=>do pure (f.offset,<-sizeOf f.type):Field->Sem (Nat×Nat))).run P w= .ok (fs.toList.map λf=>(f.offset,P.cellsOf f.type)).toArray w:=by rw [<-Array.toArray_toList (xs:=fs),List.mapM_toArray];simp only [Sem.run_map,FL _ hall,Result.andThen_ok]
     have hzip:(parts.map λ(i,x)=>(i,a.eval x)).toList=(parts.toList.map (·.1)).zip ((parts.toList.map (·.2)).map a.eval):=by
      rw [Array.toList_map]
      induction parts.toList with
      |nil=>rfl
      |cons q l ih=>simp [ih]
     have hzv:(zeroValue t).run P w= .ok z w:=by simp [zeroValue,typeInfo,hi,hz]
     simp only [PO.ok] at hok;obtain ⟨cells,hc⟩:=Option.isSome_iff_exists.1 hok;simp only [execOp,Instr.build,Sem.run_bind,hzv,Result.andThen_ok,bp hT,hm,hzip,List.getElem?_toArray,hc,Sem.run_pure,PO.val]
    ·cases h
   ·cases h
  ·cases h
 case call c=>
  obtain ⟨callee,cargs,ats⟩:=c;simp only at h;split at h
  ·rename_i hc
   left;split at h
   ·rename_i t x h1 h2
    obtain ⟨cargs⟩:=cargs;obtain ⟨ats⟩:=ats;simp only at h1 h2;subst h1;subst h2;split at h<;>cases h<;>rename_i hT<;>simp only [List.map_cons,List.map_nil] at hok⊢<;>generalize ha:a.eval x=u at*
    ·cases u<;>simp only [PO.ok] at hok<;>(try (exfalso;exact hok))
     simp [execOp,resolve,invoke,builtin,Builtin.len_,ha,bp hT,PO.val,goInt]
    ·cases u<;>simp only [PO.ok] at hok<;>(try (exfalso;exact hok))
     simp [execOp,resolve,invoke,builtin,Builtin.len_,ha,bp hT,PO.val,goInt]
    ·simp [execOp,resolve,invoke,builtin,Builtin.len_,ha,bp hT,PO.val,goInt]
   ·cases h
  ·rename_i hc
   left;split at h
   ·rename_i t x h1 h2
    obtain ⟨cargs⟩:=cargs;obtain ⟨ats⟩:=ats;simp only at h1 h2;subst h1;subst h2;split at h<;>cases h<;>rename_i hT<;>simp only [List.map_cons,List.map_nil] at hok⊢<;>generalize ha:a.eval x=u at*;cases u<;>simp only [PO.ok] at hok<;>(try (exfalso;exact hok));simp [execOp,resolve,invoke,builtin,Builtin.cap_,ha,bp hT,PO.val,goInt]
   ·cases h
  ·rename_i f
   right;split at h
   ·rename_i hf
    cases h;simp only [Bool.and_eq_true] at hf;refine ⟨f,by simpa using hf.1,rfl,?_⟩;have e:a.eval (.func f)= .func (.func f) #[] #[]:=rfl;have:=dw hf.2 (cargs.map a.eval) w;have e1:cargs.map a.eval=(cargs.toList.map a.eval).toArray:=by apply Array.ext';simp
    simp [execOp,resolve,invoke,Deferred.ofValue,e];rw [e1] at this⊢;exact this
   ·cases h
  ·cases h
mutual
inductive SE where
 |inp (i:Nat)
 |bv (n:Nat)
 |cst (v:Value)
 |op (p:PO) (xs:dt)
 |ite (c:SE) (want:Bool) (a b:SE)
inductive dt where
 |nil
 |cons (x:SE) (xs:dt)
end
def ov (v:Value) (b:Bool):Bool:=
 match v with
 | .bool c=>c==b
 |_=>false
section
variable {P:Program} (F:PF P)
mutual
def SE.val (env bvs:List Value):SE->Value
 | .inp i=>env.getD i undef
 | .bv n=>bvs.getD n undef
 | .cst v=>v
 | .op p xs=>p.val F (dt.dF env bvs xs)
 | .ite c want a b=>if ov (SE.val env bvs c) want then SE.val env bvs a else SE.val env bvs b
def dt.dF (env bvs:List Value):dt->List Value
 | .nil=> []
 | .cons x xs=>SE.val env bvs x::dt.dF env bvs xs
end
mutual
def SE.lt (n:Nat):SE->Bool
 | .inp _=>true
 | .bv m=>decide (m<n)
 | .cst _=>true
 | .op _ xs=>dt.lt n xs
 | .ite c _ a b=>SE.lt n c&&SE.lt n a&&SE.lt n b
def dt.lt (n:Nat):dt->Bool
 | .nil=>true
 | .cons x xs=>SE.lt n x&&dt.lt n xs
end
mutual
theorem SE.nZ (env bvs:List Value) (v:Value):∀e:SE,SE.lt bvs.length e=true->SE.val F env (bvs++ [v]) e=SE.val F env bvs e
 | .inp _,_=>rfl
 | .bv m,h=>by simp only [SE.lt,decide_eq_true_eq] at h;simp only [SE.val,List.getD_eq_getElem?_getD,List.getElem?_append_left h]
 | .cst _,_=>rfl
 | .op p xs,h=>by simp only [SE.val,dt.DZ env bvs v xs h]
 | .ite c w a b,h=>by simp only [SE.lt,Bool.and_eq_true] at h;simp only [SE.val,SE.nZ env bvs v c h.1.1,SE.nZ env bvs v a h.1.2,SE.nZ env bvs v b h.2]
theorem dt.DZ (env bvs:List Value) (v:Value):∀e:dt,dt.lt bvs.length e=true->dt.dF F env (bvs++ [v]) e=dt.dF F env bvs e
 | .nil,_=>rfl
 | .cons x xs,h=>by simp only [dt.lt,Bool.and_eq_true] at h;simp only [dt.dF,SE.nZ env bvs v x h.1,dt.DZ env bvs v xs h.2]
end
end
def PO.alike:PO->PO->Bool
 | .bin a,.bin b=>a==b
 | .eqB a,.eqB b=>a==b
 | .un a,.un b=>a==b
 | .convI a,.convI b=>decide (a=b)
 | .same,.same=>true
 | .chkp,.chkp=>true
 | .lenS,.lenS=>true
 | .lenL,.lenL=>true
 | .lenC a,.lenC b=>a==b
 | .capL,.capL=>true
 | .part a b c,.part a' b' c'=>a==a'&&b==b'&&c==c'
 | .ext a,.ext b=>a==b
 | .fld a,.fld b=>a==b
 | .idxL a,.idxL b=>a==b
 | .chS,.chS=>true
 | .cal a,.cal b=>a==b
 |_,_=>false
theorem PO.Ke:∀{p q:PO},PO.alike p q=true->p=q:=by intro p q h;cases p<;>cases q<;>simp [PO.alike] at h<;>simp [h]
def zk:Value->Value->Bool
 | .bool a,.bool b=>a==b
 | .int k a,.int k' b=>decide (k=k')&&a==b
 | .string a,.string b=>a.data.toList==b.data.toList
 | .pointer none,.pointer none=>true
 |_,_=>false
theorem ER {u v:Value} (h:zk u v=true):u=v:=by
 unfold zk at h;split at h
 ·simp at h;simp [h]
 ·simp at h;simp [h]
 ·rename_i a b
  have:a.data=b.data:=Array.ext' (by simpa using h);cases a;cases b;simp_all
 ·rfl
 ·cases h
mutual
def SE.same:SE->SE->Bool
 | .inp a,.inp b=>a==b
 | .bv a,.bv b=>a==b
 | .cst a,.cst b=>zk a b
 | .op p xs,.op q ys=>PO.alike p q&&dt.same xs ys
 | .ite c w a b,.ite c' w' a' b'=>SE.same c c'&&w==w'&&SE.same a a'&&SE.same b b'
 |_,_=>false
def dt.same:dt->dt->Bool
 | .nil,.nil=>true
 | .cons x xs,.cons y ys=>SE.same x y&&dt.same xs ys
 |_,_=>false
end
mutual
theorem SE.im:∀{a b:SE},SE.same a b=true->a=b
 | .inp a,.inp b,h=>by simp [SE.same] at h;simp [h]
 | .bv a,.bv b,h=>by simp [SE.same] at h;simp [h]
 | .cst a,.cst b,h=>by simp [SE.same] at h;simp [ER h]
 | .op p xs,.op q ys,h=>by simp [SE.same] at h;rw [PO.Ke h.1,dt.im h.2]
 | .ite c w a b,.ite c' w' a' b',h=>by simp [SE.same] at h;rw [SE.im h.1.1.1,h.1.1.2,SE.im h.1.2,SE.im h.2]
theorem dt.im:∀{a b:dt},dt.same a b=true->a=b
 | .nil,.nil,_=>rfl
 | .cons x xs,.cons y ys,h=>by simp [dt.same] at h;rw [SE.im h.1,dt.im h.2]
end
abbrev fU:=List (SE×Bool×Bool)
def jd (bl:Bool):fU->SE->Bool->Option Bool
 |_,.cst v,w=>some (ov v w)
 | [],_,_=>none
 |(c,w',p)::r,e,w=>if SE.same c e then (if w'==w then some p else if p then some false else if bl then some true else jd bl r e w) else jd bl r e w
def res (kn:fU):SE->SE
 | .ite c w a b=>match jd false kn c w with
  |some v=>if v then res kn a else res kn b
  |none=> .ite c w a b
 |e=>e
def strip (c:SE) (w:Bool) (pos:Bool):SE->SE
 | .ite c' w' x y=>if SE.same c c'&&w==w' then (if pos then x else y) else .ite c' w' x y
 |e=>e
def Bb (c:SE) (w:Bool):dt->dt
 | .nil=> .nil
 | .cons x xs=> .cons (strip c w true x) (Bb c w xs)
def Ba (c:SE) (w:Bool) (pos:Bool):SE->SE
 | .ite c' w' x y=>if SE.same c c' then (if (w==w')==pos then x else y) else .ite c' w' x y
 |e=>e
def mkIte (kn:fU) (c:SE) (w:Bool) (a b:SE):SE:=
 match jd false kn c w with
 |some v=>if v then a else b
 |none=> .ite c w (strip c w true a) (strip c w false b)
def Fx (kn:fU) (c a b:SE):SE:=
 match jd true kn c true with
 |some v=>if v then a else b
 |none=> .ite c true (Ba c true true a) (Ba c true false b)
section
variable {P:Program} (F:PF P) (env bvs:List Value)
def Holds (kn:fU):Prop:=∀q∈kn,ov (SE.val F env bvs q.1) q.2.1=q.2.2
theorem fc (v w:Bool):ov (.bool v) w=(v==w):=rfl
theorem Lk {v:Value} {w:Bool} (h:ov v w=true):v= .bool w:=by
 unfold ov at h;split at h
 ·simp at h;rw [h]
 ·cases h
theorem j2 (bl:Bool) {c:SE} {w v:Bool} (hb:bl=true->∃b,SE.val F env bvs c= .bool b):∀{kn:fU},Holds F env bvs kn->jd bl kn c w=some v->ov (SE.val F env bvs c) w=v:=by
 intro kn hk h
 induction kn with
 |nil=>
  unfold jd at h;split at h
  ·simp only [Option.some.injEq] at h;subst h;rfl
  ·cases h
  ·contradiction
 |cons q r ih=>
  replace ih:=ih (λq hq=>hk q (by simp [hq]));unfold jd at h;split at h
  ·simp only [Option.some.injEq] at h;subst h;rfl
  ·contradiction
  ·rename_i c' w' p' r' heq _
   simp only [List.cons.injEq] at heq;obtain ⟨rfl,rfl⟩:=heq;have hq:ov (SE.val F env bvs c') w'=p':=hk (c',w',p') (by simp);split at h
   ·rename_i hs
    have hs:=SE.im hs;subst hs;split at h
    ·rename_i hw
     simp only [beq_iff_eq] at hw;subst hw;simp only [Option.some.injEq] at h;rw [<-h];exact hq
    ·rename_i hw
     simp only [beq_iff_eq] at hw;split at h
     ·rename_i hp
      subst hp;simp only [Option.some.injEq] at h;subst h;rw [Lk hq,fc]
      simpa using hw
     ·rename_i hp
      split at h
      ·rename_i hbl
       obtain ⟨b,hb⟩:=hb hbl;simp only [Option.some.injEq] at h;subst h;rw [hb,fc] at hq⊢;clear ih hk;cases b<;>cases w'<;>cases p'<;>simp_all
      ·exact ih h
   ·exact ih h
theorem AZ {kn:fU} (hk:Holds F env bvs kn):∀e:SE,SE.val F env bvs (res kn e)=SE.val F env bvs e
 | .inp _| .bv _| .cst _| .op _ _=>rfl
 | .ite c w a b=>by
  unfold res;split
  ·rename_i v hv
   have:=j2 F env bvs false (by simp) hk hv;simp only [SE.val,this];split<;>exact AZ hk _
  ·rfl
theorem nW (c:SE) (w pos:Bool) (e:SE) (h:ov (SE.val F env bvs c) w=pos):SE.val F env bvs (strip c w pos e)=SE.val F env bvs e:=by
 unfold strip;split
 ·rename_i c' w' x y
  split
  ·rename_i hs
   simp only [Bool.and_eq_true,beq_iff_eq] at hs;obtain ⟨hs,rfl⟩:=hs;have:=SE.im hs;subst this;subst h;cases hh:ov (SE.val F env bvs c) w<;>simp [SE.val,hh]
  ·rfl
 ·rfl
theorem wx (c:SE) (w:Bool) (h:ov (SE.val F env bvs c) w=true):∀xs:dt,dt.dF F env bvs (Bb c w xs)=dt.dF F env bvs xs
 | .nil=>rfl
 | .cons x xs=>by simp only [Bb,dt.dF,nW F env bvs c w true x h,wx c w h xs]
theorem wu (c:SE) (w pos:Bool) (e:SE) (v:Bool) (hc:SE.val F env bvs c= .bool v) (h:(v==w)=pos):SE.val F env bvs (Ba c w pos e)=SE.val F env bvs e:=by
 unfold Ba;split
 ·rename_i c' w' x y
  split
  ·rename_i hs
   have:=SE.im hs;subst this;subst h;simp only [SE.val,hc,fc];cases v<;>cases w<;>cases w'<;>rfl
  ·rfl
 ·rfl
theorem Jh {kn:fU} (hk:Holds F env bvs kn) (c:SE) (w:Bool) (a b:SE):
  SE.val F env bvs (mkIte kn c w a b)=if ov (SE.val F env bvs c) w then SE.val F env bvs a else SE.val F env bvs b:=by
 unfold mkIte;split
 ·rename_i v hv
  rw [j2 F env bvs false (by simp) hk hv];split<;>rfl
 ·cases hh:ov (SE.val F env bvs c) w
  ·simp only [SE.val,hh,Bool.false_eq_true,if_false]
   exact nW F env bvs c w false b hh
  ·simp only [SE.val,hh,if_true]
   exact nW F env bvs c w true a hh
theorem Fy {kn:fU} (hk:Holds F env bvs kn) (c a b:SE) (v:Bool) (hc:SE.val F env bvs c= .bool v):
  SE.val F env bvs (Fx kn c a b)=if v then SE.val F env bvs a else SE.val F env bvs b:=by
 unfold Fx;split
 ·rename_i v' hv
  have:=j2 F env bvs true (λ_=>⟨v,hc⟩) hk hv;rw [hc,fc] at this;simp at this;subst this;split<;>rfl
 ·simp only [SE.val,hc,fc]
  cases v
  ·exact wu F env bvs c true false b false hc rfl
  ·exact wu F env bvs c true true a true hc rfl
end
def rl (xs:List (Nat×Value)):Array Value:=(xs.flatMap λp=>List.replicate p.1 p.2).toArray
inductive EO where
 |call (f:FuncId)
 |cext (f:FuncId)
 |rngS (t:TypeId)
 |b2s (s d:TypeId)
 |callv
 |inv (m:String)
 |bi (b:Builtin) (ats:Array TypeId) (ty:TypeId) (cs:Array Bool)
 |app (t ty e size bytes:Nat) (z:Value)
 |ld (agg:Bool) (n:Nat)
 |st (n:Nat)
 |new (t:TypeId) (v:Value)
 |box (t:TypeId)
 |bsl (e len size:Nat) (zero:Array Value) (ix:List Nat)
 |bld (t:TypeId) (ix:List Nat)
 |mks (t e size bytes:Nat) (z:Value)
 |mkm (t:TypeId) (res:Bool)
 |look (t:TypeId) (ok:Bool)
 |lW (t:TypeId)
 |rng (t:TypeId)
 |nxt (isS:Bool) (ty:TypeId)
 |cnv (s d:TypeId)
 |bin (op:BinOp) (t:TypeId) (x y:Operand)
 |una (op:UnOp)
 |tas (xt t:TypeId) (ok:Bool)
 |idx (t:TypeId)
 |an
def dB (s:Sem Value):Sem Next:=do pure (.value (<-s))
def DX (s:Sem Unit):Sem Next:=do s;pure .skip
def tK (agg:Bool) (n:Nat) (v:Value):Sem Value:=do
 let a<-Instr.sureAddr v
 if agg then (do pure (.agg (<-loadCells a n))) else load a
def stS (n:Nat) (p v:Value):Sem Unit:=do
 let a<-Instr.sureAddr p
 if v.cells.size≠n then stuck "storeVar: the value has not the size of the variable" else storeCells a v.cells.toList
def Nw (e len size:Nat) (zero:Array Value) (parts:List (Nat×Value)):Sem Value:=
 match Instr.fill (λi=>some (i*size,size)) ((Array.range (len*size)).map (zero[· %zero.size]!)) parts with
 |some cells=>do pure (.slice (some (<-newRow e cells)) len len)
 |none=>stuck "buildSlice: a part of the wrong size"
def EO.mg:EO->List Value->Sem Next
 | .call f,vs=>callFunc f vs.toArray
 | .cext f,vs=>callFunc f vs.toArray
 | .rngS t,[x]=>dB (match x with
  | .string s=>do pure (.pointer (some ⟨<-newObj (.stringIter s 0),0,none⟩))
  |x=>Instr.range t x)
 | .b2s s d,[x]=>dB (match x with
  | .slice a l c=>Conv.bytesToString (.slice a l c)
  |x=>convert s d x)
 | .callv,f::vs=>do let d<-Deferred.ofValue f vs.toArray;invoke d.target d.args
 | .inv m,r::vs=>invoke (.fn (.method m) #[]) (#[r]++vs.toArray)
 | .bi b ats ty cs,vs=>builtin b ats ty cs vs.toArray
 | .app t ty _ _ _ _,[s,x]=>dB (Builtin.append_ #[t,t] ty #[s,x])
 | .ld agg n,[v]=>dB (tK agg n v)
 | .st n,[p,v]=>DX (stS n p v)
 | .new t v,[]=>dB (do pure (.pointer (some (<-newVar t v))))
 | .box t,[v]=>dB (Instr.box t v)
 | .bsl e len size zero ix,vs=>dB (Nw e len size zero (ix.zip vs))
 | .bld t ix,vs=>dB (Instr.build t (ix.zip vs).toArray)
 | .mks t _ _ _ _,[l,c]=>dB (Instr.makeSlice t l c)
 | .mkm t true,[r]=>dB (Instr.makeMap t (some r))
 | .mkm t false,[]=>dB (Instr.makeMap t none)
 | .look t ok,[m,k]=>dB (Instr.lookup t m k ok)
 | .lW t,[m,k,v]=>DX (Instr.mapUpdate t m k v)
 | .rng t,[x]=>dB (Instr.range t x)
 | .nxt isS ty,[it]=>dB (Instr.next it isS ty)
 | .cnv s d,[x]=>dB (convert s d x)
 | .bin op t xo yo,[x,y]=>dB (do eqGuard op t xo yo x y;binOp op t x y)
 | .una op,[x]=>dB (Op.unary op x)
 | .tas xt t ok,[x]=>dB (Instr.typeAssert x xt t ok)
 | .idx t,[x,i]=>dB (Instr.index t x i)
 | .an,[it]=>dB (Instr.entry it)
 |_,_=>stuck ""
def EO.info (P:Program):EO->Prop
 | .app t _ e size bytes z=>P.underlying t=some (.slice e)/\∃i,P.info? e=some i/\i.zero=some z/\i.size=size/\i.bytes=bytes
 | .mks t e size bytes z=>P.underlying t=some (.slice e)/\∃i,P.info? e=some i/\i.zero=some z/\i.size=size/\i.bytes=bytes
 | .call f=>bT P f=true
 |_=>True
def EO.of (P:Program) (o:Oper):Option (EO×List Operand):=
 match o.op with
 | .call ⟨.value (.func f),args,_⟩=>some (if bT P f then .call f else .cext f,args.toList)
 | .call ⟨.value f,args,_⟩=>some (.callv,f::args.toList)
 | .call ⟨.invoke r m,args,_⟩=>some (.inv m,r::args.toList)
 | .call ⟨.builtin b,args,ats⟩=>
  let plain:Option (EO×List Operand):=some (.bi b ats o.type (args.map fun| .const _=>true|_=>false),args.toList)
  match b,args.toList,ats.toList with
  | .append,[s,x],[t,t']=>
   if t=t' then match P.underlying t with
    |some (.slice e)=>match P.info? e with
     |some i=>match i.zero with
      |some z=>some (.app t o.type e i.size i.bytes z,[s,x])
      |none=>plain
     |none=>plain
    |_=>plain
   else plain
  |_,_,_=>plain
 | .load t a=>match P.underlying t with
  |some d=>(sz P t).map λn=>(.ld (gP d) n,[a])
  |none=>none
 | .store t a v=>(sz P t).map λn=>(.st n,[a,v])
 | .alloc t=>match P.info? t with
  |some i=>match i.zero with
   |some z=>some (.new t z,[])
   |none=>none
  |none=>none
 | .box t v=>some (.box t,[v])
 | .buildSlice t len parts=>match P.underlying t with
  |some (.slice e)=>match P.info? e with
   |some i=>match i.zero with
    |some z=>if len*i.size<=16777216 then some (.bsl e len i.size (if len*i.size=0 then #[] else z.cells) (parts.toList.map (·.1)),parts.toList.map (·.2)) else none
    |none=>none
   |none=>none
  |_=>none
 | .build t parts=>some (.bld t (parts.toList.map (·.1)),parts.toList.map (·.2))
 | .makeSlice t l c=>match P.underlying t with
  |some (.slice e)=>match P.info? e with
   |some i=>match i.zero with
    |some z=>some (.mks t e i.size i.bytes z,[l,c])
    |none=>none
   |none=>none
  |_=>none
 | .makeMap t none=>some (.mkm t false,[])
 | .makeMap t (some r)=>some (.mkm t true,[r])
 | .lookup t m k ok=>some (.look t ok,[m,k])
 | .mapUpdate t m k v=>some (.lW t,[m,k,v])
 | .insert t m k v=>some (.lW t,[m,k,v])
 | .range t x=>match P.underlying t with
  |some .string=>some (.rngS t,[x])
  |_=>some (.rng t,[x])
 | .next it isS=>some (.nxt isS o.type,[it])
 | .entry it=>some (.an,[it])
 | .convert s d x=>
  match P.underlying s,P.underlying d with
  |some (.slice e),some .string=>match P.underlying e with
   |some (.int .u8)=>some (.b2s s d,[x])
   |_=>some (.cnv s d,[x])
  |_,_=>some (.cnv s d,[x])
 | .binOp op t x y _=>some (.bin op t x y,[x,y])
 | .unOp op _ x=>some (.una op,[x])
 | .typeAssert x xt t ok=>some (.tas xt t ok,[x])
 | .index t x i=>some (.idx t,[x,i])
 |_=>none
variable {P:Program}
theorem gQ {α β:Type} (xs:Array α) (f:α->β):xs.map f=(xs.toList.map f).toArray:=by apply Array.ext';simp
theorem ic (parts:Array (Nat×Operand)) (f:Operand->Value):(parts.map λ(i,x)=>(i,f x))=((parts.toList.map (·.1)).zip ((parts.toList.map (·.2)).map f)).toArray:=by
 apply Array.ext';rw [Array.toList_map]
 induction parts.toList with
 |nil=>rfl
 |cons q l ih=>simpa using ih
theorem EO.sound {o:Oper} {eo:EO} {xs:List Operand} (h:EO.of P o=some (eo,xs)) (a:Act) (w:World):
  (execOp a.eval o).run P w=(eo.mg (xs.map a.eval)).run P w:=by
 obtain ⟨dst,op,ty,pos,after,guard⟩:=o;cases op<;>simp only [EO.of] at h<;>(try (cases h;done))
 case call c=>
  obtain ⟨callee,args,ats⟩:=c;cases callee with
  |value f=>
   cases f with
   |func f=>
    simp only at h;cases h;have e1:(EO.mg (if bT P f=true then EO.call f else EO.cext f) (args.toList.map a.eval))=callFunc f (args.toList.map a.eval).toArray:=by split<;>rfl
    rw [e1,<-gQ];simp only [execOp,resolve];simp [Deferred.ofValue,Act.eval,invoke]
   |tmp t=>simp only at h;cases h;simp only [EO.mg,execOp,resolve,<-gQ,List.map_cons]
   |const v=>simp only at h;cases h;simp only [EO.mg,execOp,resolve,<-gQ,List.map_cons]
   |global g=>simp only at h;cases h;simp only [EO.mg,execOp,resolve,<-gQ,List.map_cons]
  |invoke r m=>simp only at h;cases h;simp only [EO.mg,execOp,resolve,<-gQ,List.map_cons];rfl
  |builtin b=>
   simp only at h;have plain:∀{e:EO} {ys:List Operand},some (EO.bi b ats ty (args.map fun| .const _=>true|_=>false),args.toList)=some (e,ys)->
     (execOp a.eval ⟨dst,.call ⟨.builtin b,args,ats⟩,ty,pos,after,guard⟩).run P w=(e.mg (ys.map a.eval)).run P w:=by
    intro e ys hh;cases hh;simp only [EO.mg,execOp,resolve,<-gQ];rfl
   split at h
   ·rename_i s x t t' h1 h2
    split at h
    ·rename_i ht
     subst ht;split at h
     ·split at h
      ·split at h
       ·cases h
        obtain ⟨args⟩:=args;obtain ⟨ats⟩:=ats;simp only at h1 h2;subst h1;subst h2;simp [execOp,resolve,invoke,builtin,EO.mg,dB]
       ·exact plain h
      ·exact plain h
     ·exact plain h
    ·exact plain h
   ·exact plain h
 case load t x=>
  split at h
  ·rename_i d hd
   simp only [Option.map_eq_some_iff] at h;obtain ⟨n,hn,h⟩:=h;cases h;simp only [execOp,EO.mg,List.map_cons,List.map_nil,dB,Sem.run_bind]
   congr 1
   simp only [Instr.loadAt,loadVar,tK,Sem.run_bind,Sem.run_pure,qQ hd,Result.andThen_ok]
   congr 1
   funext b w1;cases gP d<;>simp [fN hn]
  ·cases h
 case store t x v=>
  simp only [Option.map_eq_some_iff] at h;obtain ⟨n,hn,h⟩:=h;cases h;simp only [execOp,EO.mg,List.map_cons,List.map_nil,DX,Sem.run_bind]
  congr 1
  simp only [Instr.storeAt,storeVar,stS,Sem.run_bind,Sem.run_pure,Result.andThen_ok,fN hn]
  congr 1
 case alloc t=>
  split at h
  ·rename_i i hi
   split at h
   ·rename_i z hz
    cases h;simp [execOp,EO.mg,dB,Instr.alloc,zeroValue,typeInfo,hi,hz]
   ·cases h
  ·cases h
 case buildSlice t len parts=>
  split at h
  ·rename_i e hT
   split at h
   ·rename_i i hi
    split at h
    ·rename_i z hz
     split at h
     ·rename_i hle
      cases h;have hn:sz P e=some i.size:=by simp [sz,hi]
      simp only [execOp,EO.mg,dB,Sem.run_bind]
      congr 1
      have h1:¬(len*i.size>2^24):=by omega
      by_cases h2:len*i.size=0
      ·simp only [Instr.buildSlice,Sem.run_bind,bp hT,Result.andThen_ok,fN hn,Sem.run_ite,if_neg h1,if_pos h2,Sem.run_pure,zeroValue,typeInfo,run_program,hi,hz,ic,Nw]
       generalize Instr.fill _ _ _=r;cases r<;>simp
      ·simp only [Instr.buildSlice,Sem.run_bind,bp hT,Result.andThen_ok,fN hn,Sem.run_ite,if_neg h1,if_neg h2,Sem.run_pure,zeroValue,typeInfo,run_program,hi,hz,ic,Nw]
       generalize Instr.fill _ _ _=r;cases r<;>simp
     ·cases h
    ·cases h
   ·cases h
  ·cases h
 case box t v=>cases h;rfl
 case build t parts=>cases h;simp only [execOp,EO.mg,ic];rfl
 case makeSlice t l c=>
  split at h
  ·split at h
   ·split at h
    ·cases h;rfl
    ·cases h
   ·cases h
  ·cases h
 case makeMap t r=>
  cases r<;>simp only at h<;>cases h<;>rfl
 case lookup t m k ok=>cases h;rfl
 case mapUpdate t m k v=>cases h;rfl
 case insert t m k v=>cases h;rfl
 case range t x=>
  split at h
  ·rename_i h1
   cases h;simp only [execOp,EO.mg,List.map_cons,List.map_nil,dB,Sem.run_bind]
   congr 1
   generalize a.eval x=u;cases u<;>(try rfl);simp [Instr.range,bp h1]
  ·cases h;rfl
 case next it isS=>cases h;rfl
 case entry it=>cases h;rfl
 case convert s d x=>
  split at h
  ·rename_i e h1 h2
   split at h
   ·rename_i h3
    cases h;simp only [execOp,EO.mg,List.map_cons,List.map_nil,dB,Sem.run_bind]
    congr 1
    generalize a.eval x=u;cases u<;>(try rfl);rename_i b l c;simp only [convert,Sem.run_bind,bp h1,bp h2,bp h3,Result.andThen_ok]
   ·cases h;rfl
  ·cases h;rfl
 case binOp op t x y yt=>cases h;rfl
 case unOp op t x=>cases h;rfl
 case typeAssert x xt t ok=>cases h;rfl
 case index t x i=>cases h;rfl
theorem EO.Of {o:Oper} {eo:EO} {xs:List Operand} (h:EO.of P o=some (eo,xs)):eo.info P:=by
 obtain ⟨dst,op,ty,pos,after,guard⟩:=o;cases op<;>simp only [EO.of] at h<;>(try (cases h;done))
 case call c=>
  obtain ⟨callee,args,ats⟩:=c;cases callee with
  |value f=>
   cases f with
   |func f=>
    simp only at h;cases h;split
    ·rename_i hb;exact hb
    ·trivial
   |_=>simp only at h;cases h;trivial
  |invoke r m=>simp only at h;cases h;trivial
  |builtin b=>
   simp only at h;split at h
   ·split at h
    ·split at h
     ·rename_i hT
      split at h
      ·rename_i i hi
       split at h
       ·rename_i z hz
        cases h;exact ⟨hT,i,hi,hz,rfl,rfl⟩
       ·cases h;trivial
      ·cases h;trivial
     ·cases h;trivial
    ·cases h;trivial
   ·cases h;trivial
 case makeSlice t l c=>
  split at h
  ·rename_i hT
   split at h
   ·rename_i i hi
    split at h
    ·rename_i z hz
     cases h;exact ⟨hT,i,hi,hz,rfl,rfl⟩
    ·cases h
   ·cases h
  ·cases h
 case load t x=>
  split at h
  ·simp only [Option.map_eq_some_iff] at h
   obtain ⟨n,hn,h⟩:=h;cases h;trivial
  ·cases h
 case store t x v=>
  simp only [Option.map_eq_some_iff] at h;obtain ⟨n,hn,h⟩:=h;cases h;trivial
 case makeMap t r=>cases r<;>simp only at h<;>cases h<;>trivial
 case convert s d x=>
  repeat' (split at h)
  all_goals (cases h;try trivial)
 case range t x=>
  repeat' (split at h)
  all_goals (cases h;try trivial)
 case alloc t=>
  repeat' (split at h)
  all_goals (cases h;try trivial)
 case buildSlice t len parts=>
  repeat' (split at h)
  all_goals (cases h;try trivial)
 all_goals (cases h;trivial)
end Go.HL
