/- A part of the evaluator over abstract values, and that it is right (RvB). Conditions: none. -/
import Derived.Test.YtddaogebacigbaaGreatDoorRvA
set_option linter.constructorNameAsVariable false
namespace Go.Proofs.YtddaogebacigbaaGreatDoor.RV

/-! ### The machine's own answer where nothing but literals is asked -/
def pureRun {α : Type} (P : Program) : Sem α → Option α
  | .pure a => some a
  | .program k => pureRun P (k P)
  | _ => none

def undefP : PV := .tup []

mutual
def toVal : PV → Option Value
  | .lit v => some v
  | .agg l => match toVals l with | some xs => some (.agg xs.toArray) | none => none
  | .tup l => match toVals l with | some xs => some (.tuple xs.toArray) | none => none
  | .clo f a l => match toVals a with | some ys => (match toVals l with | some xs => some (.func (.func f) ys.toArray xs.toArray) | none => none) | none => none
  | .iface t v => match toVal v with | some x => some (.iface t x) | none => none
  | _ => none
def toVals : List PV → Option (List Value)
  | [] => some []
  | p :: ps => match toVal p with
    | some x => match toVals ps with | some xs => some (x :: xs) | none => none
    | none => none
end

def ofVal1 : Value → PV
  | .agg cs => .agg (cs.toList.map .lit)
  | v => .lit v
def ofVal : Value → PV
  | .tuple vs => .tup (vs.toList.map ofVal1)
  | v => ofVal1 v

mutual
/-- Holds no block of the call's own. -/
def deepB : PV → Bool
  | .lit _ | .dsl .. | .dptr .. | .dmap .. => true
  | .agg l | .tup l => deepL l
  | .clo _ a l => deepL a && deepL l
  | .iface _ v => deepB v
  | _ => false
def deepL : List PV → Bool
  | [] => true
  | p :: ps => deepB p && deepL ps
end

inductive HObj where
  | blk (s : Nat) (l : List PV) (live : Bool)
  | str (s : ByteArray) (pos : Nat)
  | mp (ks : List Value) (vs : List PV) (bs : List Nat) (clock : Nat)
  | mit (m : PV) (since : Nat) (seen : List Nat) (stepped : Nat)

def HObj.live : HObj → Bool
  | .blk _ _ b => b
  | _ => true

abbrev Heap := Tr (Nat × HObj)
def obj (H : Heap) (id ver : Nat) : Option HObj :=
  match H.get id with
  | some (v, o) => if v = ver then some o else none
  | none => none

structure Cfg where
  P : Program
  fns : FuncId → Bool
  /-- 0: alone, its arguments deep, its result made deep · 1: its arguments read as they are, its result flat · 2: in the caller's memory · 3: by its told answer · 5: alone, its result a slice that is the caller's own -/
  mode : FuncId → Nat
  spec : FuncId → List PV → Option PV
  glob : Nat → Option (List PV)
  /-- does the block that is made for this temporary stay the call's own? -/
  own : FuncId → Tmp → Bool
  /-- does this temporary hold a pointer into memory that nobody writes any more? -/
  dp : FuncId → Tmp → Bool
  /-- a region that may not be met -/
  bad : FuncId → Nat → Bool
  /-- the blocks below this number are nobody's, and what holds of them holds on -/
  gl : Nat
  ginv : World → Prop
  gst : ∀ w w' : World, ginv w → (∀ b, b < gl → w'.heap[b]? = w.heap[b]?) → ginv w'

abbrev Env := Tr PV
def Env.at (e : Env) (t : Tmp) : PV := match e.get t with | some p => p | none => undefP

structure St where
  env : Env
  H : Heap
  m : Nat
  sz : Nat

def evO (cfg : Cfg) (env : Env) : Operand → Option PV
  | .tmp t => some (env.at t)
  | .const v => some (ofVal v)
  | .global g => match cfg.glob g with | some l => some (.dptr l 0) | none => none
  | .func f => some (.clo f [] [])

def evOs (cfg : Cfg) (env : Env) : List Operand → Option (List PV)
  | [] => some []
  | x :: xs => match evO cfg env x with
    | some p => match evOs cfg env xs with | some ps => some (p :: ps) | none => none
    | none => none

def litOf (cfg : Cfg) (env : Env) (x : Operand) : Value :=
  match evO cfg env x with
  | some p => match toVal p with | some v => v | none => undef
  | none => undef

def litOk (cfg : Cfg) (env : Env) : List Operand → Bool
  | [] => true
  | x :: xs => match evO cfg env x with
    | some p => match toVal p with | some _ => litOk cfg env xs | none => false
    | none => false

def isSel : Op → Bool
  | .select .. => true
  | _ => false

def litRun (cfg : Cfg) (env : Env) (o : Oper) : Option PV :=
  match isSel o.op with
  | true => none
  | false =>
  match litOk cfg env o.op.operands.toList with
  | true => match pureRun cfg.P (execOp (litOf cfg env) o) with
    | some (.value v) => some (ofVal v)
    | _ => none
  | false => none

/-! ### Types -/
def szO (P : Program) (t : TypeId) : Option Nat := match P.info? t with | some i => some i.size | none => none
def isAggO (P : Program) (t : TypeId) : Option Bool :=
  match P.underlying t with
  | some (.struct _) | some (.array _ _) => some true
  | some _ => some false
  | none => none
def zeroO (P : Program) (t : TypeId) : Option PV := match P.info? t with | some i => (match i.zero with | some v => (match v with | .tuple _ => none | v => some (ofVal1 v)) | none => none) | none => none

def splice (l : List PV) (off : Nat) (xs : List PV) : List PV := l.take off ++ (xs ++ l.drop (off + xs.length))

/-- A part of a row of cells. -/
def partO (P : Program) (t : TypeId) (cells : List PV) (off : Nat) : Option PV :=
  match isAggO P t, szO P t with
  | some true, some n => if off + n ≤ cells.length then some (.agg ((cells.drop off).take n)) else none
  | some false, some _ => cells[off]?
  | _, _ => none

def scalars : List PV → Bool
  | [] => true
  | p :: ps => p.scalar && scalars ps

def fillA (place : Nat → Option (Nat × Nat)) : List PV → List (Nat × PV) → Option (List PV)
  | cells, [] => some cells
  | cells, (i, p) :: rest =>
    match place i with
    | none => none
    | some (off, size) =>
      if p.cells.length = size ∧ off + size ≤ cells.length then fillA place (splice cells off p.cells) rest else none

def evParts (cfg : Cfg) (env : Env) : List (Nat × Operand) → Option (List (Nat × PV))
  | [] => some []
  | (i, x) :: xs => match evO cfg env x with
    | some p => match evParts cfg env xs with | some ps => some ((i, p) :: ps) | none => none
    | none => none

def sizesOk (P : Program) : List Field → Bool
  | [] => true
  | f :: fs => match szO P f.type with | some _ => sizesOk P fs | none => false

def placeS (P : Program) (fields : Array Field) (i : Nat) : Option (Nat × Nat) :=
  match fields[i]? with
  | some f => match szO P f.type with | some n => some (f.offset, n) | none => none
  | none => none

def buildA (cfg : Cfg) (env : Env) (t : TypeId) (parts : List (Nat × Operand)) : Option PV :=
  match zeroO cfg.P t, cfg.P.underlying t, evParts cfg env parts with
  | some z, some (.struct fields), some ps =>
    match sizesOk cfg.P fields.toList with
    | true =>
      (fillA (placeS cfg.P fields) z.cells ps).map .agg
    | false => none
  | some z, some (.array _ elem), some ps =>
    match szO cfg.P elem with
    | some size => (fillA (fun i => some (i * size, size)) z.cells ps).map .agg
    | none => none
  | _, _, _ => none

def replaceAt (l : List PV) (ps : List (Nat × PV)) : List PV := ps.foldl (fun l (i, p) => l.set i p) l

/-- A slice's elements, of a literal's parts: in the order of their places, each once. -/
def partsInOrder (n : Nat) (ps : List (Nat × PV)) : Option (List PV) :=
  if ps.map (·.1) = List.range n then some (ps.map (·.2)) else none

def sizesAre (s : Nat) : List PV → Bool
  | [] => true
  | p :: ps => decide (p.cells.length = s) && sizesAre s ps

def buildSliceA (cfg : Cfg) (env : Env) (t : TypeId) (len : Nat) (parts : List (Nat × Operand)) : Option (Nat × List PV) :=
  match cfg.P.underlying t with
  | some (.slice elem) =>
    match szO cfg.P elem, zeroO cfg.P elem, evParts cfg env parts with
    | some s, some z, some ps =>
      match partsInOrder len ps with
      | some l => if sizesAre s l ∧ z.cells.length = s ∧ 0 < s ∧ len * s ≤ 2 ^ 20 then some (s, l) else none
      | none => none
    | _, _, _ => none
  | _ => none

def intLit : Option PV → Option Int
  | some (.lit (.int _ n)) => some n
  | _ => none

def natLit (x : Option PV) : Option Nat :=
  match x with
  | some (.lit (.int _ (.ofNat n))) => some n
  | _ => none

def makeSliceA (cfg : Cfg) (env : Env) (t : TypeId) (len cap : Operand) : Option (Nat × List PV) :=
  match cfg.P.underlying t with
  | some (.slice elem) =>
    match szO cfg.P elem, zeroO cfg.P elem, natLit (evO cfg env len), natLit (evO cfg env cap) with
    | some s, some z, some n, some c =>
      match cfg.P.info? elem with
      | some i => if n = c ∧ z.cells.length = s ∧ 0 < s ∧ i.bytes * n ≤ 2 ^ 40 ∧ n ≤ 2 ^ 40 then some (s, List.replicate n z) else none
      | none => none
    | _, _, _, _ => none
  | _ => none

def fieldA (cfg : Cfg) (env : Env) (t : TypeId) (x : Operand) (i : Nat) : Option PV :=
  match cfg.P.underlying t, evO cfg env x with
  | some (.struct fields), some (.agg l) => match fields[i]? with
    | some f => partO cfg.P f.type l f.offset
    | none => none
  | _, _ => none

def fieldAddrA (cfg : Cfg) (env : Env) (t : TypeId) (x : Operand) (i : Nat) : Option PV :=
  match cfg.P.underlying t with
  | some (.struct fields) => match fields[i]? with
    | some f => match szO cfg.P f.type with
      | some 0 | none => none
      | some _ => match evO cfg env x with
        | some (.ptr id ver idx off) => some (.ptr id ver idx (off + f.offset))
        | some (.dptr l off) => some (.dptr l (off + f.offset))
        | _ => none
    | none => none
  | _ => none

def indexAddrA (cfg : Cfg) (env : Env) (t : TypeId) (x ix : Operand) : Option PV :=
  match natLit (evO cfg env ix) with
  | none => none
  | some i =>
    match cfg.P.underlying t with
    | some (.slice elem) =>
      match szO cfg.P elem with
      | some sz => match evO cfg env x with
        | some (.own id ver s off len _) => if i < len ∧ s = sz then some (.ptr id ver (off + i) 0) else none
        | some (.dsl s l _) => if s = sz then (match l[i]? with | some p => some (.dptr p.cells 0) | none => none) else none
        | _ => none
      | none => none
    | some (.array n elem) =>
      match szO cfg.P elem with
      | some sz => if i < n then (match evO cfg env x with
        | some (.ptr id ver idx off) => some (.ptr id ver idx (off + i * sz))
        | some (.dptr l off) => some (.dptr l (off + i * sz))
        | _ => none) else none
      | none => none
    | _ => none

/-- An operand that may be left out: none: it is no number. -/
def optNat (cfg : Cfg) (env : Env) : Option Operand → Option (Option Nat)
  | none => some none
  | some x => match natLit (evO cfg env x) with | some n => some (some n) | none => none

def sliceA (cfg : Cfg) (env : Env) (t : TypeId) (x : Operand) (lo hi mx : Option Operand) : Option PV :=
  match evO cfg env x, optNat cfg env lo, optNat cfg env hi, optNat cfg env mx with
  | some (.own id ver s off len cap), some lo, some hi, some mx =>
    match cfg.P.underlying t with
    | some (.slice elem) =>
      let l := lo.getD 0
      let h := hi.getD len
      if szO cfg.P elem = some s ∧ l ≤ h ∧ h ≤ len then
        match mx with
        | some m => if hi.isSome ∧ h ≤ m ∧ m ≤ len then (if m = l then some (.own id ver s off 0 (some 0)) else some (.own id ver s (off + l) (h - l) (some (m - l)))) else none
        | none => if l = 0 then some (.own id ver s off h cap) else if l < h then some (.own id ver s (off + l) (h - l) (cap.map (· - l))) else some (.dsl s [] none)
      else none
    | _ => none
  | some (.dsl s l0 _), some lo, some hi, some mx =>
    match cfg.P.underlying t with
    | some (.slice elem) =>
      let l := lo.getD 0
      let h := hi.getD l0.length
      if szO cfg.P elem = some s ∧ l ≤ h ∧ h ≤ l0.length then
        match mx with
        | some m => if hi.isSome ∧ h ≤ m ∧ m ≤ l0.length then some (.dsl s ((l0.drop l).take (h - l)) (some (m - l))) else none
        | none => some (.dsl s ((l0.drop l).take (h - l)) none)
      else none
    | _ => none
  | some (.ptr id ver idx off), some lo, some hi, some none =>
    match cfg.P.underlying t with
    | some (.array n elem) =>
      let l := lo.getD 0
      let h := hi.getD n
      if szO cfg.P elem = some 1 ∧ l ≤ h ∧ h ≤ n ∧ l < n then some (.asl id ver idx (off + l) (h - l)) else none
    | _ => none
  | _, _, _, _ => none

/-! ### Bytes -/
def byteP (b : UInt8) : PV := .lit (.int .u8 b.toNat)
def bytesP (s : ByteArray) : List PV := s.data.toList.map byteP
def bytesOf : List PV → Option (List UInt8)
  | [] => some []
  | p :: ps => match p with
    | .lit (.int .u8 n) => match bytesOf ps with | some bs => some (UInt8.ofNat n.toNat :: bs) | none => none
    | _ => none

/-! ### Making deep -/
mutual
def deepen (H : Heap) : Nat → PV → Option PV
  | 0, _ => none
  | k + 1, p => match p with
    | .lit v => some (.lit v)
    | .dsl s l c => some (.dsl s l c)
    | .dptr l o => some (.dptr l o)
    | .agg l => match deepenL H k l with | some l => some (.agg l) | none => none
    | .tup l => match deepenL H k l with | some l => some (.tup l) | none => none
    | .clo f a l => match deepenL H k a with | some a => (match deepenL H k l with | some l => some (.clo f a l) | none => none) | none => none
    | .iface t v => match deepen H k v with | some v => some (.iface t v) | none => none
    | .own id ver s off len cap => match obj H id ver with
      | some (.blk s' l _) => if s = s' ∧ off + len ≤ l.length then (match deepenL H k ((l.drop off).take len) with | some l => some (.dsl s l cap) | none => none) else none
      | _ => none
    | .ptr id ver idx off => match obj H id ver with
      | some (.blk _ l _) => match l[idx]? with
        | some e => match deepenL H k e.cells with | some l => some (.dptr l off) | none => none
        | none => none
      | _ => none
    | .map id ver => match obj H id ver with
      | some (.mp ks vs bs clock) => match deepenL H k vs with | some vs => some (.dmap ks vs bs clock) | none => none
      | _ => none
    | .dmap ks vs bs clock => some (.dmap ks vs bs clock)
    | _ => none
def deepenL (H : Heap) : Nat → List PV → Option (List PV)
  | 0, l => match l with | [] => some [] | _ => none
  | k + 1, l => match l with
    | [] => some []
    | p :: ps => match deepen H k p with
      | some p => match deepenL H k ps with | some ps => some (p :: ps) | none => none
      | none => none
end

/-! ### Operations by what they touch -/
inductive Cls where
  | pure | new | read | write | wild
  deriving DecidableEq

def isSliceT (P : Program) (t : TypeId) : Bool := match P.underlying t with | some (.slice _) => true | _ => false
def isMapT (P : Program) (t : TypeId) : Bool := match P.underlying t with | some (.map _ _) => true | _ => false

def ownDst (cfg : Cfg) (cur : FuncId) (o : Oper) : Bool := match o.dst with | some d => cfg.own cur d | none => false

def cls (cfg : Cfg) (cur : FuncId) (o : Oper) : Cls :=
  match o.op with
  | .load _ x => match x with
    | .tmp t => if cfg.dp cur t then .pure else .read
    | .global _ => .pure
    | _ => .read
  | .store .. => .write
  | .alloc _ => .new
  | .box .. | .buildSlice .. | .makeSlice .. => if ownDst cfg cur o then .new else .pure
  | .makeMap .. => .new
  | .range t _ => if isMapT cfg.P t then .write else .new
  | .next .. | .mapUpdate .. | .mapEntry .. | .entryStore .. | .insert .. => .write
  | .lookup .. | .entry _ => .read
  | .convert src dst _ => if isSliceT cfg.P src then .read else if isSliceT cfg.P dst && ownDst cfg cur o then .new else .pure
  | .call c => match c.callee with
    | .builtin b => match b with
      | .append | .copy | .clear | .delete => .write
      | .len => match (c.argTypes[0]? : Option TypeId) with
        | some t => if isMapT cfg.P t then .read else .pure
        | none => .pure
      | _ => .pure
    | .value f => match f with
      | .func g => match cfg.mode g with
        | 0 | 3 => .pure
        | 1 => .read
        | 5 => .new
        | _ => .wild
      | _ => .wild
    | .invoke .. => .wild
  | .go _ | .defer _ | .panic _ | .send .. | .recv .. | .select .. | .ready _ | .waits _ => .wild
  | _ => .pure

/-- A slice against nil. -/
def notNil : PV → Bool
  | .own .. | .dsl _ (_ :: _) _ => true
  | _ => false
def isNilS : PV → Bool
  | .lit (.slice none _ _) => true
  | _ => false
def nilCmp (cfg : Cfg) (env : Env) (op : BinOp) (t : TypeId) (x y : Operand) : Option PV :=
  match isSliceT cfg.P t, evO cfg env x, evO cfg env y with
  | true, some p, some q => if (notNil p && isNilS q) || (isNilS p && notNil q) then (match op with | .eql => some (.lit (.bool false)) | .neq => some (.lit (.bool true)) | _ => none) else none
  | _, _, _ => none

def aopPure (cfg : Cfg) (env : Env) (o : Oper) : Option PV :=
  match o.op with
  | .move x | .assign x => evO cfg env x
  | .pick c a b => match evO cfg env c with
    | some (.lit (.bool t)) => (match evO cfg env a, evO cfg env b with | some p, some q => some (match t with | true => p | false => q) | _, _ => none)
    | _ => none
  | .box _ x => match evO cfg env x with
    | some p => if deepB p then some (.dptr p.cells 0) else none
    | none => none
  | .build t parts => buildA cfg env t parts.toList
  | .buildSlice t len parts => match buildSliceA cfg env t len parts.toList with
    | some (s, l) => if deepL l then some (.dsl s l (some len)) else none
    | none => none
  | .makeSlice t l c => match makeSliceA cfg env t l c with
    | some (s, l) => some (.dsl s l (some l.length))
    | none => none
  | .field t x i => match fieldA cfg env t x i with
    | some p => some p
    | none => none
  | .extract t i => match evO cfg env t with
    | some (.tup l) => l[i]?
    | _ => none
  | .fieldAddr t x i => fieldAddrA cfg env t x i
  | .indexAddr t x i => indexAddrA cfg env t x i
  | .slice t x lo hi mx => match sliceA cfg env t x lo hi mx with
    | some p => some p
    | none => litRun cfg env o
  | .makeFunc fn first captured => match fn, evOs cfg env first.toList, evOs cfg env captured.toList with
    | .func f, some a, some l => some (.clo f a l)
    | _, _, _ => none
  | .nilCheck x => match evO cfg env x with
    | some (.ptr id ver idx off) => some (.ptr id ver idx off)
    | some (.dptr l off) => some (.dptr l off)
    | some (.clo f a l) => some (.clo f a l)
    | _ => none
  | .convert src dst x => if isSliceT cfg.P dst then (match cfg.P.underlying src, cfg.P.underlying dst, evO cfg env x with
      | some .string, some (.slice e), some (.lit (.string s)) => (match cfg.P.underlying e with | some (.int .u8) => some (.dsl 1 (bytesP s) none) | _ => none)
      | _, _, _ => none) else litRun cfg env o
  | .binOp op t x y _ => match litRun cfg env o with
    | some p => some p
    | none => nilCmp cfg env op t x y
  | .call c => match c.callee with
    | .builtin .len => match c.args.toList with
      | [x] => match evO cfg env x, c.argTypes[0]? with
        | some (.own _ _ _ _ len _), some t => if isSliceT cfg.P t then some (.lit (.int .i64 len)) else none
        | some (.dsl _ l _), some t => if isSliceT cfg.P t then some (.lit (.int .i64 l.length)) else none
        | some _, _ => litRun cfg env o
        | none, _ => none
      | _ => none
    | .builtin .cap => match c.args.toList with
      | [x] => match evO cfg env x, c.argTypes[0]? with
        | some (.own _ _ _ _ _ (some k)), some t => if isSliceT cfg.P t then some (.lit (.int .i64 k)) else none
        | some (.dsl _ _ (some k)), some t => if isSliceT cfg.P t then some (.lit (.int .i64 k)) else none
        | some _, _ => litRun cfg env o
        | none, _ => none
      | _ => none
    | .builtin .min | .builtin .max => litRun cfg env o
    | _ => none
  | .load t x => match evO cfg env x with
    | some (.dptr l off) => partO cfg.P t l off
    | _ => none
  | .alloc _ | .store .. => none
  | _ => litRun cfg env o

/-- A block of the call's own: its answer and what it holds. -/
def aopNew (cfg : Cfg) (env : Env) (o : Oper) (id : Nat) : Option (PV × HObj) :=
  match o.op with
  | .alloc t => match zeroO cfg.P t with
    | some z => some (.ptr id 0 0 0, .blk z.cells.length [z] true)
    | none => none
  | .box _ x => match evO cfg env x with
    | some p => some (.ptr id 0 0 0, .blk p.cells.length [p] true)
    | none => none
  | .buildSlice t len parts => match buildSliceA cfg env t len parts.toList with
    | some (s, l) => some (.own id 0 s 0 len (some len), .blk s l true)
    | none => none
  | .makeSlice t l c => match makeSliceA cfg env t l c with
    | some (s, l) => some (.own id 0 s 0 l.length (some l.length), .blk s l true)
    | none => none
  | .makeMap t r => if isMapT cfg.P t then (match r with
    | none => some (.map id 0, .mp [] [] [] 0)
    | some x => match evO cfg env x with | some (.lit (.int _ _)) => some (.map id 0, .mp [] [] [] 0) | _ => none) else none
  | .range t x => match cfg.P.underlying t, evO cfg env x with
    | some .string, some (.lit (.string s)) => some (.iter id 0, .str s 0)
    | _, _ => none
  | _ => none

def loadA (P : Program) (H : Heap) (t : TypeId) : PV → Option PV
  | .ptr id ver idx off => match obj H id ver with
    | some (.blk _ l _) => match l[idx]? with
      | some e => partO P t e.cells off
      | none => none
    | _ => none
  | .dptr l off => partO P t l off
  | _ => none

abbrev Delta := List (Nat × Nat × HObj)

def entsOf (ks : List Value) (bs : List Nat) : List MapEntry := List.zipWith (fun k b => ⟨k, undef, b⟩) ks bs

def findE (P : Program) (kt : TypeId) (k : Value) (ks : List Value) (bs : List Nat) : Option (Option Nat) :=
  match pureRun P (Instr.findKey kt k (entsOf ks bs)) with
  | some (some (i, _)) => some (some i)
  | some none => some none
  | none => none

def keyOk (P : Program) (empty : Bool) (kt : TypeId) (k : Value) : Bool :=
  match pureRun P (Instr.checkKey empty 10000 kt k) with
  | some _ => true
  | none => false

/-- What a map holds. -/
def mapOf (H : Heap) : PV → Option (List Value × List PV × List Nat × Nat)
  | .lit (.map none) => some ([], [], [], 0)
  | .map id ver => match obj H id ver with
    | some (.mp ks vs bs clock) => some (ks, vs, bs, clock)
    | _ => none
  | .dmap ks vs bs clock => some (ks, vs, bs, clock)
  | _ => none

def lookupA (P : Program) (H : Heap) (t : TypeId) (m : PV) (k : Value) : Option (PV × Bool) :=
  match P.underlying t with
  | some (.map kt vt) =>
    match mapOf H m with
    | some (ks, vs, bs, _) => if keyOk P ks.isEmpty kt k then (match findE P kt k ks bs with
        | some (some i) => match vs[i]? with | some v => some (v, true) | none => none
        | some none => match zeroO P vt with | some z => some (z, false) | none => none
        | none => none) else none
    | none => none
  | _ => none

def updateA (P : Program) (H : Heap) (t : TypeId) (m : PV) (k : Value) (v : PV) : Option Delta :=
  match P.underlying t with
  | some (.map kt _) =>
    match m with
    | .map id ver => match obj H id ver with
      | some (.mp ks vs bs clock) => if keyOk P false kt k then (match findE P kt k ks bs with
        | some (some i) => match ks[i]? with
          | some k0 => if Instr.sameBits 10000 k0 k then some [(id, ver, .mp (ks.set i k) (vs.set i v) bs clock)] else none
          | none => none
        | some none => some [(id, ver, .mp (ks ++ [k]) (vs ++ [v]) (bs ++ [clock]) (clock + 1))]
        | none => none) else none
      | _ => none
    | _ => none
  | _ => none

/-- The one step that a walk over a map can take now: none: there is more than one; some none: it is over. -/
def nextOf (ks : List Value) (vs : List PV) (bs : List Nat) (since : Nat) (seen : List Nat) (stepped : Nat) : Option (Option (Value × PV × Nat)) :=
  if !seen.isEmpty && !bs.isEmpty && bs.all (fun b => decide (b ≥ stepped)) then none else
  let left := (ks.zip (vs.zip bs)).filter fun e => !seen.contains e.2.2
  let old := left.filter fun e => decide (e.2.2 < since)
  let new := left.filter fun e => decide (e.2.2 ≥ since)
  match old, new with
  | [], [] => some none
  | [e], [] => some (some e)
  | _, _ => none

def aopRead (cfg : Cfg) (env : Env) (H : Heap) (o : Oper) : Option PV :=
  match o.op with
  | .load t x => match evO cfg env x with
    | some p => loadA cfg.P H t p
    | none => none
  | .convert src dst x =>
    match cfg.P.underlying src, cfg.P.underlying dst with
    | some (.slice e), some .string =>
      match cfg.P.underlying e, evO cfg env x with
      | some (.int .u8), some (.own id ver s off len _) => match obj H id ver with
        | some (.blk s' l _) => if s = s' ∧ s = 1 ∧ off + len ≤ l.length then (match bytesOf ((l.drop off).take len) with | some bs => some (.lit (.string ⟨bs.toArray⟩)) | none => none) else none
        | _ => none
      | some (.int .u8), some (.asl id ver idx off len) => match obj H id ver with
        | some (.blk _ l _) => match l[idx]? with
          | some e => if off + len ≤ e.cells.length then (match bytesOf ((e.cells.drop off).take len) with | some bs => some (.lit (.string ⟨bs.toArray⟩)) | none => none) else none
          | none => none
        | _ => none
      | some (.int .u8), some (.dsl s l _) => if s = 1 then (match bytesOf l with | some bs => some (.lit (.string ⟨bs.toArray⟩)) | none => none) else none
      | some (.int .u8), some (.lit (.slice none _ _)) => some (.lit (.string .empty))
      | _, _ => none
    | _, _ => none
  | .entry it => match evO cfg env it with
    | some (.iter id ver) => match obj H id ver with
      | some (.mit m _ seen stepped) => match seen.getLast?, mapOf H m with
        | some b, some (ks, vs, bs, clock) => if clock = stepped then (match (ks.zip (vs.zip bs)).find? (fun e => e.2.2 == b) with
          | some (k, v, _) => some (.tup [ofVal1 k, v])
          | none => none) else none
        | _, _ => none
      | _ => none
    | _ => none
  | .lookup t m k ok => match evO cfg env m, evO cfg env k with
    | some p, some q => match toVal q with
      | some k => match lookupA cfg.P H t p k with
        | some (v, b) => some (match ok with | true => .tup [v, .lit (.bool b)] | false => v)
        | none => none
      | none => none
    | _, _ => none
  | .call c => match c.callee with
    | .builtin .len => match c.args.toList, c.argTypes[0]? with
      | [x], some t => match isMapT cfg.P t, evO cfg env x with
        | true, some (.lit (.map none)) => some (.lit (.int .i64 0))
        | true, some (.dmap _ vs _ _) => some (.lit (.int .i64 vs.length))
        | true, some (.map id ver) => match obj H id ver with
          | some (.mp _ vs _ _) => some (.lit (.int .i64 vs.length))
          | _ => none
        | _, _ => none
      | _, _ => none
    | _ => none
  | _ => none

def scalarsE : List PV → Bool
  | [] => true
  | p :: ps => scalars p.cells && scalarsE ps

/-- What is appended: its elements. -/
def elemsOf (H : Heap) (s : Nat) : PV → Option (List PV)
  | .own id ver s' off len _ => match obj H id ver with
    | some (.blk s2 l _) => if s' = s2 ∧ s' = s ∧ off + len ≤ l.length then some ((l.drop off).take len) else none
    | _ => none
  | .dsl s' l _ => if s' = s then some l else none
  | .lit (.slice none 0 _) => some []
  | .lit (.string b) => if s = 1 then some (bytesP b) else none
  | _ => none


def appendA (P : Program) (H : Heap) (elem : TypeId) (fresh : Nat) (d x : PV) : Option (PV × Delta) :=
  match P.info? elem, zeroO P elem with
  | some i, some z =>
    match elemsOf H i.size x with
    | some xs =>
      if z.cells.length = i.size ∧ 0 < i.size ∧ sizesAre i.size xs ∧ scalarsE xs then
      match d with
      | .lit (.slice none 0 0) => match xs with
        | [] => some (.lit (.slice none 0 0), [])
        | _ => if xs.length * i.bytes ≤ 2 ^ 40 ∧ xs.length ≤ 2 ^ 40 then some (.own fresh 0 i.size 0 xs.length none, [(fresh, 0, .blk i.size xs true)]) else none
      | .own id ver s off len cap => match obj H id ver with
        | some (.blk s' l live) =>
          if s = s' ∧ s = i.size ∧ off + len ≤ l.length ∧ (len + xs.length) * i.bytes ≤ 2 ^ 40 ∧ len + xs.length ≤ 2 ^ 40 then
          match xs with
          | [] => some (.own id ver s off len cap, [])
          | _ => match cap with
            | some c =>
              if c < len + xs.length then some (.own fresh 0 s 0 (len + xs.length) none, [(fresh, 0, .blk s ((l.drop off).take len ++ xs) true)])
              else match live with
                | true => some (.own id ver s off (len + xs.length) cap, [(id, ver, .blk s (l.take (off + len) ++ (xs ++ l.drop (off + len + xs.length))) true)])
                | false => none
            | none => match live with
              | true => some (.own id (ver + 1) s 0 (len + xs.length) none, [(id, ver + 1, .blk s ((l.drop off).take len ++ xs) true)])
              | false => none
          else none
        | _ => none
      | .dsl s l cap =>
        if s = i.size ∧ (l.length + xs.length) * i.bytes ≤ 2 ^ 40 ∧ l.length + xs.length ≤ 2 ^ 40 then
        match xs with
        | [] => some (.dsl s l cap, [])
        | _ => match cap with
          | some c => if c < l.length + xs.length then some (.own fresh 0 s 0 (l.length + xs.length) none, [(fresh, 0, .blk s (l ++ xs) true)]) else none
          | none => none
        else none
      | _ => none
      else none
    | none => none
  | _, _ => none

def storeA (P : Program) (H : Heap) (t : TypeId) (p v : PV) : Option Delta :=
  match p with
  | .ptr id ver idx off => match obj H id ver, szO P t with
    | some (.blk s l true), some n => match l[idx]? with
      | some e =>
        if v.cells.length = n ∧ off + n ≤ e.cells.length ∧ scalars v.cells then
          match e with
          | .agg es => some [(id, ver, .blk s (l.set idx (.agg (splice es off v.cells))) true)]
          | _ => match v with
            | .agg _ => none
            | v => if n = 1 ∧ e.cells.length = 1 then some [(id, ver, .blk s (l.set idx v) true)] else none
        else none
      | none => none
    | _, _ => none
  | _ => none

def copyA (P : Program) (H : Heap) (elem : TypeId) (d x : PV) : Option (PV × Delta) :=
  match P.info? elem with
  | some i =>
    match elemsOf H i.size x, d with
    | some xs, .own id ver s off len _ => match obj H id ver with
      | some (.blk s' l true) =>
        if s = s' ∧ s = i.size ∧ off + len ≤ l.length ∧ sizesAre i.size xs ∧ scalarsE xs then
          let n := min xs.length len
          some (.lit (.int .i64 n), [(id, ver, .blk s (l.take off ++ (xs.take n ++ l.drop (off + n))) true)])
        else none
      | _ => none
    | some _, .lit (.slice none 0 0) => some (.lit (.int .i64 0), [])
    | some _, .dsl _ [] _ => some (.lit (.int .i64 0), [])
    | _, _ => none
  | none => none

def aopWrite (cfg : Cfg) (env : Env) (H : Heap) (o : Oper) (fresh : Nat) : Option (PV × Delta) :=
  match o.op with
  | .store t a x => match evO cfg env a, evO cfg env x with
    | some p, some v => match storeA cfg.P H t p v with | some d => some (undefP, d) | none => none
    | _, _ => none
  | .call c => match c.callee with
    | .builtin .append => match c.args.toList, c.argTypes.toList with
      | [d, x], [dt, xt] => match cfg.P.underlying dt, cfg.P.underlying xt, evO cfg env d, evO cfg env x with
        | some (.slice e), some (.slice _), some p, some q => appendA cfg.P H e fresh p q
        | some (.slice e), some .string, some p, some q => appendA cfg.P H e fresh p q
        | _, _, _, _ => none
      | _, _ => none
    | .builtin .copy => match c.args.toList, c.argTypes.toList with
      | [d, x], [dt, _] => match cfg.P.underlying dt, evO cfg env d, evO cfg env x with
        | some (.slice e), some p, some q => copyA cfg.P H e p q
        | _, _, _ => none
      | _, _ => none
    | _ => none
  | .mapUpdate t m k x | .insert t m k x => match evO cfg env m, evO cfg env k, evO cfg env x with
    | some p, some q, some v => match toVal q with
      | some k => match updateA cfg.P H t p k v with
        | some d => some (undefP, d)
        | none => none
      | none => none
    | _, _, _ => none
  | .next it isString => match isString, evO cfg env it with
    | true, some (.iter id ver) => match obj H id ver with
      | some (.str s pos) =>
        if pos < s.size then
          let r := Utf8.decode s pos
          some (.tup [.lit (.bool true), .lit (.int .i64 pos), .lit (.int .i32 r.1)], [(id, ver, .str s (pos + r.2))])
        else some (.tup [.lit (.bool false)], [])
      | _ => none
    | false, some (.iter id ver) => match obj H id ver with
      | some (.mit m since seen stepped) => match mapOf H m with
        | some (ks, vs, bs, clock) => match nextOf ks vs bs since seen stepped with
          | some none => some (.tup [.lit (.bool false)], [])
          | some (some (k, v, b)) => some (.tup [.lit (.bool true), ofVal1 k, v], [(id, ver, .mit m since (seen ++ [b]) clock)])
          | none => none
        | none => none
      | _ => none
    | _, _ => none
  | .range t x => match isMapT cfg.P t, evO cfg env x with
    | true, some p => match mapOf H p with
      | some (_, _, _, clock) => some (.iter fresh 0, [(fresh, 0, .mit p clock [] clock)])
      | none => none
    | _, _ => none
  | _ => none

/-! ### Steps -/
inductive Ex where
  | normal | exit (id : Nat) | ret
  deriving DecidableEq

def applyD (H : Heap) (d : Delta) : Heap := d.foldl (fun H (id, ver, o) => H.put id (ver, o)) H

/-- The answer of op 'j' as a guard. -/
def yieldA (env : Env) (ops : Array Oper) (j : Nat) : Option Bool :=
  match ops[j]? with
  | some o => match o.dst with
    | some d => match env.at d with
      | .lit (.bool b) => some b
      | _ => none
    | none => none
  | none => none

def wantA (env : Env) (ops : Array Oper) (o : Oper) : Bool :=
  match o.guard with
  | none => true
  | some (j, want) => match yieldA env ops j with
    | some b => b == want
    | none => false

def setD (s : St) (dst : Option Tmp) (p : PV) : Option St :=
  match dst with
  | some d => if d < s.sz then some { s with env := s.env.put d p } else none
  | none => some s

def envOf : List PV → Nat → Env → Env
  | [], _, e => e
  | p :: ps, i, e => envOf ps (i + 1) (e.put i p)

def resOne (P : Program) (s : St) : ResultVar → Option PV
  | .tmp t => some (s.env.at t)
  | .cell a t => loadA P s.H t (s.env.at a)

def resAll (P : Program) (s : St) : List ResultVar → Option (List PV)
  | [] => some []
  | r :: rs => match resOne P s r with
    | some p => match resAll P s rs with | some ps => some (p :: ps) | none => none
    | none => none

def resA (P : Program) (s : St) (rs : List ResultVar) : Option PV :=
  match resAll P s rs with
  | some [p] => some p
  | some l => some (.tup l)
  | none => none

abbrev Run := FuncId → Code → St → Option (Ex × St)

/-- A function, from these arguments on, in this memory: its result, the memory, the next free number. -/
def callA (cfg : Cfg) (X : Run) (f : FuncId) (args : List PV) (H : Heap) (m : Nat) : Option (PV × Heap × Nat) :=
  match cfg.fns f with
  | false => none
  | true => match cfg.P.funcs[f]? with
    | none => none
    | some fn => match fn.body with
      | none => none
      | some c =>
        if args.length ≤ fn.ntmps ∧ fn.ntmps ≤ 8000 then
          match X f c ⟨envOf args 0 .e, H, m, fn.ntmps⟩ with
          | some (.exit _, _) => none
          | some (_, s) => match resA cfg.P s fn.results.toList with
            | some p => some (p, s.H, s.m)
            | none => none
          | none => none
        else none

def fuelD : Nat := 100000

def callPure (cfg : Cfg) (X : Run) (f : FuncId) (args : List PV) : Option PV :=
  match deepL args with
  | false => none
  | true => match callA cfg X f args .e 0 with
    | some (p, H, _) => deepen H fuelD p
    | none => none

mutual
def flatB : PV → Bool
  | .lit _ => true
  | .agg l | .tup l => flatL l
  | _ => false
def flatL : List PV → Bool
  | [] => true
  | p :: ps => flatB p && flatL ps
end

def pureCall (cfg : Cfg) (X : Run) (f : FuncId) (args : List PV) : Option PV :=
  match cfg.mode f with
  | 0 => callPure cfg X f args
  | 3 => if deepL args then cfg.spec f args else none
  | _ => none

def callee? : Op → Option (FuncId × List Operand)
  | .call c => match c.callee with
    | .value (.func g) => some (g, c.args.toList)
    | _ => none
  | _ => none

/-- A callee's own slice is the caller's own from here on. -/
def importA (cfg : Cfg) (X : Run) (f : FuncId) (args : List PV) (id : Nat) : Option (PV × HObj) :=
  match deepL args with
  | false => none
  | true => match callA cfg X f args .e 0 with
    | some (.own i v s off len cap, H, _) => match obj H i v with
      | some (.blk s' l true) =>
        if s = s' ∧ off = 0 ∧ len = l.length ∧ deepL l then some (.own id 0 s 0 len cap, .blk s l true) else none
      | _ => none
    | _ => none

def newOf (cfg : Cfg) (X : Run) (env : Env) (o : Oper) (id : Nat) : Option (PV × HObj) :=
  match callee? o.op with
  | some (g, xs) => match evOs cfg env xs with
    | some args => importA cfg X g args id
    | none => none
  | none => aopNew cfg env o id

/-- An operation that touches no memory of the call's own. -/
def effPure (cfg : Cfg) (X : Run) (env : Env) (o : Oper) : Option PV :=
  match callee? o.op with
  | some (g, xs) => match evOs cfg env xs with
    | some args => pureCall cfg X g args
    | none => none
  | none => aopPure cfg env o

def effRead (cfg : Cfg) (X : Run) (env : Env) (H : Heap) (o : Oper) : Option PV :=
  match callee? o.op with
  | some (g, xs) => match evOs cfg env xs with
    | some args => match deepenL H fuelD args with
      | some args => match callPure cfg X g args with
        | some p => if flatB p then some p else none
        | none => none
      | none => none
    | none => none
  | none => aopRead cfg env H o

def effWrite (cfg : Cfg) (env : Env) (H : Heap) (o : Oper) (fresh : Nat) : Option (PV × Heap) :=
  match H.get fresh with
    | none => match aopWrite cfg env H o fresh with
      | some (p, d) => some (p, applyD H d)
      | none => none
    | some _ => none

/-- A call through a value, or in the caller's memory. -/
def effWild (cfg : Cfg) (X : Run) (env : Env) (H : Heap) (m : Nat) (o : Oper) : Option (PV × Heap × Nat) :=
  match o.op with
  | .call c => match c.callee with
    | .value f => match evO cfg env f, evOs cfg env c.args.toList with
      | some (.clo g first caps), some args => match cfg.mode g with
        | 2 => callA cfg X g (first ++ (args ++ caps)) H m
        | _ => match pureCall cfg X g (first ++ (args ++ caps)) with
          | some p => some (p, H, m)
          | none => none
      | _, _ => none
    | _ => none
  | _ => none

def effA (cfg : Cfg) (X : Run) (cur : FuncId) (ops : Array Oper) (base i : Nat) (o : Oper) (env : Env) (H : Heap) (m : Nat) : Option (PV × Heap × Nat) :=
  match wantA env ops o with
  | false => some (undefP, H, m)
  | true => match cls cfg cur o with
    | .pure => match effPure cfg X env o with
      | some p => some (p, H, m)
      | none => none
    | .new => match newOf cfg X env o (base + i) with
      | some (p, ob) => match H.get (base + i) with
        | none => some (p, H.put (base + i) (0, ob), m)
        | some _ => none
      | none => none
    | .read => match effRead cfg X env H o with
      | some p => some (p, H, m)
      | none => none
    | .write => match effWrite cfg env H o (base + i) with
      | some (p, H') => some (p, H', m)
      | none => none
    | .wild => effWild cfg X env H m o

def stepA (cfg : Cfg) (X : Run) (cur : FuncId) (ops : Array Oper) (base i : Nat) (o : Oper) (s : St) : Option St :=
  match effA cfg X cur ops base i o s.env s.H s.m with
  | some (p, H, m) => setD { s with H := H, m := m } o.dst p
  | none => none

def runOps (cfg : Cfg) (X : Run) (cur : FuncId) (ops : Array Oper) (base : Nat) : List Oper → Nat → St → Option St
  | [], _, s => some s
  | o :: os, i, s => match stepA cfg X cur ops base i o s with
    | some s' => runOps cfg X cur ops base os (i + 1) s'
    | none => none

def condA (cfg : Cfg) (s : St) (c : Operand) : Option Bool :=
  match evO cfg s.env c with
  | some (.lit (.bool b)) => some b
  | _ => none

/-- What an operation does to the memory of the call's own, for the orders of a region. -/
inductive Kin where
  | pure | new | read | call | write | wild
  deriving DecidableEq

def kin (cfg : Cfg) (cur : FuncId) (o : Oper) : Kin :=
  match cls cfg cur o with
  | .pure => .pure
  | .new => .new
  | .read => match callee? o.op with | some _ => .call | none => .read
  | .write => .write
  | .wild => .wild

/-- May the second one be taken ahead of the first one? -/
def kinOK : Kin → Kin → Bool
  | .pure, _ | _, .pure => true
  | .new, .new => true
  | .read, .new | .write, .new => true
  | .read, .read | .read, .call | .call, .read | .call, .call => true
  | _, _ => false

def indep (cfg : Cfg) (cur : FuncId) (ops : Array Oper) (x y : Oper) : Bool := x.apart ops y && kinOK (kin cfg cur x) (kin cfg cur y)

/-! ### What waits for what -/
def maskOf (o : Oper) (acc : List Nat) : Nat :=
  o.after.toList.foldl (fun m e => if Region.binds .any e then m ||| (2 ^ e.on ||| (acc[e.on]?).getD 0) else m) 0
def masks : List Oper → List Nat → List Nat
  | [], acc => acc
  | o :: os, acc => masks os (acc ++ [maskOf o acc])

/-- A relation of pairs: the earlier one with its number, the later one with its number. -/
abbrev Pairs := Nat → Oper → Nat → Oper → Bool
def pairsOK (pr : Pairs) (ms : List Nat) (i : Nat) (o : Oper) : List Oper → Nat → Bool
  | [], _ => true
  | x :: xs, j => (decide (i ≤ j) || (((ms[i]?).getD 0).testBit j || pr j x i o)) && pairsOK pr ms i o xs (j + 1)

def edgesOK (i : Nat) (o : Oper) : Bool := o.after.toList.all fun e => !Region.binds .any e || decide (e.on < i)

def allOK (pr : Pairs) (ops : List Oper) (ms : List Nat) : List Oper → Nat → Bool
  | [], _ => true
  | o :: os, i => edgesOK i o && (pairsOK pr ms i o ops 0 && allOK pr ops ms os (i + 1))

/-- May a region's operations come in whatever order they may? -/
def drawOK (cfg : Cfg) (cur : FuncId) (ops : Array Oper) : Bool := allOK (fun _ x _ o => indep cfg cur ops x o) ops.toList (masks ops.toList []) ops.toList 0

/-- From the j-th on none puts into 'a'. -/
def noLater (l : List Oper) (j : Nat) (a : Tmp) : Bool := (l.drop j).all fun o => match o.dst with | some d => !Nat.beq d a | none => true
def ptrsApart : PV → PV → Bool
  | .ptr id _ _ _, .ptr id' _ _ _ => !Nat.beq id id'
  | .dptr _ _, .ptr _ _ _ _ => true
  | _, _ => false
/-- A load ahead of a store into another block: of what the region's end knows of both addresses. -/
def dynP (ops : Array Oper) (E : Env) : Pairs := fun j x i o =>
  x.apart ops o && (match x.guard, o.guard, x.op, o.op with
    | none, none, .load _ (.tmp a), .store _ (.tmp b) _ => noLater ops.toList j a && (noLater ops.toList i b && ptrsApart (E.at a) (E.at b))
    | _, _, _, _ => false)
def drawD (cfg : Cfg) (cur : FuncId) (ops : Array Oper) (E : Env) : Bool := allOK (fun j x i o => indep cfg cur ops x o || dynP ops E j x i o) ops.toList (masks ops.toList []) ops.toList 0

def exec (cfg : Cfg) : Nat → FuncId → Code → St → Option (Ex × St)
  | 0, _, _, _ => none
  | k + 1, cur, c, s => match c with
    | .skip | .label _ => some (.normal, s)
    | .region id ops d => match runOps cfg (exec cfg k) cur ops s.m ops.toList 0 { s with m := s.m + ops.size } with
      | some s' => match d && cfg.bad cur id with
        | true => (match drawD cfg cur ops s'.env with | true => some (.normal, s') | false => none)
        | false => some (.normal, s')
      | none => none
    | .seq a b => match exec cfg k cur a s with
      | some (.normal, s') => exec cfg k cur b s'
      | r => r
    | .cond c a b => match condA cfg s c with
      | some true => exec cfg k cur a s
      | some false => exec cfg k cur b s
      | none => none
    | .block id b => match exec cfg k cur b s with
      | some (.exit id', s') => if id' = id then some (.normal, s') else some (.exit id', s')
      | r => r
    | .loop b => match exec cfg k cur b s with
      | some (.normal, s') => exec cfg k cur (.loop b) s'
      | r => r
    | .exit id => some (.exit id, s)
    | .ret => some (.ret, s)
    | _ => none
end Go.Proofs.YtddaogebacigbaaGreatDoor.RV
