/- The operations on abstract values. -/
import Derived.Test.YtofomnllcmgfeaaAv1
set_option linter.unusedVariables false
set_option linter.unusedSimpArgs false
namespace Go.Av
open Go

/-! ### slots -/
def get : List (Nat × M) → Nat → Option M
  | [], _ => none
  | (u, m) :: r, t => if u = t then some m else get r t
def put (fr : List (Nat × M)) (t : Nat) (m : M) : List (Nat × M) := (t, m) :: fr
def keep (fr : List (Nat × M)) : List Nat → List (Nat × M)
  | [] => []
  | t :: ts => match get fr t with
    | some m => (t, m) :: keep fr ts
    | none => keep fr ts

def constM (x : Value) : Option M :=
  match x with
  | .agg cs => if cs.all one1 then some (.agg (cs.toList.map fun z => .c (.v z))) else none
  | .tuple _ => none
  | x => some (.c (.v x))
def opM (fr : List (Nat × M)) : Operand → Option M
  | .tmp t => get fr t
  | .const x => constM x
  | .func f => some (.c (.v (.func (.func f) #[] #[])))
  | .global _ => none

/-- The cells of a value. -/
def cellsM : M → Option (List M)
  | .agg ms => some ms
  | .tup _ => none
  | .junk => none
  | .c (.v x) => if one1 x then some [.c (.v x)] else none
  | m => some [m]
def up (cs : List C) : List M := cs.map M.c
/-- Closed cells. -/
def downs : List M → Option (List C)
  | [] => some []
  | .c x :: r => (downs r).map (x :: ·)
  | _ :: _ => none
theorem downs_up (cs : List C) : downs (up cs) = some cs := by
  induction cs with
  | nil => rfl
  | cons c cs ih => simp only [up, List.map_cons, downs] at *; rw [ih]; rfl
theorem up_downs {ms : List M} {cs : List C} (h : downs ms = some cs) : ms = up cs := by
  induction ms generalizing cs with
  | nil => simp [downs] at h; subst h; rfl
  | cons m ms ih =>
    cases m with
    | c x =>
      simp only [downs, Option.map_eq_some_iff] at h
      obtain ⟨r, hr, rfl⟩ := h
      rw [ih hr]; rfl
    | _ => simp [downs] at h

/-! ### the program's tables -/
def szT (P : Program) (t : TypeId) : Nat := P.cellsOf t
def okT (P : Program) (t : TypeId) : Bool := (P.underlying t).isSome
def isAggT (P : Program) (t : TypeId) : Bool :=
  match P.underlying t with
  | some (.struct _) | some (.array _ _) => true
  | _ => false
/-- A type's zero value, as cells. -/
def zeroT (P : Program) (t : TypeId) : Option (List M) :=
  match (P.info? t).bind (·.zero) with
  | some z => (constM z).bind cellsM
  | none => none

/-! ### numbers, strings, bools -/
def andI (k : IntKind) (a b : Int) : Int := k.wrap ((BitVec.ofInt k.bits a &&& BitVec.ofInt k.bits b).toNat : Int)
def orI (k : IntKind) (a b : Int) : Int := k.wrap ((BitVec.ofInt k.bits a ||| BitVec.ofInt k.bits b).toNat : Int)
def xorI (k : IntKind) (a b : Int) : Int := k.wrap ((BitVec.ofInt k.bits a ^^^ BitVec.ofInt k.bits b).toNat : Int)
def andNotI (k : IntKind) (a b : Int) : Int := k.wrap ((BitVec.ofInt k.bits a &&& ~~~ BitVec.ofInt k.bits b).toNat : Int)
def notI (k : IntKind) (n : Int) : Int := k.wrap ((BitVec.ofInt k.bits (if k.signed then -1 else k.max) ^^^ BitVec.ofInt k.bits n).toNat : Int)
def pint (op : BinOp) (k : IntKind) (a b : Int) : Option Value :=
  match op with
  | .add => some (.int k (k.wrap (a + b)))
  | .sub => some (.int k (k.wrap (a - b)))
  | .mul => some (.int k (k.wrap (a * b)))
  | .quo => if b = 0 then none else some (.int k (k.wrap (a.tdiv b)))
  | .rem => if b = 0 then none else some (.int k (a.tmod b))
  | .and => some (.int k (andI k a b))
  | .or => some (.int k (orI k a b))
  | .xor => some (.int k (xorI k a b))
  | .andNot => some (.int k (andNotI k a b))
  | .eql => some (.bool (decide (a = b)))
  | .neq => some (.bool (!decide (a = b)))
  | .lss => some (.bool (decide (a < b)))
  | .leq => some (.bool (decide (a ≤ b)))
  | .gtr => some (.bool (decide (a > b)))
  | .geq => some (.bool (decide (a ≥ b)))
  | _ => none
def pshift (op : BinOp) (k : IntKind) (a b : Int) : Option Value :=
  if b < 0 then none else
  match op with
  | .shl => some (.int k (k.wrap (a * 2 ^ (min b.toNat k.bits))))
  | .shr => some (.int k (a.fdiv (2 ^ (min b.toNat k.bits))))
  | _ => none
def pstr (op : BinOp) (a b : ByteArray) : Option Value :=
  match op with
  | .add => if a.size + b.size ≤ 9223372036854775807 then some (.string (a ++ b)) else none
  | .eql => some (.bool (decide (a.toList = b.toList)))
  | .neq => some (.bool (!decide (a.toList = b.toList)))
  | .lss => some (.bool (Op.bytesLess a.toList b.toList))
  | .leq => some (.bool (Op.bytesLess a.toList b.toList || decide (a.toList = b.toList)))
  | .gtr => some (.bool (!(Op.bytesLess a.toList b.toList || decide (a.toList = b.toList))))
  | .geq => some (.bool (!(Op.bytesLess a.toList b.toList)))
  | _ => none
def pbin (P : Program) (op : BinOp) (t : TypeId) : Value → Value → Option Value
  | .int k a, .int k' b =>
    match op with
    | .shl | .shr => pshift op k a b
    | _ => if k = k' then pint op k a b else none
  | .string a, .string b => pstr op a b
  | .bool a, .bool b =>
    match P.underlying t, op with
    | some .bool, .eql => some (.bool (decide (a = b)))
    | some .bool, .neq => some (.bool (!decide (a = b)))
    | _, _ => none
  | _, _ => none
def obAt (ob : List Ob) (i g : Nat) : Option Ob :=
  match ob[i]? with
  | some o => if g = o.gen then (if o.nil then none else (if o.iter.isSome then none else some o)) else none
  | none => none
/-- An object that this generation's slices still lead to. -/
def liveS (ob : List Ob) (i g : Nat) : Option Ob :=
  match ob[i]? with
  | some o => if g = o.gen then (if o.iter.isSome then none else some o) else none
  | none => none
/-- Is a slice nil? Is a pointer? -/
def nilSl (ob : List Ob) : M → Option Bool
  | .c (.v (.slice none _ _)) => some true
  | .c (.sl _ n _) => if n = 0 then none else some false
  | .ms i g _ _ => match liveS ob i g with
    | some o => some o.nil
    | none => none
  | _ => none
def nilPt (ob : List Ob) : M → Option Bool
  | .c (.v (.pointer none)) => some true
  | .c (.ptr _) => some false
  | .mp i g _ => match obAt ob i g with
    | some _ => some false
    | none => none
  | _ => none
/-! ### arrays and structs, held against each other -/
/-- The kinds of a type's cells, where all are plain: 0 a whole number, 1 a bool, 2 a string. -/
def leavesT (P : Program) : Nat → TypeId → Option (List Nat)
  | 0, _ => none
  | d + 1, t =>
    match P.underlying t with
    | some .bool => some [1]
    | some (.int _) => some [0]
    | some .string => some [2]
    | some (.array n e) => match leavesT P d e with
      | some l => if l.length = szT P e ∧ 0 < l.length then (if okT P e then (if isAggT P e then some (List.replicate n l).flatten else (if l.length = 1 then some (List.replicate n l).flatten else none)) else none) else none
      | none => none
    | some (.struct fs) => if P.stoodInHeld t then none else
      (fs.toList.foldl (fun acc f => match acc, leavesT P d f.type with
        | some l, some k => if f.name ≠ "_" then (if f.offset = l.length then (if k.length = szT P f.type ∧ 0 < k.length then (if okT P f.type then (if isAggT P f.type then some (l ++ k) else (if k.length = 1 then some (l ++ k) else none)) else none) else none) else none) else none
        | _, _ => none) (some []))
    | _ => none
def leavesX (P : Program) (t : TypeId) : Option (List Nat) := if P.eqGuardType P.depth t then none else if isAggT P t then leavesT P 12 t else none
def eqLeaf : Nat → M → M → Option Bool
  | 0, .c (.v (.int k a)), .c (.v (.int k' b)) => if k = k' then some (decide (a = b)) else none
  | 1, .c (.v (.bool a)), .c (.v (.bool b)) => some (decide (a = b))
  | 2, .c (.v (.string a)), .c (.v (.string b)) => some (decide (a.toList = b.toList))
  | _, _, _ => none
def eqM : List Nat → List M → List M → Option Bool
  | [], [], [] => some true
  | k :: ks, a :: r, b :: s => match eqLeaf k a b, eqM ks r s with
    | some x, some y => some (x && y)
    | _, _ => none
  | _, _, _ => none
def isNilSl : M → Bool
  | .c (.v (.slice none _ _)) => true
  | _ => false
def isNilPt : M → Bool
  | .c (.v (.pointer none)) => true
  | _ => false
def nilRes (op : BinOp) : Option Bool → Option Value
  | some b => match op with
    | .eql => some (.bool b)
    | .neq => some (.bool (!b))
    | _ => none
  | none => none
/-- Are two pointers into the same object the same? -/
def eqPt (ob : List Ob) : M → M → Option Bool
  | .mp i g off, .mp j g' off' => if i = j then (match obAt ob i g, obAt ob j g' with
    | some _, some _ => some (decide (off = off'))
    | _, _ => none) else none
  | _, _ => none
def binNil (P : Program) (ob : List Ob) (op : BinOp) (t : TypeId) (x y : M) : Option Value :=
  match P.underlying t with
  | some (.slice _) => nilRes op (if isNilSl y then nilSl ob x else if isNilSl x then nilSl ob y else none)
  | some (.pointer te) => nilRes op (if isNilPt y then nilPt ob x else if isNilPt x then nilPt ob y else if okT P te then (if szT P te = 0 then none else eqPt ob x y) else none)
  | _ => none
def binM (P : Program) (ob : List Ob) (op : BinOp) (t : TypeId) (x y : M) : Option M :=
  match x, y with
  | .c (.v a), .c (.v b) => match pbin P op t a b with
    | some r => some (.c (.v r))
    | none => (binNil P ob op t x y).map fun r => .c (.v r)
  | .agg a, .agg b => match leavesX P t with
    | some ks => (nilRes op (eqM ks a b)).map fun r => .c (.v r)
    | none => none
  | _, _ => (binNil P ob op t x y).map fun r => .c (.v r)
def unM (op : UnOp) : M → Option M
  | .c (.v (.bool b)) => match op with
    | .not => some (.c (.v (.bool (!b))))
    | _ => none
  | .c (.v (.int k n)) => match op with
    | .neg => some (.c (.v (.int k (k.wrap (0 - n)))))
    | .xor => some (.c (.v (.int k (notI k n))))
    | _ => none
  | _ => none

/-! ### memory -/
/-- Cells laid over others from a place on. -/
def lay (cs : List M) (off : Nat) (ms : List M) : List M :=
  match ms with
  | [m] => cs.set off m
  | _ => cs.take off ++ (ms ++ cs.drop (off + ms.length))
def loadM (P : Program) (ob : List Ob) (t : TypeId) : M → Option M
  | .c (.ptr cs) => if isAggT P t then (if szT P t ≤ cs.length then some (.agg (up (cs.take (szT P t)))) else none) else (cs[0]?).map M.c
  | .mp i g off => match obAt ob i g with
    | some o => if isAggT P t then (if off + szT P t ≤ o.cs.length then some (.agg ((o.cs.drop off).take (szT P t))) else none) else o.cs[off]?
    | none => none
  | _ => none
def storeM (P : Program) (ob : List Ob) (t : TypeId) (a x : M) : Option (List Ob) :=
  match a, cellsM x with
  | .mp i g off, some ms => match obAt ob i g with
    | some o => if ms.length = szT P t then (if off + ms.length ≤ o.cs.length then some (ob.set i { o with cs := lay o.cs off ms }) else none) else none
    | none => none
  | _, _ => none
def asI : M → Option Int
  | .c (.v (.int _ i)) => some i
  | _ => none
def indexAddrM (P : Program) (ob : List Ob) (t : TypeId) (x ix : M) : Option M :=
  match asI ix with
  | none => none
  | some i =>
    match P.underlying t, x with
    | some (.slice e), .c (.sl cs n _) => if 0 ≤ i then (if i < n then some (.c (.ptr (cs.drop (i.toNat * szT P e)))) else none) else none
    | some (.slice e), .ms id g off n => match liveS ob id g with
      | some _ => if 0 ≤ i then (if i < n then some (.mp id g (off + i.toNat * szT P e)) else none) else none
      | none => none
    | some (.array len e), .mp id g off => match obAt ob id g with
      | some _ => if 0 ≤ i then (if i < len then (if len ≤ 1 then none else some (.mp id g (off + i.toNat * szT P e))) else none) else none
      | none => none
    | some (.array len e), .c (.ptr cs) => if 0 ≤ i then (if i < len then some (.c (.ptr (cs.drop (i.toNat * szT P e)))) else none) else none
    | _, _ => none
def partM (P : Program) (t : TypeId) (ms : List M) (off : Nat) : Option M :=
  if isAggT P t then (if off + szT P t ≤ ms.length then some (.agg ((ms.drop off).take (szT P t))) else none) else ms[off]?
def byteAt (s : ByteArray) (i : Nat) : Int := ((s.toList.getD i 0).toNat : Int)
def indexM (P : Program) (t : TypeId) (x ix : M) : Option M :=
  match asI ix with
  | none => none
  | some i =>
    match P.underlying t, x with
    | some (.array len e), .agg ms => if 0 ≤ i then (if i < len then partM P e ms (i.toNat * szT P e) else none) else none
    | some .string, .c (.v (.string s)) => if 0 ≤ i then (if i < s.size then some (.c (.v (.int .u8 (byteAt s i.toNat)))) else none) else none
    | _, _ => none
def fieldM (P : Program) (t : TypeId) (x : M) (f : Nat) : Option M :=
  match P.underlying t, x with
  | some (.struct fs), .agg ms => match fs[f]? with
    | some q => partM P q.type ms q.offset
    | none => none
  | _, _ => none
def fieldAddrM (P : Program) (ob : List Ob) (t : TypeId) (x : M) (f : Nat) : Option M :=
  match P.underlying t with
  | some (.struct fs) => match fs[f]? with
    | some q => if szT P q.type = 0 then none else
      match x with
      | .c (.ptr cs) => some (.c (.ptr (cs.drop q.offset)))
      | .mp i g off => match obAt ob i g with
        | some _ => some (.mp i g (off + q.offset))
        | none => none
      | _ => none
    | none => none
  | _ => none
def newOb (ob : List Ob) (ty sz : Nat) (cs : List M) : List Ob := ob ++ [{ ty := ty, sz := sz, nil := false, gen := 0, cs := cs }]
def lenM (P : Program) (ob : List Ob) (t : TypeId) : M → Option Int
  | .c (.v (.string s)) => match P.underlying t with
    | some .string => some s.size
    | _ => none
  | .c (.v (.slice none n _)) => match P.underlying t with
    | some (.slice _) => some n
    | _ => none
  | .c (.sl _ n _) => match P.underlying t with
    | some (.slice _) => some n
    | _ => none
  | .ms i g _ n => match P.underlying t, liveS ob i g with
    | some (.slice _), some _ => some n
    | _, _ => none
  | .agg _ => match P.underlying t with
    | some (.array n _) => some n
    | _ => none
  | _ => none
/-- What is appended: its cells, and how many elements. -/
def newsM (ob : List Ob) (sz : Nat) : M → Option (List M × Nat)
  | .c (.v (.slice none 0 0)) => some ([], 0)
  | .c (.v (.string s)) => if sz = 1 then some (up (s.toList.map fun b => .v (.int .u8 (b.toNat : Int))), s.size) else none
  | .c (.sl cs n _) => if cs.length = n * sz then some (up cs, n) else none
  | .ms i g off n => match liveS ob i g with
    | some o => if o.nil then some ([], 0) else (if off + n * sz ≤ o.cs.length then some ((o.cs.drop off).take (n * sz), n) else none)
    | none => none
  | _ => none
def roomB : Nat := 140737488355328
/-- Is it a type whose elements append copies: a slice's, or string? -/
def isSrcT (P : Program) (t : TypeId) (x : M) : Bool :=
  match P.underlying t, x with
  | some .string, .c (.v (.string _)) => true
  | some (.slice _), .c (.v (.string _)) => false
  | some (.slice _), _ => true
  | _, _ => false
def appendM (P : Program) (ob : List Ob) (t tx : TypeId) (s x : M) : Option (M × List Ob) :=
  match P.underlying t with
  | some (.slice e) =>
    if isSrcT P tx x = false then none else
    match newsM ob (szT P e) x with
    | none => none
    | some (ns, n') =>
      match s with
      | .ms i g off n => match liveS ob i g with
        | some o => if off = 0 then (if o.ty = e then (if o.sz = szT P e then (if n * szT P e = o.cs.length then (if 0 < P.bytesOf e then (if (n + n') * P.bytesOf e ≤ roomB then
            some (.ms i (g + 1) 0 (n + n'), ob.set i { o with nil := o.nil && n' == 0, gen := g + 1, cs := o.cs ++ ns }) else none) else none) else none) else none) else none) else none
        | none => none
      | .c (.v (.slice none 0 0)) =>
        if n' = 0 then some (s, ob) else if 0 < P.bytesOf e then (if n' * P.bytesOf e ≤ roomB then some (.ms ob.length 0 0 n', newOb ob e (szT P e) ns) else none) else none
      | .c (.sl cs n true) =>
        if n' = 0 then some (s, ob) else if cs.length = n * szT P e then (if 0 < P.bytesOf e then (if (n + n') * P.bytesOf e ≤ roomB then some (.ms ob.length 0 0 (n + n'), newOb ob e (szT P e) (up cs ++ ns)) else none) else none) else none
      | _ => none
  | _ => none

/-! ### what is made -/
/-- The elements' size, of a block that may be sliced. -/
def szOb (P : Program) (e : TypeId) : Nat :=
  match P.underlying e with
  | some (.array _ el) => szT P el
  | _ => szT P e
def isBytesT (P : Program) (t : TypeId) : Bool :=
  match P.underlying t with
  | some (.array _ el) => (match P.underlying el with
    | some (.int .u8) => true
    | _ => false)
  | _ => false
/-- The same, of a block that holds a parameter: a struct's arrays of bytes may be sliced. -/
def szBx (P : Program) (e : TypeId) : Nat :=
  match P.underlying e with
  | some (.array _ el) => szT P el
  | some (.struct fs) => if fs.any (fun f => isBytesT P f.type) then 1 else szT P e
  | _ => szT P e
def allocM (P : Program) (ob : List Ob) (e : TypeId) : Option (M × List Ob) :=
  match zeroT P e with
  | some ms => some (.mp ob.length 0 0, newOb ob e (szOb P e) ms)
  | none => none
def boxM (P : Program) (ob : List Ob) (e : TypeId) (x : M) : Option (M × List Ob) :=
  match cellsM x with
  | some ms => some (.mp ob.length 0 0, newOb ob e (szBx P e) ms)
  | none => none
def fillM (place : Nat → Option (Nat × Nat)) (cells : List M) : List (Nat × M) → Option (List M)
  | [] => some cells
  | (i, m) :: r => match place i, cellsM m with
    | some (off, size), some ms => if ms.length = size then (if off + ms.length ≤ cells.length then fillM place (lay cells off ms) r else none) else none
    | _, _ => none
def placeM (P : Program) (t : TypeId) (i : Nat) : Option (Nat × Nat) :=
  match P.underlying t with
  | some (.struct fs) => (fs[i]?).map fun f => (f.offset, szT P f.type)
  | some (.array _ e) => some (i * szT P e, szT P e)
  | _ => none
def buildM (P : Program) (t : TypeId) (parts : List (Nat × M)) : Option M :=
  if isAggT P t then
    match zeroT P t with
    | some zs => (fillM (placeM P t) zs parts).map M.agg
    | none => none
  else none
def zerosM (len : Nat) (zs : List M) : List M := (List.replicate len zs).flatten
def buildSliceM (P : Program) (t : TypeId) (len : Nat) (parts : List (Nat × M)) : Option M :=
  match P.underlying t with
  | some (.slice e) => if len * szT P e ≤ 16777216 then
      (match zeroT P e with
      | some zs => if zs.length = szT P e then (match fillM (fun i => some (i * szT P e, szT P e)) (zerosM len zs) parts with
          | some ms => (downs ms).map fun cs => .c (.sl cs len true)
          | none => none) else none
      | none => none) else none
  | _ => none
def makeSliceM (P : Program) (ob : List Ob) (t : TypeId) (l c : M) : Option (M × List Ob) :=
  match P.underlying t, asI l, asI c with
  | some (.slice e), some n, some k =>
    if 0 ≤ n then (if n ≤ k then (if k * (P.bytesOf e : Int) ≤ 281474976710656 then (if k ≤ 281474976710656 then
      (match zeroT P e with
      | some zs => if zs.length = szT P e then some (.ms ob.length 0 0 n.toNat, newOb ob e (szT P e) (zerosM n.toNat zs)) else none
      | none => none) else none) else none) else none) else none
  | _, _, _ => none
def boundM (m : Option M) (d : Int) : Option Int :=
  match m with
  | none => some d
  | some x => asI x
def sliceM (P : Program) (ob : List Ob) (t : TypeId) (x : M) (lo hi mx : Option M) : Option M :=
  match P.underlying t with
  | some .string =>
    match x, mx with
    | .c (.v (.string s)), none => match boundM lo 0, boundM hi s.size with
      | some l, some h => if 0 ≤ l then (if l ≤ h then (if h ≤ s.size then some (.c (.v (.string (s.extract l.toNat h.toNat)))) else none) else none) else none
      | _, _ => none
    | _, _ => none
  | some (.slice e) =>
    match x with
    | .c (.sl cs n full) => match boundM lo 0, boundM hi n, boundM mx n with
      | some l, some h, some m => if 0 ≤ l then (if l ≤ h then (if h ≤ m then (if m ≤ n then (if cs.length = n * szT P e then
          some (.c (if l = h then .sl [] 0 false else .sl ((cs.drop (l.toNat * szT P e)).take ((h - l).toNat * szT P e)) (h - l).toNat (if mx.isSome then decide (m = h) else full && decide (h = n)))) else none) else none) else none) else none) else none
      | _, _, _ => none
    | .c (.v (.slice none 0 0)) => match boundM lo 0, boundM hi 0, mx with
      | some l, some h, none => if l = 0 then (if h = 0 then some x else none) else none
      | _, _, _ => none
    | .ms i g off n => match liveS ob i g, boundM lo 0, boundM hi n, mx with
      | some o, some l, some h, none => if 0 ≤ l then (if l ≤ h then (if h ≤ n then (if o.sz = szT P e then
          (if o.nil then some (.c (.v (.slice none 0 0))) else some (if l = h then .c (.sl [] 0 false) else .ms i g (off + l.toNat * szT P e) (h - l).toNat)) else none) else none) else none) else none
      | _, _, _, _ => none
    | _ => none
  | some (.array k e) =>
    match x with
    | .mp i g off => match obAt ob i g, boundM lo 0, boundM hi k, boundM mx k with
      | some o, some l, some h, some m => if 0 ≤ l then (if l < h then (if h ≤ m then (if m ≤ k then (if o.sz = szT P e then (if off + k * szT P e ≤ o.cs.length then
          some (.ms i g (off + l.toNat * szT P e) (h - l).toNat) else none) else none) else none) else none) else none) else none
      | _, _, _, _ => none
    | _ => none
  | _ => none
def bytesM : List M → Option (List UInt8)
  | [] => some []
  | .c (.v (.int .u8 n)) :: r => (bytesM r).map fun bs => UInt8.ofNat n.toNat :: bs
  | _ :: _ => none
def isStrM : M → Bool
  | .c (.v (.string _)) => true
  | _ => false
def convM (P : Program) (ob : List Ob) (src dst : TypeId) (x : M) : Option (M × List Ob) :=
  match P.underlying src, P.underlying dst, x with
  | some _, some (.int k), .c (.v (.int _ n)) => some (.c (.v (.int k (k.wrap n))), ob)
  | some _, some .string, .c (.v (.string s)) => some (x, ob)
  | some .string, some (.slice e), .c (.v (.string s)) => match P.underlying e with
    | some (.int .u8) => if szT P e = 1 then (if s.size ≤ 9223372036854775807 then some (.ms ob.length 0 0 s.size, newOb ob e 1 (up (s.toList.map fun b => .v (.int .u8 (b.toNat : Int))))) else none) else none
    | _ => none
  | some (.slice e), some .string, y => if isStrM y then none else match P.underlying e, newsM ob 1 y with
    | some (.int .u8), some (ns, _) => (bytesM ns).map fun bs => (.c (.v (.string ⟨bs.toArray⟩)), ob)
    | _, _ => none
  | some (.pointer t), some .unsafePointer, .mp i g off => match obAt ob i g with
    | some o => if okT P t then (if szT P t = 0 then none else (if off < o.cs.length then some (.mp i g off, ob) else none)) else none
    | none => none
  | some .unsafePointer, some (.pointer u), .mp i g off => match obAt ob i g with
    | some o => if off = 0 then (if o.ty = u then (if okT P u then (if szT P u = 0 then none else (if szT P u ≤ o.cs.length then some (.mp i g off, ob) else none)) else none) else none) else none
    | none => none
  | _, _, _ => none
def extractM (x : M) (i : Nat) : Option M :=
  match x with
  | .tup ms => ms[i]?
  | _ => none

end Go.Av
