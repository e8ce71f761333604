/- What simp knows of states: a region's operations one by one, never both ways at once. -/
import Derived.Test.YtofomnllcmgfeaaAv13
set_option linter.unusedVariables false
namespace Go.Av
open Go

section
variable (P : Program) (N : Nat) (ops : Array Oper) (K : St → Prop) (o : Oper) (rest : List Oper) (s : St)
def EvK (r : Option (M × List Ob)) : Prop :=
  match r with
  | some (m, ob') => awpOps P N ops K rest ⟨putO s.fr o.dst m, ob'⟩
  | none => False
def CallK (c : Option (FuncId × List M)) : Prop :=
  match c with
  | some (f, args) => Den P f args s.ob fun r ob' => awpOps P N ops K rest ⟨putO s.fr o.dst r, ob'⟩
  | none => EvK P N ops K o rest s (evOp P s.fr s.ob o.op o.type)
def GuardK (g : Option Bool) : Prop :=
  match g with
  | some true => CallK P N ops K o rest s (callOf P s.ob s.fr o.op)
  | some false => awpOps P N ops K rest ⟨putO s.fr o.dst (.tup []), s.ob⟩
  | none => False
def DstK (b : Bool) : Prop :=
  match b with
  | true => GuardK P N ops K o rest s (guardV ops s.fr o)
  | false => False
@[simp] theorem awpOps_nil : awpOps P N ops K [] s = K s := rfl
@[simp] theorem awpOps_cons : awpOps P N ops K (o :: rest) s = DstK P N ops K o rest s (dstOK N o) := by
  unfold awpOps DstK
  cases h : dstOK N o with
  | false => simp
  | true =>
    simp only [if_true, GuardK]
    cases h2 : guardV ops s.fr o with
    | none => rfl
    | some g =>
      cases g with
      | false => simp
      | true =>
        simp only [if_true, CallK]
        cases h3 : callOf P s.ob s.fr o.op with
        | none =>
          simp only [EvK]
          cases evOp P s.fr s.ob o.op o.type <;> rfl
        | some c => rfl
@[simp] theorem DstK_true : DstK P N ops K o rest s true = GuardK P N ops K o rest s (guardV ops s.fr o) := rfl
@[simp] theorem GuardK_true : GuardK P N ops K o rest s (some true) = CallK P N ops K o rest s (callOf P s.ob s.fr o.op) := rfl
@[simp] theorem GuardK_false : GuardK P N ops K o rest s (some false) = awpOps P N ops K rest ⟨putO s.fr o.dst (.tup []), s.ob⟩ := rfl
@[simp] theorem CallK_none : CallK P N ops K o rest s none = EvK P N ops K o rest s (evOp P s.fr s.ob o.op o.type) := rfl
@[simp] theorem CallK_some (f : FuncId) (args : List M) : CallK P N ops K o rest s (some (f, args)) = Den P f args s.ob fun r ob' => awpOps P N ops K rest ⟨putO s.fr o.dst r, ob'⟩ := rfl
@[simp] theorem EvK_some (m : M) (ob' : List Ob) : EvK P N ops K o rest s (some (m, ob')) = awpOps P N ops K rest ⟨putO s.fr o.dst m, ob'⟩ := rfl
@[simp] theorem EvK_none : EvK P N ops K o rest s none = False := rfl
end

attribute [simp] putO put get dstOK callOf mapArgs evOp evBuiltin opM constM asB asI loadM storeM cellsM indexAddrM indexM lenM binM unM pint pshift pstr nilOK obAt liveS mkIfaceM unfaceM methM assertM minmaxM capM getElem?_snoc
  thenA inBlockA postOf resOf resM slots keep mapOp opO newOb extractM fieldAddrM fieldM partM sliceM boundM makeSliceM allocM boxM convM nilRes appendM newsM isSrcT buildSliceM fillM zerosM downs bytesM isStrM buildM placeM isNilSl isNilPt nilSl nilPt binNil eqPt usdM ustrM copyM rangeM nextM deadOb iterOb

@[simp] theorem with_some_ (ob : List Ob) (m : M) : with_ ob (some m) = some (m, ob) := rfl
@[simp] theorem with_none_ (ob : List Ob) : with_ ob none = none := rfl

/-- The guard's own value. -/
def gBool (b : Bool) : M → Option Bool
  | .c (.v (.bool x)) => some (x == b)
  | .tup [] => some false
  | _ => none
@[simp] theorem gBool_bool (b x : Bool) : gBool b (.c (.v (.bool x))) = some (x == b) := rfl
@[simp] theorem gBool_skip (b : Bool) : gBool b (.tup []) = some false := rfl
@[simp] theorem guardV_none (ops : Array Oper) (fr : List (Nat × M)) (d : Option Nat) (op : Op) (ty : TypeId) (pos : String) (after : Array Edge) : guardV ops fr ⟨d, op, ty, pos, after, none⟩ = some true := rfl
@[simp] theorem guardV_some (ops : Array Oper) (fr : List (Nat × M)) (d : Option Nat) (op : Op) (ty : TypeId) (pos : String) (after : Array Edge) (j : Nat) (b : Bool) :
    guardV ops fr ⟨d, op, ty, pos, after, some (j, b)⟩ = ((((ops[j]?).bind (·.dst)).bind (get fr)).bind (gBool b)) := by
  unfold guardV
  simp only
  cases (ops[j]?).bind (·.dst) with
  | none => rfl
  | some d =>
    simp only [Option.bind_some]
    cases get fr d with
    | none => rfl
    | some m =>
      simp only [Option.bind_some]
      unfold gBool
      split <;> simp_all

@[simp] theorem pbin_int (P : Program) (op : BinOp) (t : TypeId) (k : IntKind) (a b : Int) : pbin P op t (.int k a) (.int k b) = (match op with | .shl | .shr => pshift op k a b | _ => pint op k a b) := by
  cases op <;> simp [pbin]
@[simp] theorem pbin_ptr (P : Program) (op : BinOp) (t : TypeId) (a : Option Addr) (b : Value) : pbin P op t (.pointer a) b = none := by cases b <;> rfl
@[simp] theorem pbin_slice (P : Program) (op : BinOp) (t : TypeId) (a : Option Addr) (n c : Nat) (b : Value) : pbin P op t (.slice a n c) b = none := by cases b <;> rfl
@[simp] theorem pbin_shr (P : Program) (t : TypeId) (k k' : IntKind) (a b : Int) : pbin P .shr t (.int k a) (.int k' b) = pshift .shr k a b := rfl
@[simp] theorem pbin_shl (P : Program) (t : TypeId) (k k' : IntKind) (a b : Int) : pbin P .shl t (.int k a) (.int k' b) = pshift .shl k a b := rfl
@[simp] theorem pbin_bool_eql (P : Program) (t : TypeId) (a b : Bool) (h : P.underlying t = some .bool) : pbin P .eql t (.bool a) (.bool b) = some (.bool (decide (a = b))) := by simp [pbin, h]
@[simp] theorem pbin_bool_neq (P : Program) (t : TypeId) (a b : Bool) (h : P.underlying t = some .bool) : pbin P .neq t (.bool a) (.bool b) = some (.bool (!decide (a = b))) := by simp [pbin, h]
@[simp] theorem pbin_str (P : Program) (op : BinOp) (t : TypeId) (a b : ByteArray) : pbin P op t (.string a) (.string b) = pstr op a b := rfl

attribute [simp] Value.oneCell' downs_up
@[simp] theorem length_up (cs : List C) : (up cs).length = cs.length := by simp [up]
@[simp] theorem up_snoc (cs : List C) (x : C) : up cs ++ [.c x] = up (cs ++ [x]) := by simp [up]
@[simp] theorem up_append (a b : List C) : up a ++ up b = up (a ++ b) := by simp [up]
@[simp] theorem getElem?_up (cs : List C) (j : Nat) : (up cs)[j]? = cs[j]?.map M.c := by simp [up]
@[simp] theorem set_up (cs : List C) (j : Nat) (x : C) : (up cs).set j (.c x) = up (cs.set j x) := by simp [up]
@[simp] theorem drop_up (cs : List C) (j : Nat) : (up cs).drop j = up (cs.drop j) := by simp [up]
@[simp] theorem take_up (cs : List C) (j : Nat) : (up cs).take j = up (cs.take j) := by simp [up]
@[simp] theorem up_nil : up [] = [] := rfl

/-! ### cells laid -/
@[simp] theorem lay_one (cs : List M) (off : Nat) (m : M) : lay cs off [m] = cs.set off m := rfl
@[simp] theorem lay_two (cs : List M) (off : Nat) (a b : M) (r : List M) : lay cs off (a :: b :: r) = cs.take off ++ ((a :: b :: r) ++ cs.drop (off + (a :: b :: r).length)) := rfl
@[simp] theorem lay_whole (cs ms : List M) (h : ms.length = cs.length) : lay cs 0 ms = ms := by
  unfold lay
  split
  · rename_i m
    match cs, h with
    | [c], _ => rfl
  · rw [List.take_zero, List.nil_append, Nat.zero_add, h, List.drop_length, List.append_nil]
theorem lay_app (cs : List M) (off : Nat) (ms : List M) (h : off + ms.length ≤ cs.length) : lay cs off ms = cs.take off ++ (ms ++ cs.drop (off + ms.length)) := by
  unfold lay
  split
  · rename_i m
    rw [List.set_eq_take_append_cons_drop, if_pos (by simp at h; omega)]
    rfl
  · rfl
/-! ### objects in a row -/
@[simp] theorem ob_get0 (pre suf : List Ob) (o : Ob) : (pre ++ o :: suf)[pre.length]? = some o := by simp
@[simp] theorem ob_get1 (pre suf : List Ob) (o o1 : Ob) : (pre ++ o :: o1 :: suf)[pre.length + 1]? = some o1 := by
  rw [List.getElem?_append_right (by omega)]; simp
@[simp] theorem ob_get2 (pre suf : List Ob) (o o1 o2 : Ob) : (pre ++ o :: o1 :: o2 :: suf)[pre.length + 2]? = some o2 := by
  rw [List.getElem?_append_right (by omega)]; simp
@[simp] theorem ob_get3 (pre suf : List Ob) (o o1 o2 o3 : Ob) : (pre ++ o :: o1 :: o2 :: o3 :: suf)[pre.length + 3]? = some o3 := by
  rw [List.getElem?_append_right (by omega)]; simp
@[simp] theorem ob_set0 (pre suf : List Ob) (o x : Ob) : (pre ++ o :: suf).set pre.length x = pre ++ x :: suf := by
  rw [List.set_append_right _ _ (by omega)]; simp
@[simp] theorem ob_set1 (pre suf : List Ob) (o o1 x : Ob) : (pre ++ o :: o1 :: suf).set (pre.length + 1) x = pre ++ o :: x :: suf := by
  rw [List.set_append_right _ _ (by omega)]; simp
@[simp] theorem ob_set2 (pre suf : List Ob) (o o1 o2 x : Ob) : (pre ++ o :: o1 :: o2 :: suf).set (pre.length + 2) x = pre ++ o :: o1 :: x :: suf := by
  rw [List.set_append_right _ _ (by omega)]; simp
@[simp] theorem ob_set3 (pre suf : List Ob) (o o1 o2 o3 x : Ob) : (pre ++ o :: o1 :: o2 :: o3 :: suf).set (pre.length + 3) x = pre ++ o :: o1 :: o2 :: x :: suf := by
  rw [List.set_append_right _ _ (by omega)]; simp
/-! ### typed data -/
def iC (x : Int) : C := .v (.int .i64 x)
def bC (b : Bool) : C := .v (.bool b)
def intsC (xs : List Int) : C := .sl (xs.map iC) xs.length false
def rowsC (v : List (List Int)) : C := .sl (v.map intsC) v.length false

end Go.Av
