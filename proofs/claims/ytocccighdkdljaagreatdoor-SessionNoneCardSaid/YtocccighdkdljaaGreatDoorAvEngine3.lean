/- 9 texts of the program logic over abstract values, joined: each is proved without any condition beyond its own words. -/
import Derived.Test.YtocccighdkdljaaGreatDoorAvEngine2
import Derived.Orders
import Derived.ShutString
import Derived.ChangeOld
import Derived.OpenShut
import Derived.SizedLaws
import Derived.ProofKit
import Derived.Deep.Slices
import Derived.Laws.Externs
/- What simp knows of states: a region's operations one by one, never both ways at once. -/
set_option linter.unusedVariables false
namespace Go.Av
open Go

section
variable (P : Program) (N : Nat) (ops : Array Oper) (K : St → Prop) (o : Oper) (rest : List Oper) (s : St)
def EvK (r : Option (M × List Ob)) : Prop :=
  match r with
  | some (m, ob') => awpOps P N ops K rest ⟨putO s.fr o.dst m, ob'⟩
  | none => False
def CallK (c : Option (FuncId × List M)) : Prop :=
  match c with
  | some (f, args) => Den P f args s.ob fun r ob' => awpOps P N ops K rest ⟨putO s.fr o.dst r, ob'⟩
  | none => if nextB o.op then NextW s.fr s.ob o.op fun m ob' => awpOps P N ops K rest ⟨putO s.fr o.dst m, ob'⟩ else EvK P N ops K o rest s (evOp P s.fr s.ob o.op o.type)
def GuardK (g : Option Bool) : Prop :=
  match g with
  | some true => CallK P N ops K o rest s (callOf P s.ob s.fr o.op)
  | some false => awpOps P N ops K rest ⟨putO s.fr o.dst (.tup []), s.ob⟩
  | none => False
def DstK (b : Bool) : Prop :=
  match b with
  | true => GuardK P N ops K o rest s (guardV ops s.fr o)
  | false => False
@[simp] theorem awpOps_nil : awpOps P N ops K [] s = K s := rfl
@[simp] theorem awpOps_cons : awpOps P N ops K (o :: rest) s = DstK P N ops K o rest s (dstOK N o) := by
  unfold awpOps DstK
  cases h : dstOK N o with
  | false => simp
  | true =>
    simp only [if_true, GuardK]
    cases h2 : guardV ops s.fr o with
    | none => rfl
    | some g =>
      cases g with
      | false => simp
      | true =>
        simp only [if_true, CallK]
        cases h3 : callOf P s.ob s.fr o.op with
        | none =>
          simp only [EvK]
          cases nextB o.op <;> cases evOp P s.fr s.ob o.op o.type <;> rfl
        | some c => rfl
@[simp] theorem DstK_true : DstK P N ops K o rest s true = GuardK P N ops K o rest s (guardV ops s.fr o) := rfl
@[simp] theorem GuardK_true : GuardK P N ops K o rest s (some true) = CallK P N ops K o rest s (callOf P s.ob s.fr o.op) := rfl
@[simp] theorem GuardK_false : GuardK P N ops K o rest s (some false) = awpOps P N ops K rest ⟨putO s.fr o.dst (.tup []), s.ob⟩ := rfl
@[simp] theorem CallK_none : CallK P N ops K o rest s none = if nextB o.op then NextW s.fr s.ob o.op fun m ob' => awpOps P N ops K rest ⟨putO s.fr o.dst m, ob'⟩ else EvK P N ops K o rest s (evOp P s.fr s.ob o.op o.type) := rfl
attribute [simp] nextB NextW NextP nextQ entryM mapAt nilMap isNilMap lookRes closeV oddOb makeMapM lookupM mapUpdateM isStrKey eM
@[simp] theorem CallK_some (f : FuncId) (args : List M) : CallK P N ops K o rest s (some (f, args)) = Den P f args s.ob fun r ob' => awpOps P N ops K rest ⟨putO s.fr o.dst r, ob'⟩ := rfl
@[simp] theorem EvK_some (m : M) (ob' : List Ob) : EvK P N ops K o rest s (some (m, ob')) = awpOps P N ops K rest ⟨putO s.fr o.dst m, ob'⟩ := rfl
@[simp] theorem EvK_none : EvK P N ops K o rest s none = False := rfl
end

attribute [simp] putO put get dstOK callOf mapArgs evOp evBuiltin opM constM asB asI loadM storeM cellsM indexAddrM indexM lenM binM binIf nilIfc nilLit unM pint pshift pstr nilOK obAt liveS mkIfaceM unfaceM methM assertM minmaxM capM getElem?_snoc
  thenA inBlockA postOf resOf resM slots keep mapOp opO newOb extractM fieldAddrM fieldM partM sliceM boundM makeSliceM allocM boxM convM nilRes appendM newsM isSrcT buildSliceM rowM fillM zerosM downs bytesM isStrM buildM placeM isNilSl isNilPt nilSl nilPt binNil eqPt usdM ustrM copyM rangeM nextM deadOb iterOb

@[simp] theorem with_some_ (ob : List Ob) (m : M) : with_ ob (some m) = some (m, ob) := rfl
@[simp] theorem with_none_ (ob : List Ob) : with_ ob none = none := rfl

def gBool (b : Bool) : M → Option Bool
  | .c (.v (.bool x)) => some (x == b)
  | .tup [] => some false
  | _ => none
@[simp] theorem gBool_bool (b x : Bool) : gBool b (.c (.v (.bool x))) = some (x == b) := rfl
@[simp] theorem gBool_skip (b : Bool) : gBool b (.tup []) = some false := rfl
@[simp] theorem guardV_none (ops : Array Oper) (fr : List (Nat × M)) (d : Option Nat) (op : Op) (ty : TypeId) (pos : String) (after : Array Edge) : guardV ops fr ⟨d, op, ty, pos, after, none⟩ = some true := rfl
@[simp] theorem guardV_some (ops : Array Oper) (fr : List (Nat × M)) (d : Option Nat) (op : Op) (ty : TypeId) (pos : String) (after : Array Edge) (j : Nat) (b : Bool) :
    guardV ops fr ⟨d, op, ty, pos, after, some (j, b)⟩ = ((((ops[j]?).bind (·.dst)).bind (get fr)).bind (gBool b)) := by
  unfold guardV
  simp only
  cases (ops[j]?).bind (·.dst) with
  | none => rfl
  | some d =>
    simp only [Option.bind_some]
    cases get fr d with
    | none => rfl
    | some m =>
      simp only [Option.bind_some]
      unfold gBool
      split <;> simp_all

@[simp] theorem pbin_int (P : Program) (op : BinOp) (t : TypeId) (k : IntKind) (a b : Int) : pbin P op t (.int k a) (.int k b) = (match op with | .shl | .shr => pshift op k a b | _ => pint op k a b) := by
  cases op <;> simp [pbin]
@[simp] theorem pbin_ptr (P : Program) (op : BinOp) (t : TypeId) (a : Option Addr) (b : Value) : pbin P op t (.pointer a) b = none := by cases b <;> rfl
@[simp] theorem pbin_slice (P : Program) (op : BinOp) (t : TypeId) (a : Option Addr) (n c : Nat) (b : Value) : pbin P op t (.slice a n c) b = none := by cases b <;> rfl
@[simp] theorem pbin_shr (P : Program) (t : TypeId) (k k' : IntKind) (a b : Int) : pbin P .shr t (.int k a) (.int k' b) = pshift .shr k a b := rfl
@[simp] theorem pbin_shl (P : Program) (t : TypeId) (k k' : IntKind) (a b : Int) : pbin P .shl t (.int k a) (.int k' b) = pshift .shl k a b := rfl
@[simp] theorem pbin_bool_eql (P : Program) (t : TypeId) (a b : Bool) (h : P.underlying t = some .bool) : pbin P .eql t (.bool a) (.bool b) = some (.bool (decide (a = b))) := by simp [pbin, h]
@[simp] theorem pbin_bool_neq (P : Program) (t : TypeId) (a b : Bool) (h : P.underlying t = some .bool) : pbin P .neq t (.bool a) (.bool b) = some (.bool (!decide (a = b))) := by simp [pbin, h]
@[simp] theorem pbin_str (P : Program) (op : BinOp) (t : TypeId) (a b : ByteArray) : pbin P op t (.string a) (.string b) = pstr op a b := rfl

attribute [simp] Value.oneCell' downs_up
@[simp] theorem length_up (cs : List C) : (up cs).length = cs.length := by simp [up]
@[simp] theorem up_snoc (cs : List C) (x : C) : up cs ++ [.c x] = up (cs ++ [x]) := by simp [up]
@[simp] theorem up_append (a b : List C) : up a ++ up b = up (a ++ b) := by simp [up]
@[simp] theorem getElem?_up (cs : List C) (j : Nat) : (up cs)[j]? = cs[j]?.map M.c := by simp [up]
@[simp] theorem set_up (cs : List C) (j : Nat) (x : C) : (up cs).set j (.c x) = up (cs.set j x) := by simp [up]
@[simp] theorem drop_up (cs : List C) (j : Nat) : (up cs).drop j = up (cs.drop j) := by simp [up]
@[simp] theorem take_up (cs : List C) (j : Nat) : (up cs).take j = up (cs.take j) := by simp [up]
@[simp] theorem up_nil : up [] = [] := rfl

@[simp] theorem lay_one (cs : List M) (off : Nat) (m : M) : lay cs off [m] = cs.set off m := rfl
@[simp] theorem lay_two (cs : List M) (off : Nat) (a b : M) (r : List M) : lay cs off (a :: b :: r) = cs.take off ++ ((a :: b :: r) ++ cs.drop (off + (a :: b :: r).length)) := rfl
@[simp] theorem lay_whole (cs ms : List M) (h : ms.length = cs.length) : lay cs 0 ms = ms := by
  unfold lay
  split
  · rename_i m
    match cs, h with
    | [c], _ => rfl
  · rw [List.take_zero, List.nil_append, Nat.zero_add, h, List.drop_length, List.append_nil]
theorem lay_app (cs : List M) (off : Nat) (ms : List M) (h : off + ms.length ≤ cs.length) : lay cs off ms = cs.take off ++ (ms ++ cs.drop (off + ms.length)) := by
  unfold lay
  split
  · rename_i m
    rw [List.set_eq_take_append_cons_drop, if_pos (by simp at h; omega)]
    rfl
  · rfl
@[simp] theorem ob_get0 (pre suf : List Ob) (o : Ob) : (pre ++ o :: suf)[pre.length]? = some o := by simp
@[simp] theorem ob_get1 (pre suf : List Ob) (o o1 : Ob) : (pre ++ o :: o1 :: suf)[pre.length + 1]? = some o1 := by
  rw [List.getElem?_append_right (by omega)]; simp
@[simp] theorem ob_get2 (pre suf : List Ob) (o o1 o2 : Ob) : (pre ++ o :: o1 :: o2 :: suf)[pre.length + 2]? = some o2 := by
  rw [List.getElem?_append_right (by omega)]; simp
@[simp] theorem ob_get3 (pre suf : List Ob) (o o1 o2 o3 : Ob) : (pre ++ o :: o1 :: o2 :: o3 :: suf)[pre.length + 3]? = some o3 := by
  rw [List.getElem?_append_right (by omega)]; simp
@[simp] theorem ob_set0 (pre suf : List Ob) (o x : Ob) : (pre ++ o :: suf).set pre.length x = pre ++ x :: suf := by
  rw [List.set_append_right _ _ (by omega)]; simp
@[simp] theorem ob_set1 (pre suf : List Ob) (o o1 x : Ob) : (pre ++ o :: o1 :: suf).set (pre.length + 1) x = pre ++ o :: x :: suf := by
  rw [List.set_append_right _ _ (by omega)]; simp
@[simp] theorem ob_set2 (pre suf : List Ob) (o o1 o2 x : Ob) : (pre ++ o :: o1 :: o2 :: suf).set (pre.length + 2) x = pre ++ o :: o1 :: x :: suf := by
  rw [List.set_append_right _ _ (by omega)]; simp
@[simp] theorem ob_set3 (pre suf : List Ob) (o o1 o2 o3 x : Ob) : (pre ++ o :: o1 :: o2 :: o3 :: suf).set (pre.length + 3) x = pre ++ o :: o1 :: o2 :: x :: suf := by
  rw [List.set_append_right _ _ (by omega)]; simp
def iC (x : Int) : C := .v (.int .i64 x)
def bC (b : Bool) : C := .v (.bool b)
def intsC (xs : List Int) : C := .sl (xs.map iC) xs.length false
def rowsC (v : List (List Int)) : C := .sl (v.map intsC) v.length false

end Go.Av

/- Rules that proofs use: regions that forget, scopes, tests, nil slices that will grow, results given up. -/
set_option linter.unusedVariables false
namespace Go.Av
open Go

variable {P : Program} {X : Ctx}

def noGotoA (Q : Exit → St → Prop) : Exit → St → Prop
  | .goto _, _ => False
  | e, s => Q e s
attribute [simp] noGotoA
theorem awp_scope {c : Code} {Q : Exit → St → Prop} {s : St} (h : Awp P X c (noGotoA Q) s) : Awp P X (.scope c) Q s := fun a w hr => by
  refine wp_scope_straight (wp_mono (h a w hr) ?_)
  rintro e a' w' ⟨s', q, r⟩
  cases e with
  | goto l => exact q.elim
  | _ => exact ⟨s', q, r⟩
def KeepK (Q : Exit → St → Prop) (ts : List Nat) (s : St) : Prop := Q .normal ⟨keep s.fr ts, s.ob⟩
@[simp] theorem KeepK_mk (Q : Exit → St → Prop) (ts : List Nat) (fr : List (Nat × M)) (ob : List Ob) : KeepK Q ts ⟨fr, ob⟩ = Q .normal ⟨keep fr ts, ob⟩ := rfl
theorem awp_reg {id : Nat} {l : List Oper} {Q : Exit → St → Prop} {s : St} (N : Nat) (hN : X.N = N) (ts : List Nat) (h : awpOps P N l.toArray (KeepK Q ts) l s) : Awp P X (.region id l.toArray false) Q s := fun a w hr => by
  subst hN
  exact wp_region_lit (awpOps_sound (K := KeepK Q ts) (fun s a w hk hr => ⟨_, hk, hr.weak (weak_keep s ts)⟩) l s a w h hr)
theorem awp_if_b {c : Operand} {x y : Code} {Q : Exit → St → Prop} {s : St} {b : Bool} (hb : asB (opM s.fr c) = some b) (ht : b = true → Awp P X x Q s) (hf : b = false → Awp P X y Q s) : Awp P X (.cond c x y) Q s := by
  refine awp_cond hb ?_
  cases b with
  | true => simpa using ht rfl
  | false => simpa using hf rfl
theorem GuardK_b {P : Program} {N : Nat} {ops : Array Oper} {K : St → Prop} {o : Oper} {rest : List Oper} {s : St} {b : Bool} (ht : b = true → GuardK P N ops K o rest s (some true)) (hf : b = false → GuardK P N ops K o rest s (some false)) : GuardK P N ops K o rest s (some b) := by
  cases b with
  | true => exact ht rfl
  | false => exact hf rfl
@[simp] theorem EvK_if {P : Program} {N : Nat} {ops : Array Oper} {K : St → Prop} {o : Oper} {rest : List Oper} {s : St} {p : Prop} [Decidable p] (x : Option (M × List Ob)) : EvK P N ops K o rest s (if p then x else none) = (p ∧ EvK P N ops K o rest s x) := by
  by_cases h : p <;> simp [h]
@[simp] theorem with_if {p : Prop} [Decidable p] (ob : List Ob) (x : Option M) : with_ ob (if p then x else none) = if p then with_ ob x else none := by
  by_cases h : p <;> simp [h]

theorem awp_nil {c : Code} {Q : Exit → St → Prop} {s : St} (t : Nat) (e sz : Nat) (hg : get s.fr t = some (.c (.v (.slice none 0 0))))
    (h : Awp P X c Q ⟨put s.fr t (.ms s.ob.length 0 0 0), s.ob ++ [{ ty := e, sz := sz, nil := true, gen := 0, cs := [] }]⟩) : Awp P X c Q s := fun a w hr => by
  obtain ⟨E, h1, h2, h3, h4⟩ := hr
  have hst := step_nil h4.heap e sz
  refine h a w ⟨E, fun u m hu => ?_, h2, h3, h4.trans hst⟩
  simp only [get_put] at hu
  split at hu
  · rename_i eq
    subst eq
    obtain rfl := Option.some.inj hu
    obtain ⟨p, q⟩ := h1 _ _ hg
    refine ⟨p, ?_⟩
    generalize a.tmps.getD t undef = z at q
    cases q with
    | c hc =>
      cases hc
      exact .ms ⟨rfl, _, by rw [getElem?_snoc, if_neg (by omega), if_pos rfl], rfl, Nat.le_refl _, fun _ => ⟨fun _ => ⟨rfl, rfl, rfl⟩, fun hf => by simp at hf⟩⟩
  · obtain ⟨p, q⟩ := h1 u m hu
    exact ⟨p, q.keep hst.ext⟩

inductive Lt (n : Nat) : M → Prop where
  | c (x : C) : Lt n (.c x)
  | agg (ms : List M) (h : ∀ (j : Nat) (m : M), ms[j]? = some m → Lt n m) : Lt n (.agg ms)
  | tup (ms : List M) (h : ∀ (j : Nat) (m : M), ms[j]? = some m → Lt n m) : Lt n (.tup ms)
  | ms (i g off k : Nat) (h : i < n) : Lt n (.ms i g off k)
  | mp (i g off : Nat) (h : i < n) : Lt n (.mp i g off)
  | mi (t : TypeId) (i g off : Nat) (h : i < n) : Lt n (.mi t i g off)
  | mf (fn : Fn) (a b : List M) (h1 : ∀ (j : Nat) (m : M), a[j]? = some m → Lt n m) (h2 : ∀ (j : Nat) (m : M), b[j]? = some m → Lt n m) : Lt n (.mf fn a b)
  | it (i : Nat) (h : i < n) : Lt n (.it i)
  | mm (i : Nat) (h : i < n) : Lt n (.mm i)
  | junk : Lt n .junk
theorem lt_of_rep {w : World} {E : Env} {ob : List Ob} {m : M} {y : Value} (h : RepM w E ob m y) : Lt ob.length m := by
  induction h with
  | c h => exact .c _
  | agg ms arr hs ho h ih => exact .agg _ fun j m hm => ih j (by rw [hs]; exact (List.getElem?_eq_some_iff.1 hm).1) m hm
  | tup ms arr hs h ih => exact .tup _ fun j m hm => ih j (by rw [hs]; exact (List.getElem?_eq_some_iff.1 hm).1) m hm
  | ms h => obtain ⟨_, o, ho, _⟩ := h; exact .ms _ _ _ _ (List.getElem?_eq_some_iff.1 ho).1
  | mp h => obtain ⟨_, o, ho, _⟩ := h; exact .mp _ _ _ (List.getElem?_eq_some_iff.1 ho).1
  | mi h => obtain ⟨_, o, ho, _⟩ := h; exact .mi _ _ _ _ (List.getElem?_eq_some_iff.1 ho).1
  | mf fn first cap f1 c1 hs1 hs2 h1 h2 ih1 ih2 => exact .mf _ _ _ (fun j m hm => ih1 j (by rw [hs1]; exact (List.getElem?_eq_some_iff.1 hm).1) m hm) (fun j m hm => ih2 j (by rw [hs2]; exact (List.getElem?_eq_some_iff.1 hm).1) m hm)
  | it h => obtain ⟨o, ho, _⟩ := h; exact .it _ (List.getElem?_eq_some_iff.1 ho).1
  | mm h => obtain ⟨o, ho, _⟩ := h; exact .mm _ (List.getElem?_eq_some_iff.1 ho).1
  | junk y => exact .junk
theorem rep_lower {w : World} {E : Env} {ob : List Ob} {ext : List Ob} {m : M} {y : Value} (h : RepM w E (ob ++ ext) m y) (hl : Lt ob.length m) : RepM w E ob m y := by
  have hdown : ∀ (i : Nat) (o : Ob), i < ob.length → (ob ++ ext)[i]? = some o → ob[i]? = some o := fun i o hi ho => by rwa [List.getElem?_append_left hi] at ho
  induction h with
  | c h => exact .c h
  | agg ms arr hs ho h ih =>
    cases hl with
    | agg _ hl => exact .agg _ _ hs ho fun j hj m hm => ih j hj m hm (hl j m hm)
  | tup ms arr hs h ih =>
    cases hl with
    | tup _ hl => exact .tup _ _ hs fun j hj m hm => ih j hj m hm (hl j m hm)
  | ms h =>
    cases hl with
    | ms _ _ _ _ hi =>
      obtain ⟨p, o, ho, q⟩ := h
      exact .ms ⟨p, o, hdown _ o hi ho, q⟩
  | mp h =>
    cases hl with
    | mp _ _ _ hi =>
      obtain ⟨p, o, ho, q⟩ := h
      exact .mp ⟨p, o, hdown _ o hi ho, q⟩
  | mi h =>
    cases hl with
    | mi _ _ _ _ hi =>
      obtain ⟨p, o, ho, q⟩ := h
      exact .mi ⟨p, o, hdown _ o hi ho, q⟩
  | mf fn first cap f1 c1 hs1 hs2 h1 h2 ih1 ih2 =>
    cases hl with
    | mf _ _ _ l1 l2 => exact .mf _ _ _ _ _ hs1 hs2 (fun j hj m hm => ih1 j hj m hm (l1 j m hm)) (fun j hj m hm => ih2 j hj m hm (l2 j m hm))
  | it h =>
    cases hl with
    | it _ hi =>
      obtain ⟨o, ho, q⟩ := h
      exact .it ⟨o, hdown _ o hi ho, q⟩
  | mm h =>
    cases hl with
    | mm _ hi =>
      obtain ⟨o, ho, q⟩ := h
      exact .mm ⟨o, hdown _ o hi ho, q⟩
  | junk y => exact .junk y

theorem step_give {w w' : World} {E E' : Env} {ob ext : List Ob} (h0 : HeapOK w E ob) (hs : Step w E ob w' E' (ob ++ ext)) :
    Step w E ob w' { E' with st := fun b => E'.st b ∨ ∃ (i : Nat) (o : Ob), ext[i]? = some o ∧ o.nil = false ∧ b = E'.blk (ob.length + i) } ob := by
  obtain ⟨hh, hx, hb⟩ := hs
  have hinc : ∀ (i : Nat) (q : Ob), ob[i]? = some q → (ob ++ ext)[i]? = some q := fun i q hq => by
    rw [List.getElem?_append_left (List.getElem?_eq_some_iff.1 hq).1]; exact hq
  have hnew : ∀ (i : Nat) (q : Ob), ext[i]? = some q → (ob ++ ext)[ob.length + i]? = some q := fun i q hq => by
    rw [List.getElem?_append_right (by omega)]; simpa using hq
  have hne : ∀ (i k : Nat) (q o : Ob), ob[i]? = some q → q.nil = false → ext[k]? = some o → o.nil = false → E'.blk i ≠ E'.blk (ob.length + k) := fun i k q o hq hqn ho hon he => by
    have h1 := hh.inj i (ob.length + k) q o (hinc i q hq) (hnew k o ho) hqn hon he
    have h2 := (List.getElem?_eq_some_iff.1 hq).1
    omega
  have hext : Ext w' E' (ob ++ ext) w' { E' with st := fun b => E'.st b ∨ ∃ (i : Nat) (o : Ob), ext[i]? = some o ∧ o.nil = false ∧ b = E'.blk (ob.length + i) } (ob ++ ext) :=
    ⟨fun b hb => ⟨.inl hb, rfl⟩, fun i q hq => ⟨q, hq, Nat.le_refl _, rfl, fun _ => rfl, fun _ => ⟨rfl, rfl, rfl, rfl⟩⟩⟩
  refine ⟨⟨fun i q hq => ?_, fun i j oi oj hi hj ni nj he => hh.inj i j oi oj (hinc i oi hi) (hinc j oj hj) ni nj he, fun b hb => ?_, fun i q hq hn => ?_, hh.gl.ext hext.st⟩, ⟨fun b hb => ⟨.inl (hx.st b hb).1, (hx.st b hb).2⟩, fun i q hq => ?_⟩, ⟨hb.os, hb.tape, hb.output, hb.size, hb.block, fun b h => .inl (hb.st b h), fun b h => ?_, fun i q hq hn => hb.own i q (hinc i q hq) hn⟩⟩
  · have h1 := hh.obj i q (hinc i q hq)
    have h2 := h0.obj i q hq
    unfold ObOK at h1 h2 ⊢
    split
    · rename_i q0 hit
      rw [hit] at h1
      exact ⟨(h1.1.keep hext rfl rfl).less (List.getElem?_eq_some_iff.1 hq).1, h1.2⟩
    · rename_i hit
      rw [hit] at h1 h2
      refine ⟨h1.1, fun hn => ?_⟩
      obtain ⟨arr, lo, hi, e1, e2, e3, e4⟩ := h1.2 hn
      obtain ⟨arr0, _, _, _, _, _, f4⟩ := h2.2 hn
      refine ⟨arr, lo, hi, e1, e2, e3, fun j m hm => ?_⟩
      obtain ⟨y, hy, q1, q2⟩ := e4 j m hm
      obtain ⟨y0, _, _, q3⟩ := f4 j m hm
      exact ⟨y, hy, q1, rep_lower (q2.keep hext) (lt_of_rep q3)⟩
  · rcases hb with hb | ⟨i, o, ho, hn, rfl⟩
    · exact hh.stb b hb
    · exact (hh.own _ o (hnew i o ho) hn).2
  · obtain ⟨a, b⟩ := hh.own i q (hinc i q hq) hn
    refine ⟨fun hs => ?_, b⟩
    rcases hs with hs | ⟨k, o, ho, hon, he⟩
    · exact a hs
    · exact hne i k q o hq hn ho hon he
  · obtain ⟨q', hq', r⟩ := hx.ob i q hq
    have : q' = q := Option.some.inj (hq'.symm.trans (hinc i q hq))
    subst this
    exact ⟨q', hq, r⟩
  · rcases h with h | ⟨i, o, ho, hn, rfl⟩
    · exact hb.st_of b h
    · rcases hb.own _ o (hnew i o ho) hn with ⟨k, q, hq, hqn, he⟩ | hge
      · exact .inr (.inl ⟨k, q, hq, hqn, he⟩)
      · exact .inr (.inr hge)

theorem rep_frozen {w' : World} {E' : Env} {ob ext : List Ob} (hh : HeapOK w' E' (ob ++ ext)) {k g n : Nat} {o : Ob} {cs : List C} {v : Value} (hk : ext[k]? = some o) (hg : o.gen = g) (hcs : o.cs = up cs) (hr : RepM w' E' (ob ++ ext) (.ms (ob.length + k) g 0 n) v) (full : Bool) (hf : full = true → n = 0) (hn0 : o.nil = true → cs = []) :
    RepM w' { E' with st := fun b => E'.st b ∨ ∃ (i : Nat) (o : Ob), ext[i]? = some o ∧ o.nil = false ∧ b = E'.blk (ob.length + i) } ob (.c (.sl cs n false)) v := by
  cases hr with
  | ms hq =>
    obtain ⟨_, o', ho', hit, hle, hr⟩ := hq
    have hnew : (ob ++ ext)[ob.length + k]? = some o := by rw [List.getElem?_append_right (by omega)]; simpa using hk
    obtain rfl := Option.some.inj (hnew.symm.trans ho')
    obtain ⟨r1, r2⟩ := hr hg.symm
    cases hnil : o.nil with
    | true =>
      obtain ⟨rfl, rfl, _⟩ := r1 hnil
      rw [hn0 hnil]
      exact .c (.nl false)
    | false =>
      obtain ⟨cap, rfl, h1, h2⟩ := r2 hnil
      have hob := hh.obj _ o hnew
      unfold ObOK at hob
      rw [hit] at hob
      obtain ⟨arr, lo, hi, e1, e2, e3, e4⟩ := hob.2 hnil
      refine .c (.sl cs n false ⟨E'.blk (ob.length + k), 0, none⟩ cap (fun j => arr.getD j undef) (by simp) h1 (fun j c hc => ?_) (fun j c hc => ?_))
      · have hm : o.cs[j]? = some (.c c) := by rw [hcs]; simp [up, hc]
        obtain ⟨y, hy, q1, q2⟩ := e4 j _ hm
        refine ⟨.inr ⟨k, o, hk, hnil, rfl⟩, ?_, ?_⟩
        · rw [Array.getD_eq_getD_getElem?, hy]; exact q1
        · rw [add_obj, Array.getD_eq_getD_getElem?, hy]
          simp [World.cell?, e1, hy]
      · have hm : o.cs[j]? = some (.c c) := by rw [hcs]; simp [up, hc]
        obtain ⟨y, hy, q1, q2⟩ := e4 j _ hm
        rw [Array.getD_eq_getD_getElem?, hy]
        cases q2 with
        | c h => exact h.keep (fun b hb => ⟨.inl hb, rfl⟩)

theorem Den.freeze {f : FuncId} {args : List M} {ob : List Ob} {Q : M → List Ob → Prop} {Q' : M → List Ob → Prop} (h : Den P f args ob Q)
    (hq : ∀ r ob', Q r ob' → ∃ (g n : Nat) (o : Ob) (cs : List C), r = .ms ob.length g 0 n ∧ ob' = ob ++ [o] ∧ o.gen = g ∧ o.cs = up cs ∧ Q' (.c (.sl cs n false)) ob) : Den P f args ob Q' := by
  refine fun w E vals h1 h2 h3 => (h w E vals h1 h2 h3).mono ?_
  rintro v w' ⟨r, ob', E', q, hr, hs⟩
  obtain ⟨g, n, o, cs, rfl, rfl, hg, hcs, hq'⟩ := hq r ob' q
  refine ⟨_, ob, _, hq', ?_, step_give h3 hs⟩
  refine rep_frozen (k := 0) (o := o) hs.heap rfl hg hcs hr false (by simp) (fun hn => ?_)
  have hob := hs.heap.obj ob.length o (by simp)
  unfold ObOK at hob
  split at hob
  · rename_i hit
    rw [hob.2] at hn
    simp at hn
  · have := hob.1 hn
    rw [hcs] at this
    simpa [up] using this

theorem awp_loop_k {c : Code} {Q : Exit → St → Prop} {s : St} (ts : List Nat) (I : Nat → St → Prop) (n : Nat) (h0 : I n ⟨keep s.fr ts, s.ob⟩) (h : ∀ n s, I n s → Awp P X c (thenA (fun s' => ∃ n', n' < n ∧ I n' ⟨keep s'.fr ts, s'.ob⟩) Q) s) : Awp P X (.loop c) Q s := by
  refine Awp.weak ?_ (weak_keep s ts)
  refine awp_loop I n h0 (fun n s hi a w hr => ?_)
  refine wp_mono (h n s hi a w hr) ?_
  rintro e a' w' ⟨s', q, r⟩
  cases e with
  | normal =>
    obtain ⟨n', h1, h2⟩ := q
    exact ⟨_, ⟨n', h1, h2⟩, r.weak (weak_keep s' ts)⟩
  | _ => exact ⟨s', q, r⟩

@[reducible] def isN : Exit → Bool
  | .normal => true
  | _ => false
theorem awp_loop_g {c : Code} {Q : Exit → St → Prop} {s : St} (ts : List Nat) (I : Nat → St → Prop) (n : Nat) (h0 : I n ⟨keep s.fr ts, s.ob⟩)
    (h : ∀ n s (Q1 : Exit → St → Prop), I n s → (∀ s', (∃ n', n' < n ∧ I n' ⟨keep s'.fr ts, s'.ob⟩) → Q1 .normal s') → (∀ e s', isN e = false → Q e s' → Q1 e s') → Awp P X c Q1 s) : Awp P X (.loop c) Q s :=
  awp_loop_k ts I n h0 fun n s hi => h n s _ hi (fun s' hs => hs) (fun e s' he hq => by cases e <;> first | exact hq | exact absurd he (by simp [isN]))
theorem getI {α : Type} (l : List α) (i : Int) (h0 : 0 ≤ i) (h1 : i < l.length) : ∃ x, l[i.toNat]? = some x := ⟨_, List.getElem?_eq_getElem (by omega)⟩
theorem wrap_in (x : Int) (h : -9223372036854775808 ≤ x ∧ x ≤ 9223372036854775807) : IntKind.i64.wrap x = x := IntWalk.i64_in _ h

end Go.Av

/- A region that draws its order: told in the text's order, if no operation changes an object and whoever reads a slot stands in order with whoever writes it. -/
set_option linter.unusedVariables false
set_option linter.unusedSimpArgs false
namespace Go.Av
open Go

variable {P : Program} {X : Ctx}

def tmpO : Operand → List Nat
  | .tmp t => [t]
  | _ => []
def readsOf (o : Oper) (ops : Array Oper) : List Nat :=
  (o.op.operands.toList.flatMap tmpO) ++ (match o.guard with
    | some (j, _) => (match (ops[j]?).bind (·.dst) with | some d => [d] | none => [])
    | none => [])
theorem opM_congr {fr fr' : List (Nat × M)} {x : Operand} (h : ∀ t ∈ tmpO x, get fr t = get fr' t) : opM fr x = opM fr' x := by
  cases x with
  | tmp t => exact h t (by simp [tmpO])
  | _ => rfl
theorem mapOp_congr {fr fr' : List (Nat × M)} {l : List (Nat × Operand)} (h : ∀ p ∈ l, opM fr p.2 = opM fr' p.2) : mapOp fr l = mapOp fr' l := by
  induction l with
  | nil => rfl
  | cons p l ih =>
    obtain ⟨i, x⟩ := p
    simp only [mapOp]
    rw [h (i, x) (by simp), ih (fun p hp => h p (by simp [hp]))]
theorem mapArgs_congr {fr fr' : List (Nat × M)} {l : List Operand} (h : ∀ x ∈ l, opM fr x = opM fr' x) : mapArgs fr l = mapArgs fr' l := by
  induction l with
  | nil => rfl
  | cons x l ih =>
    simp only [mapArgs]
    rw [h x (by simp), ih (fun p hp => h p (by simp [hp]))]
theorem opO_congr {fr fr' : List (Nat × M)} {x : Option Operand} (h : ∀ y ∈ x.toList, opM fr y = opM fr' y) : opO fr x = opO fr' x := by
  cases x with
  | none => rfl
  | some x => simp only [opO]; rw [h x (by simp)]
theorem evOp_congr {fr fr' : List (Nat × M)} {ob : List Ob} {o : Op} {ty : TypeId} (h : ∀ t ∈ o.operands.toList.flatMap tmpO, get fr t = get fr' t) : evOp P fr ob o ty = evOp P fr' ob o ty := by
  have h1 : ∀ x ∈ o.operands.toList, opM fr x = opM fr' x := fun x hx => opM_congr fun t ht => h t (List.mem_flatMap.2 ⟨x, hx, ht⟩)
  cases o with
  | slice t x lo hi mx =>
    simp only [evOp]
    rw [h1 x (by simp [Op.operands]), opO_congr (x := lo) (fr' := fr') (fun y hy => h1 y (by simp only [Op.operands, Array.toList_append, List.mem_append]; simp at hy; simp [hy])),
      opO_congr (x := hi) (fr' := fr') (fun y hy => h1 y (by simp only [Op.operands, Array.toList_append, List.mem_append]; simp at hy; simp [hy])),
      opO_congr (x := mx) (fr' := fr') (fun y hy => h1 y (by simp only [Op.operands, Array.toList_append, List.mem_append]; simp at hy; simp [hy]))]
  | build t parts =>
    simp only [evOp]
    rw [mapOp_congr (fr' := fr') (fun p hp => h1 p.2 (by simp [Op.operands]; exact ⟨p.1, by simpa using hp⟩))]
  | buildSlice t n parts =>
    simp only [evOp]
    rw [mapOp_congr (fr' := fr') (fun p hp => h1 p.2 (by simp [Op.operands]; exact ⟨p.1, by simpa using hp⟩))]
  | makeFunc fn first cap =>
    simp only [evOp]
    rw [mapArgs_congr (fr' := fr') (l := first.toList) (fun p hp => h1 p (by simp only [Op.operands, Array.toList_append, List.mem_append]; exact .inl hp)), mapArgs_congr (fr' := fr') (l := cap.toList) (fun p hp => h1 p (by simp only [Op.operands, Array.toList_append, List.mem_append]; exact .inr hp))]
  | call c =>
    obtain ⟨callee, args, ts⟩ := c
    cases callee with
    | builtin b =>
      simp only [evOp]
      have h2 : ∀ x ∈ args.toList, opM fr x = opM fr' x := fun x hx => h1 x (by simp only [Op.operands, Call.operands, Array.toList_append, List.mem_append]; exact .inr hx)
      unfold evBuiltin
      split
      · rename_i x t ha _
        rw [h2 x (by rw [ha]; simp)]
      · rename_i x y t tx ha _
        rw [h2 x (by rw [ha]; simp), h2 y (by rw [ha]; simp)]
      · rename_i x y t tx ha _
        rw [h2 x (by rw [ha]; simp), h2 y (by rw [ha]; simp)]
      · rename_i x ha
        rw [h2 x (by rw [ha]; simp)]
      · rename_i x y t tx ha _
        rw [h2 x (by rw [ha]; simp), h2 y (by rw [ha]; simp)]
      · rename_i x y ha
        rw [h2 x (by rw [ha]; simp), h2 y (by rw [ha]; simp)]
      · rename_i x y ha
        rw [h2 x (by rw [ha]; simp), h2 y (by rw [ha]; simp)]
      · rename_i x t ha _
        rw [h2 x (by rw [ha]; simp)]
      · rfl
    | _ => rfl
  | _ => first
    | rfl
    | (simp only [evOp]; rw [h1 _ (by simp [Op.operands])]; done)
    | (simp only [evOp]; rw [h1 _ (by simp [Op.operands]), h1 _ (by simp [Op.operands])]; done)
    | (simp only [evOp]; (repeat rw [h1 _ (by simp [Op.operands]; done)]); done)
    | (simp only [evOp, Op.operands] at *; simp_all)
theorem callOf_congr {ob : List Ob} {fr fr' : List (Nat × M)} {o : Op} (h : ∀ t ∈ o.operands.toList.flatMap tmpO, get fr t = get fr' t) : callOf P ob fr o = callOf P ob fr' o := by
  have h1 : ∀ x ∈ o.operands.toList, opM fr x = opM fr' x := fun x hx => opM_congr fun t ht => h t (List.mem_flatMap.2 ⟨x, hx, ht⟩)
  cases o with
  | call c =>
    obtain ⟨callee, args, ts⟩ := c
    cases callee with
    | value x =>
      simp only [callOf]
      rw [h1 x (by simp [Op.operands, Call.operands]), mapArgs_congr (fr' := fr') (fun y hy => h1 y (by simp only [Op.operands, Call.operands, Array.toList_append, List.mem_append]; exact .inr hy))]
    | invoke x name =>
      simp only [callOf]
      rw [h1 x (by simp [Op.operands, Call.operands]), mapArgs_congr (fr' := fr') (fun y hy => h1 y (by simp only [Op.operands, Call.operands, Array.toList_append, List.mem_append]; exact .inr hy))]
    | _ => rfl
  | _ => rfl
theorem guardV_congr {ops : Array Oper} {fr fr' : List (Nat × M)} {o : Oper} (h : ∀ t ∈ readsOf o ops, get fr t = get fr' t) : guardV ops fr o = guardV ops fr' o := by
  unfold guardV
  unfold readsOf at h
  cases hg : o.guard with
  | none => rfl
  | some p =>
    obtain ⟨j, b⟩ := p
    simp only [hg] at h ⊢
    cases hd : (ops[j]?).bind (·.dst) with
    | none => rfl
    | some d =>
      simp only [hd] at h ⊢
      rw [h d (by simp)]

end Go.Av

/- A region that draws its order: the theorem. -/
set_option linter.unusedVariables false
set_option linter.unusedSimpArgs false
namespace Go.Av
open Go

variable {P : Program} {X : Ctx}

def aftersOf (o : Oper) : List Nat := (o.after.toList.filter (Region.binds .any ·)).map (·.on)
def clOf (l : List Oper) : Nat → Nat → List Nat
  | 0, _ => []
  | k + 1, i => match l[i]? with
    | some o => aftersOf o ++ (aftersOf o).flatMap (clOf l k)
    | none => []
def ordAt (l : List Oper) (i : Nat) (o : Oper) (j : Nat) : Bool :=
  j == i || match (l[j]?).bind (·.dst) with
    | none => true
    | some t => !((readsOf o l.toArray ++ o.dst.toList).contains t) || (if j < i then (clOf l l.length i).contains j else (clOf l l.length j).contains i)
def ordOK (l : List Oper) : Bool :=
  (List.range l.length).all fun i => match l[i]? with
    | none => true
    | some o => (aftersOf o).all (· < i) && (List.range l.length).all (ordAt l i o)

theorem ord_afters {l : List Oper} (h : ordOK l = true) {i : Nat} {o : Oper} (ho : l[i]? = some o) : ∀ e ∈ aftersOf o, e < i := by
  have hi := (List.getElem?_eq_some_iff.1 ho).1
  have := (List.all_eq_true.1 h) i (by simpa using hi)
  rw [ho] at this
  simp only [Bool.and_eq_true, List.all_eq_true, decide_eq_true_eq] at this
  exact this.1
theorem ord_at {l : List Oper} (h : ordOK l = true) {i j : Nat} {o oj : Oper} (ho : l[i]? = some o) (hj : l[j]? = some oj) (hne : j ≠ i) {t : Nat} (ht : oj.dst = some t) (hr : t ∈ readsOf o l.toArray ++ o.dst.toList) :
    (j < i → j ∈ clOf l l.length i) ∧ (i < j → i ∈ clOf l l.length j) := by
  have hi := (List.getElem?_eq_some_iff.1 ho).1
  have hj' := (List.getElem?_eq_some_iff.1 hj).1
  have := (List.all_eq_true.1 h) i (by simpa using hi)
  rw [ho] at this
  simp only [Bool.and_eq_true, List.all_eq_true] at this
  have h2 := this.2 j (by simpa using hj')
  unfold ordAt at h2
  rw [hj] at h2
  simp only [Option.bind_some, ht, Bool.or_eq_true, beq_iff_eq, Bool.not_eq_true'] at h2
  rcases h2 with h2 | h2 | h2
  · exact absurd h2 hne
  · have : (readsOf o l.toArray ++ o.dst.toList).contains t = true := List.contains_iff_mem.2 hr
    rw [this] at h2
    simp at h2
  · by_cases hlt : j < i
    · rw [if_pos hlt] at h2
      exact ⟨fun _ => List.contains_iff_mem.1 h2, fun h => by omega⟩
    · rw [if_neg hlt] at h2
      exact ⟨fun h => absurd h hlt, fun _ => List.contains_iff_mem.1 h2⟩

def Closed (l : List Oper) (p : Nat → Bool) : Prop := ∀ (i : Nat) o, l[i]? = some o → p i = true → ∀ e ∈ aftersOf o, p e = true
theorem cl_listed {l : List Oper} {p : Nat → Bool} (hc : Closed l p) : ∀ (k i : Nat) (o : Oper), l[i]? = some o → (∀ e ∈ aftersOf o, p e = true) → ∀ j ∈ clOf l k i, p j = true
  | 0, i, o, _, _, j, hj => by simp [clOf] at hj
  | k + 1, i, o, ho, ha, j, hj => by
    simp only [clOf, ho, List.mem_append, List.mem_flatMap] at hj
    rcases hj with hj | ⟨e, he, hj⟩
    · exact ha j hj
    · cases he2 : l[e]? with
      | none =>
        cases k with
        | zero => simp [clOf] at hj
        | succ k => simp [clOf, he2] at hj
      | some oe => exact cl_listed hc k e oe he2 (hc e oe he2 (ha e he)) j hj

def frP (p : Nat → Bool) : Nat → List Oper → List M → List (Nat × M) → List (Nat × M)
  | k, o :: l, m :: ms, fr => frP p (k + 1) l ms (if p k then putO fr o.dst m else fr)
  | _, _, _, fr => fr
theorem get_putO (fr : List (Nat × M)) (d : Option Nat) (m : M) (t : Nat) : get (putO fr d m) t = if d = some t then some m else get fr t := by
  cases d with
  | none => simp [putO]
  | some u => simp only [putO, get_put, Option.some.injEq]
theorem frP_congr (p q : Nat → Bool) (t : Nat) : ∀ (l : List Oper) (k : Nat) (ms : List M) (fr fr' : List (Nat × M)), get fr t = get fr' t → (∀ (j : Nat) o, l[j]? = some o → o.dst = some t → p (k + j) = q (k + j)) → get (frP p k l ms fr) t = get (frP q k l ms fr') t
  | [], k, ms, fr, fr', h, _ => by simpa [frP] using h
  | o :: l, k, [], fr, fr', h, _ => by simpa [frP] using h
  | o :: l, k, m :: ms, fr, fr', h, hp => by
    simp only [frP]
    refine frP_congr p q t l (k + 1) ms _ _ ?_ (fun j o' ho hd => by have := hp (j + 1) o' (by simpa using ho) hd; rwa [show k + 1 + j = k + (j + 1) by omega])
    by_cases hd : o.dst = some t
    · have := hp 0 o rfl hd
      simp only [Nat.add_zero] at this
      rw [this]
      by_cases hq : q k = true
      · simp [-putO, hq, get_putO, hd]
      · simp [hq, h]
    · have e1 : ∀ (b : Bool) (f : List (Nat × M)), get (if b = true then putO f o.dst m else f) t = get f t := fun b f => by
        cases b <;> simp [-putO, get_putO, hd]
      rw [e1, e1, h]
theorem frP_none (p : Nat → Bool) (t : Nat) (l : List Oper) : ∀ (k : Nat) (ms : List M) (fr : List (Nat × M)), (∀ (j : Nat) o, l[j]? = some o → p (k + j) = true → o.dst ≠ some t) → get (frP p k l ms fr) t = get fr t := by
  induction l with
  | nil => intro k ms fr _; simp [frP]
  | cons o l ih =>
    intro k ms fr h
    cases ms with
    | nil => simp [frP]
    | cons m ms =>
      simp only [frP]
      rw [ih (k + 1) ms _ (fun j o' ho hp => h (j + 1) o' (by simpa using ho) (by rwa [show k + (j + 1) = k + 1 + j by omega]))]
      by_cases hp : p k = true
      · have := h 0 o rfl (by simpa using hp)
        simp [-putO, hp, get_putO, this]
      · simp [hp]
theorem frP_last (p : Nat → Bool) (t : Nat) (l : List Oper) : ∀ (k : Nat) (ms : List M) (fr : List (Nat × M)) (i : Nat) (o : Oper) (m : M), l[i]? = some o → ms[i]? = some m → o.dst = some t → p (k + i) = true → (∀ (j : Nat) o', i < j → l[j]? = some o' → p (k + j) = true → o'.dst ≠ some t) → get (frP p k l ms fr) t = some m := by
  induction l with
  | nil => intro k ms fr i o m ho; simp at ho
  | cons o' l ih =>
    intro k ms fr i o m ho hm hd hp hlater
    cases ms with
    | nil => simp at hm
    | cons m' ms =>
      simp only [frP]
      cases i with
      | zero =>
        obtain rfl := Option.some.inj ho
        obtain rfl := Option.some.inj hm
        simp only [Nat.add_zero] at hp
        rw [frP_none p t l (k + 1) ms _ (fun j o2 h2 hp2 => hlater (j + 1) o2 (by omega) (by simpa using h2) (by rwa [show k + (j + 1) = k + 1 + j by omega]))]
        simp [-putO, hp, get_putO, hd]
      | succ i =>
        exact ih (k + 1) ms _ i o m (by simpa using ho) (by simpa using hm) hd (by rwa [show k + 1 + i = k + (i + 1) by omega]) (fun j o2 hij h2 hp2 => hlater (j + 1) o2 (by omega) (by simpa using h2) (by rwa [show k + (j + 1) = k + 1 + j by omega]))
theorem frP_false (p : Nat → Bool) (l : List Oper) : ∀ (k : Nat) (ms : List M) (fr : List (Nat × M)), (∀ j, k ≤ j → p j = false) → frP p k l ms fr = fr := by
  induction l with
  | nil => intro k ms fr _; simp [frP]
  | cons o l ih =>
    intro k ms fr h
    cases ms with
    | nil => simp [frP]
    | cons m ms =>
      simp only [frP]
      rw [h k (Nat.le_refl _)]
      simp only [Bool.false_eq_true, if_false]
      exact ih (k + 1) ms fr (fun j hj => h j (by omega))

def nc (cuts : List Nat) (i : Nat) : Nat := (cuts.filter fun c => decide (c < i)).length
def cutOK (l : List Oper) (cuts : List Nat) : Bool := cuts.all fun c => decide (c < l.length) && (List.range l.length).all fun i => (!decide (i < c) || (clOf l l.length c).contains i) && (!decide (c < i) || (clOf l l.length i).contains c)
def StepOK (P : Program) (N : Nat) (ops : Array Oper) (ob ob2 : List Ob) (fr : List (Nat × M)) (o : Oper) (m : M) : Prop :=
  dstOK N o = true ∧ ((guardV ops fr o = some false ∧ m = .tup [] ∧ ob2 = ob) ∨ (guardV ops fr o = some true ∧
    ((∃ f args, callOf P ob fr o.op = some (f, args) ∧ Den P f args ob fun r ob' => r = m ∧ ob' = ob2) ∨ (callOf P ob fr o.op = none ∧ evOp P fr ob o.op o.type = some (m, ob2)))))
def TextR (P : Program) (N : Nat) (ops : Array Oper) (cuts : List Nat) (obs : Nat → List Ob) : Nat → List Oper → List M → List (Nat × M) → Prop
  | _, [], [], _ => True
  | k, o :: l, m :: ms, fr => StepOK P N ops (obs (nc cuts k)) (obs (nc cuts (k + 1))) fr o m ∧ TextR P N ops cuts obs (k + 1) l ms (putO fr o.dst m)
  | _, _, _, _ => False
theorem text_at {N : Nat} {ops : Array Oper} {cuts : List Nat} {obs : Nat → List Ob} : ∀ (l : List Oper) (k : Nat) (ms : List M) (fr : List (Nat × M)), TextR P N ops cuts obs k l ms fr → ∀ (i : Nat) o, l[i]? = some o → ∃ m, ms[i]? = some m ∧ StepOK P N ops (obs (nc cuts (k + i))) (obs (nc cuts (k + i + 1))) (frP (fun j => decide (j < k + i)) k l ms fr) o m
  | [], k, ms, fr, h, i, o, ho => by simp at ho
  | o' :: l, k, [], fr, h, i, o, ho => by simp [TextR] at h
  | o' :: l, k, m :: ms, fr, h, i, o, ho => by
    obtain ⟨h1, h2⟩ := h
    cases i with
    | zero =>
      obtain rfl := Option.some.inj ho
      refine ⟨m, rfl, ?_⟩
      rw [frP_false _ _ _ _ _ (fun j hj => by simp; omega)]
      exact h1
    | succ i =>
      obtain ⟨m', hm', hs⟩ := text_at l (k + 1) ms _ h2 i o (by simpa using ho)
      refine ⟨m', by simpa using hm', ?_⟩
      simp only [frP]
      rw [if_pos (by simp)]
      rwa [show k + (i + 1) = k + 1 + i by omega]
theorem cut_at {l : List Oper} {cuts : List Nat} (h : cutOK l cuts = true) {c : Nat} (hc : c ∈ cuts) : c < l.length ∧ ∀ i, i < l.length → (i < c → i ∈ clOf l l.length c) ∧ (c < i → c ∈ clOf l l.length i) := by
  have := List.all_eq_true.1 h c hc
  simp only [Bool.and_eq_true, decide_eq_true_eq, List.all_eq_true, List.mem_range, Bool.or_eq_true, Bool.not_eq_true', decide_eq_false_iff_not, List.contains_iff_mem] at this
  refine ⟨this.1, fun i hi => ⟨fun h1 => ?_, fun h1 => ?_⟩⟩
  · rcases (this.2 i hi).1 with h2 | h2
    · exact absurd h1 h2
    · exact h2
  · rcases (this.2 i hi).2 with h2 | h2
    · exact absurd h1 h2
    · exact h2

theorem cnt_set (l : List Bool) (i : Nat) (h : l[i]? = some false) : ((l.set i true).filter (!·)).length + 1 = (l.filter (!·)).length := by
  induction l generalizing i with
  | nil => simp at h
  | cons b l ih =>
    cases i with
    | zero => simp at h; subst h; simp
    | succ i =>
      have := ih i (by simpa using h)
      cases b <;> simp at this ⊢ <;> omega

theorem upon_then (o : Oper) (a : Act) (w : World) (K : Act → World → Prop) (Q : Exit → Act → World → Prop) : (o.wp P a w K (Exit.then K Q) ∨ (o.asks P a w ∧ LetsOut (Exit.then K Q))) ↔ (o.wp P a w K Q ∨ (o.asks P a w ∧ LetsOut Q)) := by
  have h1 : LetsOut (Exit.then K Q) = LetsOut Q := rfl
  rw [h1]
  have h2 : o.wp P a w K (Exit.then K Q) = o.wp P a w K Q := by
    unfold Oper.wp
    generalize (execOp a.eval o).run P w = r
    cases r with
    | ok x w' =>
      cases x <;> first
        | rfl
        | (simp only [Oper.upon]
           congr 1
           funext e w''
           cases e <;> rfl)
    | halt h w' => cases h <;> rfl
  rw [h2]
theorem any_of {l : List Oper} {ms : List M} {fr : List (Nat × M)} {cuts : List Nat} {obs : Nat → List Ob} {Q : Exit → Act → World → Prop} (hord : ordOK l = true) (hcut : cutOK l cuts = true) (ht : TextR P X.N l.toArray cuts obs 0 l ms fr) (hQ : ∀ a w, Rel X ⟨frP (fun _ => true) 0 l ms fr, obs (nc cuts l.length)⟩ a w → Q .normal a w) :
    ∀ (fuel : Nat) (listed : Array Bool) (a : Act) (w : World), listed.size = l.length → Closed l (fun j => listed.getD j false) → (listed.toList.filter (!·)).length ≤ fuel → Rel X ⟨frP (fun j => listed.getD j false) 0 l ms fr, obs ((cuts.filter fun c => listed.getD c false).length)⟩ a w → wpAny P .any l.toArray Q fuel listed a w := by
  have done : ∀ (listed : Array Bool) (a : Act) (w : World), listed.size = l.length → Closed l (fun j => listed.getD j false) → Region.ready .any l.toArray listed = [] → Rel X ⟨frP (fun j => listed.getD j false) 0 l ms fr, obs ((cuts.filter fun c => listed.getD c false).length)⟩ a w → Q .normal a w := by
    intro listed a w hsz hcl hr hrel
    have all : ∀ i, i < l.length → listed.getD i false = true := by
      intro i
      induction i using Nat.strongRecOn with
      | _ i ih =>
        intro hi
        by_cases hl : listed.getD i false = true
        · exact hl
        · exfalso
          have hmem : i ∈ Region.ready .any l.toArray listed := by
            rw [mem_ready]
            refine ⟨?_, l[i], by simp [hi], fun e he hb => ?_⟩
            · have h1 : i < listed.size := by omega
              simp only [Array.getD_eq_getD_getElem?, Array.getElem?_eq_getElem h1, Option.getD_some] at hl ⊢
              simpa using hl
            · have he' : e.on ∈ aftersOf l[i] := by
                unfold aftersOf
                simp only [List.mem_map, List.mem_filter]
                exact ⟨e, ⟨by simpa using he, hb⟩, rfl⟩
              have hlt := ord_afters hord (i := i) (o := l[i]) (by simp [hi]) _ he'
              exact ih _ hlt (by omega)
          rw [hr] at hmem
          simp at hmem
    have hcnt : (cuts.filter fun c => listed.getD c false) = cuts.filter fun c => decide (c < l.length) := List.filter_congr fun c hc => by
      have := (cut_at hcut hc).1
      rw [all c this]; simp [this]
    rw [hcnt] at hrel
    refine hQ a w (hrel.weak ⟨fun t m hg => ?_, rfl⟩)
    simp only at hg ⊢
    rw [← hg]
    exact frP_congr _ _ t l 0 ms fr fr rfl (fun j o hj _ => by
      have := all j (List.getElem?_eq_some_iff.1 hj).1
      simpa using this)
  intro fuel
  induction fuel with
  | zero =>
    intro listed a w hsz hcl hcnt hrel
    have hr : Region.ready .any l.toArray listed = [] := by
      rw [List.eq_nil_iff_forall_not_mem]
      intro i hi
      rw [mem_ready] at hi
      obtain ⟨h1, o, ho, _⟩ := hi
      have hlt : i < listed.size := by
        have := (Array.getElem?_eq_some_iff.1 ho).1
        simp at this
        omega
      have : false ∈ listed.toList.filter (!·) := by
        rw [List.mem_filter]
        simp only [Array.getD_eq_getD_getElem?, Array.getElem?_eq_getElem hlt, Option.getD_some] at h1
        exact ⟨by rw [← h1]; simp, rfl⟩
      have := List.length_pos_of_mem this
      omega
    exact ⟨hr, done listed a w hsz hcl hr hrel⟩
  | succ fuel ih =>
    intro listed a w hsz hcl hcnt hrel
    refine ⟨fun hr => done listed a w hsz hcl hr hrel, fun i hi => ?_⟩
    rw [mem_ready] at hi
    obtain ⟨h1, o, ho, hafter⟩ := hi
    have ho' : l[i]? = some o := by simpa using ho
    have hil : i < l.length := (List.getElem?_eq_some_iff.1 ho').1
    have hlt : i < listed.size := by omega
    have hni : listed.getD i false = false := by
      simp only [Array.getD_eq_getD_getElem?, Array.getElem?_eq_getElem hlt, Option.getD_some] at h1 ⊢
      exact h1
    have hafters : ∀ e ∈ aftersOf o, listed.getD e false = true := by
      intro e he
      unfold aftersOf at he
      simp only [List.mem_map, List.mem_filter] at he
      obtain ⟨x, ⟨hx, hb⟩, rfl⟩ := he
      exact hafter x (by simpa using hx) hb
    have hcli : ∀ j ∈ clOf l l.length i, listed.getD j false = true := cl_listed hcl l.length i o ho' hafters
    have hclj : ∀ (j : Nat) oj, l[j]? = some oj → listed.getD j false = true → i ∉ clOf l l.length j := by
      intro j oj hj hlj hmem
      have := cl_listed hcl l.length j oj hj (hcl j oj hj hlj) i hmem
      rw [hni] at this
      simp at this
    obtain ⟨m, hm, hdst, hstep⟩ := text_at l 0 ms fr ht i o ho'
    have hreads : ∀ t ∈ readsOf o l.toArray, get (frP (fun j => decide (j < 0 + i)) 0 l ms fr) t = get (frP (fun j => listed.getD j false) 0 l ms fr) t := by
      intro t hmem
      refine frP_congr _ _ t l 0 ms fr fr rfl (fun j oj hj hd => ?_)
      simp only [Nat.zero_add]
      by_cases hji : j = i
      · subst hji
        rw [hni]; simp
      · obtain ⟨p1, p2⟩ := ord_at hord ho' hj hji hd (by simp [hmem])
        by_cases hlt2 : j < i
        · rw [hcli j (p1 hlt2)]; simp [hlt2]
        · have : i < j := by omega
          have hn : listed.getD j false = false := by
            cases hb : listed.getD j false with
            | false => rfl
            | true => exact absurd (p2 this) (hclj j oj hj hb)
          rw [hn]; simp [hlt2]
    have hbef : (cuts.filter fun c => listed.getD c false) = cuts.filter fun c => decide (c < 0 + i) := List.filter_congr fun c hc => by
      obtain ⟨_, hcc⟩ := cut_at hcut hc
      obtain ⟨q1, q2⟩ := hcc i hil
      rw [Nat.zero_add]
      by_cases hci : c < i
      · rw [hcli c (q2 hci)]; simp [hci]
      · by_cases e : c = i
        · subst e; rw [hni]; simp
        · cases hb : listed.getD c false with
          | false => simp [hci]
          | true =>
            have hclt := (cut_at hcut hc).1
            exact absurd (q1 (by omega)) (hclj c l[c] (List.getElem?_eq_getElem hclt) hb)
    have haft : (cuts.filter fun c => (listed.setIfInBounds i true).getD c false) = cuts.filter fun c => decide (c < 0 + i + 1) := List.filter_congr fun c hc => by
      have h0 : (listed.setIfInBounds i true).getD c false = if i = c then true else listed.getD c false := by
        simp only [Array.getD_eq_getD_getElem?, Array.getElem?_setIfInBounds]
        by_cases e : i = c
        · subst e; simp [hlt]
        · simp [e]
      rw [h0]
      by_cases e : i = c
      · subst e; simp
      · rw [if_neg e]
        have hm1 : (listed.getD c false = true) ↔ c < 0 + i := by
          have h3 : c ∈ (cuts.filter fun c => listed.getD c false) ↔ c ∈ (cuts.filter fun c => decide (c < 0 + i)) := by rw [hbef]
          simp only [List.mem_filter, decide_eq_true_eq] at h3
          constructor
          · intro h; exact (h3.1 ⟨hc, h⟩).2
          · intro h; exact (h3.2 ⟨hc, h⟩).2
        rw [Bool.eq_iff_iff, hm1]
        simp
        omega
    rw [hbef] at hrel
    have hnext : ∀ (a' : Act) (w' : World), Rel X ⟨putO (frP (fun j => listed.getD j false) 0 l ms fr) o.dst m, obs (nc cuts (0 + i + 1))⟩ a' w' → wpAny P .any l.toArray Q fuel (listed.setIfInBounds i true) a' w' := by
      intro a' w' hrel'
      have hget : ∀ j, (listed.setIfInBounds i true).getD j false = if i = j then true else listed.getD j false := by
        intro j
        simp only [Array.getD_eq_getD_getElem?, Array.getElem?_setIfInBounds]
        by_cases e : i = j
        · subst e; simp [hlt]
        · simp [e]
      refine ih _ a' w' (by simpa using hsz) (fun j oj hj hlj e he => ?_) ?_ (hrel'.weak ⟨fun t q hg => ?_, by rw [haft]; rfl⟩)
      · simp only at hlj ⊢
        rw [hget] at hlj ⊢
        by_cases e1 : i = e
        · rw [if_pos e1]
        · rw [if_neg e1]
          by_cases e2 : i = j
          · subst e2
            obtain rfl := Option.some.inj (ho'.symm.trans hj)
            exact hafters e he
          · rw [if_neg e2] at hlj
            exact hcl j oj hj hlj e he
      · have h2 : listed.toList[i]? = some false := by
          rw [Array.getElem?_toList, Array.getElem?_eq_getElem hlt]
          simp only [Array.getD_eq_getD_getElem?, Array.getElem?_eq_getElem hlt, Option.getD_some] at hni
          rw [hni]
        have := cnt_set listed.toList i h2
        rw [Array.toList_setIfInBounds]
        omega
      · simp only at hg ⊢
        rw [← hg, get_putO]
        by_cases hd : o.dst = some t
        · rw [if_pos hd]
          refine (frP_last _ t l 0 ms fr i o m ho' hm hd (by rw [hget]; simp) (fun j oj hij hj hlj hdj => ?_)).symm
          rw [hget, if_neg (by omega)] at hlj
          simp only [Nat.zero_add] at hlj
          obtain ⟨_, p2⟩ := ord_at hord ho' hj (by omega) hdj (by simp [hd])
          exact hclj j oj hj hlj (p2 hij)
        · rw [if_neg hd]
          refine (frP_congr _ _ t l 0 ms fr fr rfl (fun j oj hj hdj => ?_)).symm
          rw [hget]
          by_cases e : i = 0 + j
          · have : i = j := by omega
            subst this
            obtain rfl := Option.some.inj (ho'.symm.trans hj)
            exact absurd hdj hd
          · rw [if_neg e]
    have one : wpList P l.toArray (Exit.then (wpAny P .any l.toArray Q fuel (listed.setIfInBounds i true)) Q) [o] a w := by
      refine awpOps_sound (X := X) (K := fun s => s = ⟨putO (frP (fun j => listed.getD j false) 0 l ms fr) o.dst m, obs (nc cuts (0 + i + 1))⟩) ?_ [o] _ a w ?_ hrel
      · rintro s a' w' rfl hr
        exact hnext a' w' hr
      · simp only [awpOps_cons, hdst, DstK_true]
        have hg := guardV_congr (ops := l.toArray) hreads
        have hr2 : ∀ t ∈ o.op.operands.toList.flatMap tmpO, get (frP (fun j => decide (j < 0 + i)) 0 l ms fr) t = get (frP (fun j => listed.getD j false) 0 l ms fr) t := fun t ht => hreads t (by unfold readsOf; simp only [List.mem_append]; exact .inl ht)
        rcases hstep with ⟨hgf, rfl, he2⟩ | ⟨hgt, hs⟩
        · rw [← hg, hgf]
          simp only [GuardK_false, awpOps_nil]
          rw [he2]
          rfl
        · rw [← hg, hgt]
          simp only [GuardK_true]
          rw [← callOf_congr hr2]
          rcases hs with ⟨f, args, hc, hden⟩ | ⟨hc, hev⟩ <;> simp only [nc] at hc
          · rw [hc]
            simp only [CallK_some]
            refine hden.mono ?_
            rintro r ob' ⟨rfl, rfl⟩
            simp
          · rw [hc]
            have hnb := nextB_of_ev hev
            simp only [CallK_none, hnb, Bool.false_eq_true, if_false]
            rw [← evOp_congr hr2]
            have hev' := hev
            unfold nc at hev' ⊢
            rw [hev']
            simp only [EvK_some, awpOps_nil]
    unfold wpOp
    rw [ho]
    simp only
    unfold wpList at one
    split
    · rename_i hw
      rw [if_pos hw] at one
      exact (upon_then _ _ _ _ _).1 one
    · rename_i hw
      rw [if_neg hw] at one
      exact one

theorem awp_draw {id : Nat} {l : List Oper} {Q : Exit → St → Prop} {s : St} (N : Nat) (hN : X.N = N) (ts : List Nat) (cuts : List Nat) (hm : P.follows .mixedOrders = true) (hord : ordOK l = true) (hcut : cutOK l cuts = true)
    (ms : List M) (obs : Nat → List Ob) (h0 : obs 0 = s.ob) (ht : TextR P N l.toArray cuts obs 0 l ms s.fr) (h : KeepK Q ts ⟨frP (fun _ => true) 0 l ms s.fr, obs (nc cuts l.length)⟩) : Awp P X (.region id l.toArray true) Q s := fun a w hr => by
  subst hN
  refine wp_region_any hm ?_
  obtain ⟨E, h1, h2, h3, h4⟩ := hr
  have hst : Step w E s.ob { w with drawn := w.drawn + 1 } E s.ob := by
    have hext : Ext w E s.ob { w with drawn := w.drawn + 1 } E s.ob := ⟨fun b hb => ⟨hb, rfl⟩, fun i o ho => ⟨o, ho, Nat.le_refl _, rfl, fun _ => rfl, fun _ => ⟨rfl, rfl, rfl, rfl⟩⟩⟩
    exact ⟨⟨fun i o ho => (h4.heap.obj i o ho).keep hext rfl rfl (fun _ => rfl), h4.heap.inj, h4.heap.stb, h4.heap.own, h4.heap.gl.ext hext.st⟩, hext, ⟨rfl, rfl, rfl, Nat.le_refl _, fun _ _ _ => rfl, fun _ h => h, fun _ h => .inl h, fun i o ho hn => .inl ⟨i, o, ho, hn, rfl⟩⟩⟩
  have hrel : Rel X s a { w with drawn := w.drawn + 1 } := ⟨E, fun t m hg => ⟨(h1 t m hg).1, (h1 t m hg).2.keep hst.ext⟩, h2, h3, h4.trans hst⟩
  refine any_of hord hcut ht (Q := lift X Q) (fun a w hr => ⟨_, h, hr.weak (weak_keep _ ts)⟩) _ _ _ _ (by simp) (fun i o ho hp => ?_) (by simp) ?_
  · simp [Array.getD_eq_getD_getElem?, Array.getElem?_replicate] at hp
    split at hp <;> simp at hp
  · refine hrel.weak ⟨fun t m hg => ?_, ?_⟩
    rotate_left
    · have : (cuts.filter fun c => (Array.replicate l.toArray.size false).getD c false) = [] := List.filter_eq_nil_iff.2 fun c _ => by
        simp only [Array.getD_eq_getD_getElem?, Array.getElem?_replicate]
        split <;> simp
      simp only [this]
      exact h0
    simp only at hg
    rw [frP_false _ l 0 ms s.fr (fun j _ => by
      simp only [Array.getD_eq_getD_getElem?, Array.getElem?_replicate]
      split <;> rfl)] at hg
    exact hg

end Go.Av

/- A region that draws its order, as simp walks it. -/
set_option linter.unusedVariables false
set_option linter.unusedSimpArgs false
namespace Go.Av
open Go

section
variable (P : Program) (N : Nat) (ops : Array Oper) (cuts : List Nat) (K : List (Nat × M) → List Ob → Prop)
def mayB (k : Nat) : Bool := cuts.contains k
def DrawK : Nat → List Oper → List (Nat × M) → List Ob → Prop
  | _, [], fr, ob => K fr ob
  | k, o :: rest, fr, ob => dstOK N o = true ∧
    match guardV ops fr o with
    | none => False
    | some false => DrawK (k + 1) rest (putO fr o.dst (.tup [])) ob
    | some true => match callOf P ob fr o.op with
      | some (f, args) => ∃ m ob2, Den P f args ob (fun r ob' => r = m ∧ ob' = ob2) ∧ (mayB cuts k = false → ob2 = ob) ∧ DrawK (k + 1) rest (putO fr o.dst m) ob2
      | none => match evOp P fr ob o.op o.type with
        | some (m, ob') => (mayB cuts k = false → ob' = ob) ∧ DrawK (k + 1) rest (putO fr o.dst m) ob'
        | none => False
variable (k : Nat) (o : Oper) (rest : List Oper) (fr : List (Nat × M)) (ob : List Ob)
def DEv (r : Option (M × List Ob)) : Prop :=
  match r with
  | some (m, ob') => (mayB cuts k = false → ob' = ob) ∧ DrawK P N ops cuts K (k + 1) rest (putO fr o.dst m) ob'
  | none => False
def DCall (c : Option (FuncId × List M)) : Prop :=
  match c with
  | some (f, args) => ∃ m ob2, Den P f args ob (fun r ob' => r = m ∧ ob' = ob2) ∧ (mayB cuts k = false → ob2 = ob) ∧ DrawK P N ops cuts K (k + 1) rest (putO fr o.dst m) ob2
  | none => DEv P N ops cuts K k o rest fr ob (evOp P fr ob o.op o.type)
def DGuard (g : Option Bool) : Prop :=
  match g with
  | some true => DCall P N ops cuts K k o rest fr ob (callOf P ob fr o.op)
  | some false => DrawK P N ops cuts K (k + 1) rest (putO fr o.dst (.tup [])) ob
  | none => False
@[simp] theorem DrawK_nil : DrawK P N ops cuts K k [] fr ob = K fr ob := rfl
@[simp] theorem DrawK_cons : DrawK P N ops cuts K k (o :: rest) fr ob = (dstOK N o = true ∧ DGuard P N ops cuts K k o rest fr ob (guardV ops fr o)) := by
  unfold DrawK DGuard
  congr 1
  cases h : guardV ops fr o with
  | none => rfl
  | some g =>
    cases g with
    | false => rfl
    | true =>
      simp only [DCall]
      cases h3 : callOf P ob fr o.op with
      | some c => rfl
      | none =>
        simp only [DEv]
@[simp] theorem DGuard_true : DGuard P N ops cuts K k o rest fr ob (some true) = DCall P N ops cuts K k o rest fr ob (callOf P ob fr o.op) := rfl
@[simp] theorem DGuard_false : DGuard P N ops cuts K k o rest fr ob (some false) = DrawK P N ops cuts K (k + 1) rest (putO fr o.dst (.tup [])) ob := rfl
@[simp] theorem DCall_none : DCall P N ops cuts K k o rest fr ob none = DEv P N ops cuts K k o rest fr ob (evOp P fr ob o.op o.type) := rfl
@[simp] theorem DCall_some (f : FuncId) (args : List M) : DCall P N ops cuts K k o rest fr ob (some (f, args)) = ∃ m ob2, Den P f args ob (fun r ob' => r = m ∧ ob' = ob2) ∧ (mayB cuts k = false → ob2 = ob) ∧ DrawK P N ops cuts K (k + 1) rest (putO fr o.dst m) ob2 := rfl
@[simp] theorem DEv_some (m : M) : DEv P N ops cuts K k o rest fr ob (some (m, ob)) = DrawK P N ops cuts K (k + 1) rest (putO fr o.dst m) ob := by simp [DEv]
theorem DEv_some2 (m : M) (ob2 : List Ob) : DEv P N ops cuts K k o rest fr ob (some (m, ob2)) = ((mayB cuts k = false → ob2 = ob) ∧ DrawK P N ops cuts K (k + 1) rest (putO fr o.dst m) ob2) := rfl
@[simp] theorem DEv_none : DEv P N ops cuts K k o rest fr ob none = False := rfl
@[simp] theorem DEv_if {p : Prop} [Decidable p] (x : Option (M × List Ob)) : DEv P N ops cuts K k o rest fr ob (if p then x else none) = (p ∧ DEv P N ops cuts K k o rest fr ob x) := by
  by_cases h : p <;> simp [h]
theorem DGuard_b {b : Bool} (ht : b = true → DGuard P N ops cuts K k o rest fr ob (some true)) (hf : b = false → DGuard P N ops cuts K k o rest fr ob (some false)) : DGuard P N ops cuts K k o rest fr ob (some b) := by
  cases b with
  | true => exact ht rfl
  | false => exact hf rfl
theorem DEv_cut (m : M) (ob2 : List Ob) (hc : mayB cuts k = true) (h : DrawK P N ops cuts K (k + 1) rest (putO fr o.dst m) ob2) : DEv P N ops cuts K k o rest fr ob (some (m, ob2)) := ⟨fun h2 => by rw [hc] at h2; simp at h2, h⟩
end

theorem frP_true (l : List Oper) : ∀ (k : Nat) (ms : List M) (fr : List (Nat × M)) (o : Oper) (m : M), frP (fun _ => true) k (o :: l) (m :: ms) fr = frP (fun _ => true) (k + 1) l ms (putO fr o.dst m) := fun _ _ _ _ _ => rfl
theorem frP_shift (l : List Oper) : ∀ (k k' : Nat) (ms : List M) (fr : List (Nat × M)), frP (fun _ => true) k l ms fr = frP (fun _ => true) k' l ms fr := by
  induction l with
  | nil => intro k k' ms fr; cases ms <;> rfl
  | cons o l ih =>
    intro k k' ms fr
    cases ms with
    | nil => rfl
    | cons m ms =>
      rw [frP_true, frP_true]
      exact ih _ _ _ _

theorem nc_succ {cuts : List Nat} (hn : cuts.Nodup) (k : Nat) : nc cuts (k + 1) = nc cuts k + if k ∈ cuts then 1 else 0 := by
  unfold nc
  induction cuts with
  | nil => simp
  | cons c cs ih =>
    have hcs := (List.nodup_cons.1 hn)
    have := ih hcs.2
    by_cases h1 : c = k
    · subst h1
      have h2 : ¬ c ∈ cs := hcs.1
      simp only [h2, if_false, Nat.add_zero] at this
      simp [this]
    · have h3 : (k ∈ c :: cs) ↔ k ∈ cs := by simp [Ne.symm h1]
      simp only [h3]
      by_cases h2 : c < k
      · have : c < k + 1 := by omega
        simp [h2, this] at *
        omega
      · have : ¬ c < k + 1 := by omega
        simp [h2, this] at *
        omega
theorem text_congr {P : Program} {N : Nat} {ops : Array Oper} {cuts : List Nat} {f f' : Nat → List Ob} : ∀ (l : List Oper) (k : Nat) (ms : List M) (fr : List (Nat × M)), (∀ n, nc cuts k ≤ n → f n = f' n) → cuts.Nodup → TextR P N ops cuts f k l ms fr → TextR P N ops cuts f' k l ms fr
  | [], k, [], fr, _, _, _ => trivial
  | [], k, m :: ms, fr, _, _, h => by simp [TextR] at h
  | o :: l, k, [], fr, _, _, h => by simp [TextR] at h
  | o :: l, k, m :: ms, fr, hf, hn, h => by
    obtain ⟨h1, h2⟩ := h
    have hs := nc_succ hn k
    refine ⟨?_, text_congr l (k + 1) ms _ (fun n hle => hf n (by omega)) hn h2⟩
    rw [← hf _ (Nat.le_refl _), ← hf _ (by omega)]
    exact h1
theorem drawK_text {P : Program} {N : Nat} {ops : Array Oper} {cuts : List Nat} {K : List (Nat × M) → List Ob → Prop} (hn : cuts.Nodup) (l : List Oper) : ∀ (k : Nat) (fr : List (Nat × M)) (ob : List Ob), DrawK P N ops cuts K k l fr ob → ∃ ms f, f (nc cuts k) = ob ∧ TextR P N ops cuts f k l ms fr ∧ K (frP (fun _ => true) 0 l ms fr) (f (nc cuts (k + l.length))) := by
  induction l with
  | nil => intro k fr ob h; exact ⟨[], fun _ => ob, rfl, trivial, h⟩
  | cons o rest ih =>
    intro k fr ob h
    rw [DrawK_cons] at h
    obtain ⟨hd, h⟩ := h
    have hs := nc_succ hn k
    have fin : ∀ m ob2, (mayB cuts k = false → ob2 = ob) → StepOK P N ops ob ob2 fr o m → DrawK P N ops cuts K (k + 1) rest (putO fr o.dst m) ob2 → ∃ ms f, f (nc cuts k) = ob ∧ TextR P N ops cuts f k (o :: rest) ms fr ∧ K (frP (fun _ => true) 0 (o :: rest) ms fr) (f (nc cuts (k + (o :: rest).length))) := by
      intro m ob2 hm hst hk
      obtain ⟨ms, f, h0, h1, h2⟩ := ih _ _ _ hk
      have el : k + (o :: rest).length = k + 1 + rest.length := by simp; omega
      by_cases hc : k ∈ cuts
      · rw [if_pos hc] at hs
        have hmono : ∀ n, nc cuts (k + 1) ≤ nc cuts (k + 1 + n) := by
          intro n
          induction n with
          | zero => exact Nat.le_refl _
          | succ n ihn =>
            have := nc_succ hn (k + 1 + n)
            rw [show k + 1 + (n + 1) = k + 1 + n + 1 by omega]
            omega
        refine ⟨m :: ms, fun n => if n ≤ nc cuts k then ob else f n, by simp, ⟨?_, ?_⟩, ?_⟩
        · simp only [Nat.le_refl, if_true]
          rw [if_neg (by omega), h0]
          exact hst
        · refine text_congr rest (k + 1) ms _ (fun n hle => ?_) hn h1
          rw [if_neg (by omega)]
        · rw [frP_true, frP_shift rest 1 0, el]
          simp only
          rw [if_neg (by have := hmono rest.length; omega)]
          exact h2
      · rw [if_neg hc, Nat.add_zero] at hs
        have hmb : mayB cuts k = false := by
          unfold mayB
          simpa using hc
        obtain rfl := hm hmb
        have hs' : nc cuts (k + 1) = nc cuts k := by omega
        refine ⟨m :: ms, f, by rw [← hs']; exact h0, ⟨?_, h1⟩, ?_⟩
        · rw [hs'] at h0 ⊢
          rw [h0]
          exact hst
        · rw [frP_true, frP_shift rest 1 0, el]
          exact h2
    cases hg : guardV ops fr o with
    | none => rw [hg] at h; exact h.elim
    | some g =>
      rw [hg] at h
      cases g with
      | false => exact fin _ ob (fun _ => rfl) ⟨hd, .inl ⟨hg, rfl, rfl⟩⟩ h
      | true =>
        rw [DGuard_true] at h
        cases hc : callOf P ob fr o.op with
        | some c =>
          obtain ⟨f, args⟩ := c
          rw [hc, DCall_some] at h
          obtain ⟨m, ob2, hden, hm, hk⟩ := h
          exact fin m ob2 hm ⟨hd, .inr ⟨hg, .inl ⟨f, args, hc, hden⟩⟩⟩ hk
        | none =>
          rw [hc, DCall_none] at h
          cases hev : evOp P fr ob o.op o.type with
          | none => rw [hev] at h; exact h.elim
          | some r =>
            obtain ⟨m, ob'⟩ := r
            rw [hev] at h
            obtain ⟨hm, hk⟩ := h
            exact fin m ob' hm ⟨hd, .inr ⟨hg, .inr ⟨hc, hev⟩⟩⟩ hk

def KeepF (Q : Exit → St → Prop) (ts : List Nat) (fr : List (Nat × M)) (ob : List Ob) : Prop := Q .normal ⟨keep fr ts, ob⟩
@[simp] theorem KeepF_cons (Q : Exit → St → Prop) (ts : List Nat) (ob : List Ob) (p : Nat × M) (fr : List (Nat × M)) : KeepF Q ts (p :: fr) ob = Q .normal ⟨keep (p :: fr) ts, ob⟩ := rfl
def isCut (o : Op) : Bool :=
  match o with
  | .store .. | .alloc .. | .box .. | .makeSlice .. | .range .. | .next .. | .mapUpdate .. | .makeMap .. => true
  | .call c => match c.callee with
    | .builtin .append | .builtin .copy | .builtin .unsafeString => true
    | _ => false
  | _ => false
def cutsFrom : Nat → List Oper → List Nat
  | _, [] => []
  | k, o :: l => if isCut o.op then k :: cutsFrom (k + 1) l else cutsFrom (k + 1) l
def drawOK (l : List Oper) (cuts : List Nat) : Bool := ordOK l && (cutOK l cuts && decide cuts.Nodup)
theorem awp_drwc {P : Program} {X : Ctx} {id : Nat} {l : List Oper} {Q : Exit → St → Prop} {s : St} (N : Nat) (hN : X.N = N) (ts : List Nat) (cuts : List Nat) (hm : P.follows .mixedOrders = true) (hord : drawOK l cuts = true)
    (h : DrawK P N l.toArray cuts (KeepF Q ts) 0 l s.fr s.ob) : Awp P X (.region id l.toArray true) Q s := by
  unfold drawOK at hord
  simp only [Bool.and_eq_true, decide_eq_true_eq] at hord
  obtain ⟨ho, hcu, hnd⟩ := hord
  obtain ⟨ms, f, h0, h1, h2⟩ := drawK_text hnd l 0 s.fr s.ob h
  have hz : nc cuts 0 = 0 := by unfold nc; simp
  rw [hz] at h0
  rw [Nat.zero_add] at h2
  exact awp_draw N hN ts cuts hm ho hcu ms f h0 h1 h2
theorem awp_drw {P : Program} {X : Ctx} {id : Nat} {l : List Oper} {Q : Exit → St → Prop} {s : St} (N : Nat) (hN : X.N = N) (ts : List Nat) (hm : P.follows .mixedOrders = true) (hord : drawOK l (cutsFrom 0 l) = true)
    (h : DrawK P N l.toArray (cutsFrom 0 l) (KeepF Q ts) 0 l s.fr s.ob) : Awp P X (.region id l.toArray true) Q s := awp_drwc N hN ts _ hm hord h

end Go.Av

/- Weaker tellings; an own slice given up within a function. -/
set_option linter.unusedVariables false
set_option linter.unusedSimpArgs false
namespace Go.Av
open Go
variable {P : Program} {X : Ctx}

def LeC (c c' : C) : Prop := ∀ (w : World) (S : Nat → Prop) (y : Value), RepC w S c y → RepC w S c' y
theorem leC_nil (f : Bool) : LeC (.v (.slice none 0 0)) (.sl [] 0 f) := fun w S y h => by cases h; exact .nl f
def LeCs : List C → List C → Prop
  | [], [] => True
  | c :: r, c' :: r' => LeC c c' ∧ LeCs r r'
  | _, _ => False
theorem LeCs.len {a b : List C} (h : LeCs a b) : a.length = b.length := by
  induction a generalizing b with
  | nil => cases b with
    | nil => rfl
    | cons _ _ => exact h.elim
  | cons x a ih => cases b with
    | nil => exact h.elim
    | cons y b => simp [ih h.2]
theorem LeCs.get {a b : List C} (h : LeCs a b) : ∀ (j : Nat) c c', a[j]? = some c → b[j]? = some c' → LeC c c' := by
  induction a generalizing b with
  | nil => intro j c c' h1; simp at h1
  | cons x a ih =>
    cases b with
    | nil => exact h.elim
    | cons y b =>
      intro j c c' h1 h2
      cases j with
      | zero => obtain rfl := Option.some.inj h1; obtain rfl := Option.some.inj h2; exact h.1
      | succ j => exact ih h.2 j c c' (by simpa using h1) (by simpa using h2)
def LeM (m m' : M) : Prop := ∀ (w : World) (E : Env) (ob : List Ob) (y : Value), RepM w E ob m y → RepM w E ob m' y
theorem leM_c {c c' : C} (h : LeC c c') : LeM (.c c) (.c c') := fun w E ob y hy => by
  cases hy with
  | c hc => exact .c (h _ _ _ hc)
def LeMs : List M → List M → Prop
  | [], [] => True
  | c :: r, c' :: r' => LeM c c' ∧ LeMs r r'
  | _, _ => False
theorem LeMs.len {a b : List M} (h : LeMs a b) : a.length = b.length := by
  induction a generalizing b with
  | nil => cases b with
    | nil => rfl
    | cons _ _ => exact h.elim
  | cons x a ih => cases b with
    | nil => exact h.elim
    | cons y b => simp [ih h.2]
theorem LeMs.get {a b : List M} (h : LeMs a b) : ∀ (j : Nat) c c', a[j]? = some c → b[j]? = some c' → LeM c c' := by
  induction a generalizing b with
  | nil => intro j c c' h1; simp at h1
  | cons x a ih =>
    cases b with
    | nil => exact h.elim
    | cons y b =>
      intro j c c' h1 h2
      cases j with
      | zero => obtain rfl := Option.some.inj h1; obtain rfl := Option.some.inj h2; exact h.1
      | succ j => exact ih h.2 j c c' (by simpa using h1) (by simpa using h2)
theorem Den.le {f : FuncId} {args args' : List M} {ob : List Ob} {Q : M → List Ob → Prop} (h : Den P f args' ob Q) (hl : LeMs args args') : Den P f args ob Q := by
  refine fun w E vals h1 h2 h3 => h w E vals (h1.trans hl.len) (fun j m' hm => ?_) h3
  have hj := (List.getElem?_eq_some_iff.1 hm).1
  have hlen := hl.len
  have hm0 : args[j]? = some args[j] := List.getElem?_eq_getElem (by omega)
  exact hl.get j _ m' hm0 hm w E ob _ (h2 j _ hm0)
mutual
def ltB (n : Nat) : M → Bool
  | .c _ => true
  | .ms i _ _ _ => decide (i < n)
  | .mp i _ _ => decide (i < n)
  | .mi _ i _ _ => decide (i < n)
  | .it i => decide (i < n)
  | .mm i => decide (i < n)
  | .junk => true
  | .agg ms => ltBs n ms
  | .tup ms => ltBs n ms
  | .mf _ a b => ltBs n a && ltBs n b
def ltBs (n : Nat) : List M → Bool
  | [] => true
  | m :: r => ltB n m && ltBs n r
end
theorem ltBs_up (n : Nat) (cs : List C) : ltBs n (up cs) = true := by
  induction cs with
  | nil => rfl
  | cons c cs ih =>
    simp only [up, List.map_cons, ltBs, ltB, Bool.true_and]
    exact ih
mutual
theorem lt_of_ltB {n : Nat} : ∀ {m : M}, ltB n m = true → Lt n m
  | .c x, h => .c x
  | .ms i g off k, h => .ms _ _ _ _ (by simpa [ltB] using h)
  | .mp i g off, h => .mp _ _ _ (by simpa [ltB] using h)
  | .mi t i g off, h => .mi _ _ _ _ (by simpa [ltB] using h)
  | .it i, h => .it _ (by simpa [ltB] using h)
  | .mm i, h => .mm _ (by simpa [ltB] using h)
  | .junk, h => .junk
  | .agg ms, h => .agg _ (lt_of_ltBs (by simpa only [ltB] using h))
  | .tup ms, h => .tup _ (lt_of_ltBs (by simpa only [ltB] using h))
  | .mf fn a b, h => .mf _ _ _ (lt_of_ltBs (by simp only [ltB, Bool.and_eq_true] at h; exact h.1)) (lt_of_ltBs (by simp only [ltB, Bool.and_eq_true] at h; exact h.2))
theorem lt_of_ltBs {n : Nat} : ∀ {ms : List M}, ltBs n ms = true → ∀ (j : Nat) (m : M), ms[j]? = some m → Lt n m
  | [], h, j, m, hm => by simp at hm
  | x :: r, h, j, m, hm => by
    simp only [ltBs, Bool.and_eq_true] at h
    cases j with
    | zero => obtain rfl := Option.some.inj hm; exact lt_of_ltB h.1
    | succ j => exact lt_of_ltBs h.2 j m (by simpa using hm)
end

theorem step_give2 {w w' : World} {E E' : Env} {ob mid ext : List Ob} (hs : Step w E ob w' E' ((ob ++ mid) ++ ext)) (h0 : ∀ (i : Nat) (o : Ob) (j : Nat) (m : M), (ob ++ mid)[i]? = some o → o.iter = none → o.cs[j]? = some m → Lt (ob ++ mid).length m) :
    Step w E ob w' { E' with st := fun b => E'.st b ∨ ∃ (i : Nat) (o : Ob), ext[i]? = some o ∧ o.nil = false ∧ b = E'.blk ((ob ++ mid).length + i) } (ob ++ mid) := by
  obtain ⟨hh, hx, hb⟩ := hs
  generalize hom : ob ++ mid = om at *
  have hinc : ∀ (i : Nat) (q : Ob), om[i]? = some q → (om ++ ext)[i]? = some q := fun i q hq => by
    rw [List.getElem?_append_left (List.getElem?_eq_some_iff.1 hq).1]; exact hq
  have hnew : ∀ (i : Nat) (q : Ob), ext[i]? = some q → (om ++ ext)[om.length + i]? = some q := fun i q hq => by
    rw [List.getElem?_append_right (by omega)]; simpa using hq
  have hne : ∀ (i k : Nat) (q o : Ob), om[i]? = some q → q.nil = false → ext[k]? = some o → o.nil = false → E'.blk i ≠ E'.blk (om.length + k) := fun i k q o hq hqn ho hon he => by
    have h1 := hh.inj i (om.length + k) q o (hinc i q hq) (hnew k o ho) hqn hon he
    have h2 := (List.getElem?_eq_some_iff.1 hq).1
    omega
  have hext : Ext w' E' (om ++ ext) w' { E' with st := fun b => E'.st b ∨ ∃ (i : Nat) (o : Ob), ext[i]? = some o ∧ o.nil = false ∧ b = E'.blk (om.length + i) } (om ++ ext) :=
    ⟨fun b hb => ⟨.inl hb, rfl⟩, fun i q hq => ⟨q, hq, Nat.le_refl _, rfl, fun _ => rfl, fun _ => ⟨rfl, rfl, rfl, rfl⟩⟩⟩
  refine ⟨⟨fun i q hq => ?_, fun i j oi oj hi hj ni nj he => hh.inj i j oi oj (hinc i oi hi) (hinc j oj hj) ni nj he, fun b hb => ?_, fun i q hq hn => ?_, hh.gl.ext hext.st⟩, ⟨fun b hb => ⟨.inl (hx.st b hb).1, (hx.st b hb).2⟩, fun i q hq => ?_⟩, ⟨hb.os, hb.tape, hb.output, hb.size, hb.block, fun b h => .inl (hb.st b h), fun b h => ?_, fun i q hq hn => hb.own i q (hinc i q hq) hn⟩⟩
  · have h1 := hh.obj i q (hinc i q hq)
    unfold ObOK at h1 ⊢
    split
    · rename_i q0 hit
      rw [hit] at h1
      exact ⟨(h1.1.keep hext rfl rfl).less (List.getElem?_eq_some_iff.1 hq).1, h1.2⟩
    · rename_i hit
      rw [hit] at h1
      refine ⟨h1.1, fun hn => ?_⟩
      obtain ⟨arr, lo, hi, e1, e2, e3, e4⟩ := h1.2 hn
      refine ⟨arr, lo, hi, e1, e2, e3, fun j m hm => ?_⟩
      obtain ⟨y, hy, q1, q2⟩ := e4 j m hm
      exact ⟨y, hy, q1, rep_lower (q2.keep hext) (h0 i q j m hq hit hm)⟩
  · rcases hb with hb | ⟨i, o, ho, hn, rfl⟩
    · exact hh.stb b hb
    · exact (hh.own _ o (hnew i o ho) hn).2
  · obtain ⟨a, b⟩ := hh.own i q (hinc i q hq) hn
    refine ⟨fun hs => ?_, b⟩
    rcases hs with hs | ⟨k, o, ho, hon, he⟩
    · exact a hs
    · exact hne i k q o hq hn ho hon he
  · obtain ⟨q', hq', r⟩ := hx.ob i q hq
    have hlt := (List.getElem?_eq_some_iff.1 hq).1
    have : om[i]? = some q' := by rw [← hq', List.getElem?_append_left (by rw [← hom]; simp; omega)]
    exact ⟨q', this, r⟩
  · rcases h with h | ⟨i, o, ho, hn, rfl⟩
    · exact hb.st_of b h
    · rcases hb.own _ o (hnew i o ho) hn with h | hge
      · exact .inr (.inl h)
      · exact .inr (.inr hge)

theorem cells_lt {w : World} {E : Env} {ob : List Ob} (h : HeapOK w E ob) : ∀ (i : Nat) (o : Ob) (j : Nat) (m : M), ob[i]? = some o → o.cs[j]? = some m → o.iter = none → Lt ob.length m := fun i o j m hi hj hit => by
  have h1 := h.obj i o hi
  unfold ObOK at h1
  rw [hit] at h1
  cases hn : o.nil with
  | true => rw [h1.1 hn] at hj; simp at hj
  | false =>
    obtain ⟨arr, lo, hi', e1, e2, e3, e4⟩ := h1.2 hn
    obtain ⟨y, hy, q1, q2⟩ := e4 j m hj
    exact lt_of_rep q2

theorem lt_mono {n k : Nat} (h : n ≤ k) {m : M} (hm : Lt n m) : Lt k m := by
  induction hm with
  | c x => exact .c x
  | agg ms h ih => exact .agg _ ih
  | tup ms h ih => exact .tup _ ih
  | ms i g off q h => exact .ms _ _ _ _ (by omega)
  | mp i g off h => exact .mp _ _ _ (by omega)
  | mi t i g off h => exact .mi _ _ _ _ (by omega)
  | mf fn a b h1 h2 ih1 ih2 => exact .mf _ _ _ ih1 ih2
  | it i h => exact .it _ (by omega)
  | mm i h => exact .mm _ (by omega)
  | junk => exact .junk
theorem get_mem {fr : List (Nat × M)} {t : Nat} {m : M} (h : get fr t = some m) : (t, m) ∈ fr := by
  induction fr with
  | nil => simp [get] at h
  | cons p r ih =>
    obtain ⟨u, q⟩ := p
    simp only [get] at h
    split at h
    · rename_i e; subst e; obtain rfl := Option.some.inj h; simp
    · exact List.mem_cons_of_mem _ (ih h)
theorem awp_for {G : Type} {c : Code} {Q : Exit → St → Prop} {s : St} (ts : List Nat) (S : Nat → G → St) (H : Nat → G → Prop) (n : Nat) (g0 : G) (h0 : H 0 g0) (hs : (⟨keep s.fr ts, s.ob⟩ : St) = S 0 g0)
    (h : ∀ (i : Nat) (g : G) (Q1 : Exit → St → Prop), i ≤ n → H i g → (∀ s' (g' : G), i < n → H (i + 1) g' → (⟨keep s'.fr ts, s'.ob⟩ : St) = S (i + 1) g' → Q1 .normal s') → (∀ e s', isN e = false → Q e s' → Q1 e s') → Awp P X c Q1 (S i g)) : Awp P X (.loop c) Q s := by
  refine awp_loop_g ts (fun m s => ∃ i g, i ≤ n ∧ m = n - i ∧ H i g ∧ s = S i g) n ⟨0, g0, by omega, by omega, h0, hs⟩ ?_
  rintro m s Q1 ⟨i, g, hi, rfl, hH, rfl⟩ hn ho
  exact h i g Q1 hi hH (fun s' g' hlt hH' e => hn s' ⟨n - (i + 1), by omega, i + 1, g', by omega, rfl, hH', e⟩) ho

theorem Den.det {f : FuncId} {args : List M} {ob ob2 : List Ob} {m : M} {K : M → List Ob → Prop} (h : Den P f args ob fun r ob' => r = m ∧ ob' = ob2) (k : K m ob2) : Den P f args ob K :=
  h.mono fun r ob' ⟨e1, e2⟩ => by rw [e1, e2]; exact k
theorem Den.drop {f : FuncId} {args : List M} {ob : List Ob} {Q Q' : M → List Ob → Prop} (h : Den P f args ob Q)
    (hq : ∀ r ob', Q r ob' → ∃ (ext : List Ob), Lt ob.length r ∧ ob' = ob ++ ext ∧ Q' r ob) : Den P f args ob Q' := by
  refine fun w E vals h1 h2 h3 => (h w E vals h1 h2 h3).mono ?_
  rintro v w' ⟨r, ob', E', q, hr, hs⟩
  obtain ⟨ext, hl, rfl, hq'⟩ := hq r ob' q
  refine ⟨r, ob, _, hq', ?_, step_give h3 hs⟩
  refine rep_lower (ext := ext) (hr.keep ?_) hl
  exact ⟨fun b hb => ⟨.inl hb, rfl⟩, fun i q hq => ⟨q, hq, Nat.le_refl _, rfl, fun _ => rfl, fun _ => ⟨rfl, rfl, rfl, rfl⟩⟩⟩
end Go.Av

/- An argument that reads as data is a closed datum of its type; a law's contract, as a call. -/
set_option linter.unusedVariables false
set_option linter.unusedSimpArgs false
namespace Go.Av
open Go

def Reads (W : World) (es : List C) (cs : List Value) : Prop := es.length = cs.length ∧ ∀ (j : Nat) c y, es[j]? = some c → cs[j]? = some y → one1 y = true ∧ RepC W (fun b => b < W.heap.size) c y
def Opens (P : Program) (t : TypeId) {A : Type} (enc : A → List C) (Hyp : A → Prop) : Prop :=
  ∀ (H : Type) (e0 : TypeId × Value → H) (W : World) (fuel : Nat) (cs : List Value) (x : DataW H × List MemPlace), DataW.trod e0 P W 0 (fun _ => true) true fuel t cs = some x → ∃ a, Hyp a ∧ Reads W (enc a) cs

theorem Opens.conv {P : Program} {t : TypeId} {A B : Type} {enc : A → List C} {Hyp : A → Prop} {enc' : B → List C} {Hyp' : B → Prop} (h : Opens P t enc Hyp) (hc : ∀ a, Hyp a → ∃ b, Hyp' b ∧ enc' b = enc a) : Opens P t enc' Hyp' := fun H e0 W fuel cs x hx => by
  obtain ⟨a, ha, hr⟩ := h H e0 W fuel cs x hx
  obtain ⟨b, hb, he⟩ := hc a ha
  exact ⟨b, hb, by rw [he]; exact hr⟩
theorem reads1 {W : World} {c : C} {y : Value} (h1 : one1 y = true) (h2 : RepC W (fun b => b < W.heap.size) c y) : Reads W [c] [y] := by
  refine ⟨rfl, fun j c' y' hc hy => ?_⟩
  cases j with
  | zero => simp at hc hy; subst hc; subst hy; exact ⟨h1, h2⟩
  | succ j => simp at hc

variable {P : Program}
theorem opens_int {t : TypeId} {k : IntKind} (ht : P.underlying t = some (.int k)) : Opens P t (fun n : Int => [.v (.int k n)]) (fun n => (Lit.int k n).wf = true) := fun H e0 W fuel cs x hx => by
  obtain ⟨n, rfl, rfl, hw⟩ := DataW.trod_int ht hx
  exact ⟨n, hw, reads1 rfl (.v _)⟩
theorem opens_string {t : TypeId} (ht : P.underlying t = some .string) : Opens P t (fun s : ByteArray => [.v (.string s)]) (fun s => s.size ≤ maxLen) := fun H e0 W fuel cs x hx => by
  obtain ⟨n, rfl, rfl, hw⟩ := DataW.trod_string ht hx
  exact ⟨n, hw, reads1 rfl (.v _)⟩

theorem list_choose {A : Type} {p : Nat → A → Prop} (n : Nat) (h : ∀ i, i < n → ∃ a, p i a) : ∃ l : List A, l.length = n ∧ ∀ i a, l[i]? = some a → p i a := by
  induction n with
  | zero => exact ⟨[], rfl, fun i a h => by simp at h⟩
  | succ n ih =>
    obtain ⟨l, hl, hp⟩ := ih fun i hi => h i (by omega)
    obtain ⟨a, ha⟩ := h n (by omega)
    refine ⟨l ++ [a], by simp [hl], fun i b hb => ?_⟩
    rw [getElem?_snoc] at hb
    split at hb
    · exact hp i b hb
    · split at hb
      · obtain rfl := Option.some.inj hb
        rename_i h1 h2
        have : i = n := by omega
        rw [this]; exact ha
      · simp at hb
theorem flat_len {A B : Type} {f : A → List B} {sz : Nat} (hf : ∀ a, (f a).length = sz) (l : List A) : (l.flatMap f).length = l.length * sz := by
  induction l with
  | nil => simp
  | cons a l ih => simp [hf, ih, Nat.add_mul]; omega
theorem flat_get {A B : Type} {f : A → List B} {sz : Nat} (hf : ∀ a, (f a).length = sz) {l : List A} : ∀ {j : Nat} {c : B}, (l.flatMap f)[j]? = some c → ∃ i r a, j = i * sz + r ∧ r < sz ∧ l[i]? = some a ∧ (f a)[r]? = some c := by
  induction l with
  | nil => intro j c h; simp at h
  | cons a l ih =>
    intro j c h
    simp only [List.flatMap_cons] at h
    by_cases hj : j < sz
    · rw [List.getElem?_append_left (by rw [hf]; exact hj)] at h
      exact ⟨0, j, a, by omega, hj, rfl, h⟩
    · rw [List.getElem?_append_right (by rw [hf]; omega), hf] at h
      obtain ⟨i, r, b, h1, h2, h3, h4⟩ := ih h
      refine ⟨i + 1, r, b, ?_, h2, by simpa using h3, h4⟩
      rw [Nat.add_mul]; omega
theorem cell_lt {W : World} {a : Addr} {y : Value} (h : W.cell? a = some y) : a.block < W.heap.size := by
  unfold World.cell? at h
  rcases Nat.lt_or_ge a.block W.heap.size with hlt | hge
  · exact hlt
  · rw [Array.getElem?_eq_none hge] at h
    simp at h

theorem opens_array {t e : TypeId} {n : Nat} {A : Type} {enc : A → List C} {Hyp : A → Prop} (ht : P.underlying t = some (.array n e)) (hc : P.cellsOf t = n * P.cellsOf e) (hsz : ∀ a, (enc a).length = P.cellsOf e) (he : Opens P e enc Hyp) :
    Opens P t (fun l : List A => l.flatMap enc) (fun l => l.length = n ∧ ∀ a ∈ l, Hyp a) := fun H e0 W fuel cs x hx => by
  obtain ⟨xs, m, _, _, hlen, hxl, hel⟩ := DataW.trod_array ht hx
  obtain ⟨l, hll, hp⟩ := list_choose (p := fun i q => Hyp q ∧ ∀ (r : Nat) c y, r < P.cellsOf e → (enc q)[r]? = some c → cs[i * P.cellsOf e + r]? = some y → one1 y = true ∧ RepC W (fun b => b < W.heap.size) c y) n (fun i hi => by
    have h1 := hel i hi
    have h2 : xs[i]? = some xs[i] := List.getElem?_eq_getElem (by omega)
    rw [h2] at h1
    obtain ⟨q, hq, hlq, hrq⟩ := he H e0 W m _ _ h1
    refine ⟨q, hq, fun r c y hr hcq hy => hrq r c y hcq ?_⟩
    rw [List.getElem?_take_of_lt hr, List.getElem?_drop]
    exact hy)
  refine ⟨l, ⟨hll, fun q hq => ?_⟩, ?_, fun j c y hj hy => ?_⟩
  · obtain ⟨i, hi⟩ := List.getElem?_of_mem hq
    exact (hp i q hi).1
  · rw [flat_len hsz, hll, hlen, hc]
  · obtain ⟨i, r, q, rfl, hr, h3, h4⟩ := flat_get hsz hj
    exact (hp i q h3).2 r c y hr h4 hy

def E0 (W : World) : Env := ⟨fun b => b < W.heap.size, fun _ => 0, fun _ => 0⟩
theorem arg1 {W : World} {c : C} {v : Value} {cs : List Value} (hcs : cs = [v]) (h : Reads W [c] cs) : RepM W (E0 W) [] (.c c) v := by
  subst hcs
  exact .c (h.2 0 c v rfl rfl).2
theorem argn {W : World} {es : List C} {arr : Array Value} (h : Reads W es arr.toList) : RepM W (E0 W) [] (.agg (up es)) (.agg arr) := by
  obtain ⟨hl, hr⟩ := h
  have hl' : es.length = arr.size := by simpa using hl
  refine .agg _ arr (by simp [up, hl']) (fun j hj => ?_) (fun j hj m hm => ?_)
  · exact (hr j es[j] arr[j] (List.getElem?_eq_getElem (by omega)) (by simp [hj])).1
  · simp only [up, List.getElem?_map, Option.map_eq_some_iff] at hm
    obtain ⟨c, hc, rfl⟩ := hm
    exact .c (hr j c arr[j] hc (by simp [hj])).2
theorem law_calls {f : FuncId} {args : List M} (hok : okF P f = true) (hden : Den P f args [] fun r ob' => r = .c (bC true) ∧ ob' = []) (W : World) (vals : Array Value) (hs : vals.size = args.length)
    (hrep : ∀ (j : Nat) m, args[j]? = some m → RepM W (E0 W) [] m (vals.getD j undef)) (hgl : ∀ a v, (a, v) ∈ glist → W.cell? a = some v := by intro a v h; simp [glist] at h) : Calls P f vals W fun e W' => e = .returned (.bool true) ∧ RowKit.Below W.heap.size W W' := by
  have := hden W (E0 W) vals hs hrep ⟨fun i o h => by simp at h, fun i j oi oj h => by simp at h, fun b h => h, fun i o h => by simp at h, fun a v h => ⟨cell_lt (hgl a v h), hgl a v h⟩⟩
  rcases this with ⟨_, this⟩ | ⟨v, w', hv, _⟩
  · refine this.mono ?_
    rintro e W' ⟨v, rfl, r, ob', E', ⟨rfl, rfl⟩, hr, hst⟩
    cases hr with
    | c hc =>
      cases hc
      exact ⟨rfl, hst.base.os, hst.base.tape, hst.base.output, hst.base.size, fun k hk => hst.base.block k hk fun ⟨i, o, h, _⟩ => by simp at h⟩
  · rw [run_callFunc hok] at hv
    simp at hv
end Go.Av

/- Functions of the outer world that hand back what they get; a nil slice within an object. -/
set_option linter.unusedVariables false
set_option linter.unusedSimpArgs false
namespace Go.Av
open Go
variable {P : Program} {X : Ctx}

theorem Den.dropM {f : FuncId} {args : List M} {ob : List Ob} {m : M} (hm : ltB ob.length m = true) (h : Den P f args ob fun r ob' => r = m ∧ ∃ e, ob' = ob ++ e) : Den P f args ob fun r ob' => r = m ∧ ob' = ob :=
  h.drop fun r ob' ⟨h1, e, h2⟩ => ⟨e, by rw [h1]; exact lt_of_ltB hm, h2, h1, rfl⟩
end Go.Av

/- Short forms: contracts of functions that answer with a datum and change nothing; loops told by what they change. -/
set_option linter.unusedVariables false
namespace Go.Av
open Go
variable {P : Program} {X : Ctx}

abbrev DenV (P : Program) (f : FuncId) (args : List M) (r : M) : Prop := ∀ ob, Den P f args ob fun r' ob' => r' = r ∧ ob' = ob

theorem awp_forU {G : Type} {c : Code} {Q : Exit → St → Prop} {fr : List (Nat × M)} {ob0 : List Ob} (ts : List Nat) (F : Nat → G → List (Nat × M)) (O : Nat → G → List Ob) (H : Nat → G → Prop) (n : Nat) (g0 : G) (h0 : H 0 g0)
    (hs : keep fr ts = keep (F 0 g0 ++ fr) ts) (ho : ob0 = O 0 g0)
    (h : ∀ (i : Nat) (g : G) (Q1 : Exit → St → Prop), i ≤ n → H i g → (∀ fr' ob' (g' : G), i < n → H (i + 1) g' → keep fr' ts = keep (F (i + 1) g' ++ fr) ts → ob' = O (i + 1) g' → Q1 .normal ⟨fr', ob'⟩) → (∀ e s', isN e = false → Q e s' → Q1 e s') → Awp P X c Q1 ⟨keep (F i g ++ fr) ts, O i g⟩) : Awp P X (.loop c) Q ⟨fr, ob0⟩ := by
  refine awp_for ts (fun i g => ⟨keep (F i g ++ fr) ts, O i g⟩) H n g0 h0 (by simp only; rw [hs, ho]) ?_
  rintro i g Q1 hi hH next other
  exact h i g Q1 hi hH (fun fr' ob' g' a b c d => next ⟨fr', ob'⟩ g' a b (by simp only; rw [c, d])) other

theorem awp_whileU {G : Type} {c : Code} {Q : Exit → St → Prop} {fr : List (Nat × M)} {ob0 : List Ob} (ts : List Nat) (F : G → List (Nat × M)) (O : G → List Ob) (H : G → Prop) (m : G → Nat) (g0 : G) (h0 : H g0)
    (hs : keep fr ts = keep (F g0 ++ fr) ts) (ho : ob0 = O g0)
    (h : ∀ (g : G) (Q1 : Exit → St → Prop), H g → (∀ fr' ob' (g' : G), m g' < m g → H g' → keep fr' ts = keep (F g' ++ fr) ts → ob' = O g' → Q1 .normal ⟨fr', ob'⟩) → (∀ e s', isN e = false → Q e s' → Q1 e s') → Awp P X c Q1 ⟨keep (F g ++ fr) ts, O g⟩) : Awp P X (.loop c) Q ⟨fr, ob0⟩ := by
  refine awp_loop_g ts (fun k s => ∃ g, H g ∧ m g = k ∧ s = ⟨keep (F g ++ fr) ts, O g⟩) (m g0) ⟨g0, h0, rfl, by rw [hs, ho]⟩ ?_
  rintro k s Q1 ⟨g, hH, rfl, rfl⟩ hn hother
  exact h g Q1 hH (fun fr' ob' g' hlt hH' e1 e2 => hn _ ⟨m g', hlt, g', hH', rfl, by simp only; rw [e1, e2]⟩) hother
end Go.Av
namespace Go.Av
@[simp] theorem flat_rep (n : Nat) (c : C) : (List.replicate n [M.c c]).flatten = up (List.replicate n c) := by
  induction n with
  | zero => rfl
  | succ n ih => rw [List.replicate_succ, List.flatten_cons, ih]; rfl
@[simp] theorem rep_up (n : Nat) (c : C) : List.replicate n (M.c c) = up (List.replicate n c) := by simp [up]
end Go.Av

namespace Go.Av
@[simp] theorem ltBs_up' (n : Nat) (cs : List C) : ltBs n (up cs) = true := ltBs_up n cs
end Go.Av

namespace Go.Av
end Go.Av

namespace Go.Av
@[simp] theorem eqM_nil : eqM [] [] [] = some true := rfl
@[simp] theorem eqM_cons (k : Nat) (ks : List Nat) (a b : M) (r s : List M) : eqM (k :: ks) (a :: r) (b :: s) = (match eqLeaf k a b, eqM ks r s with
    | some x, some y => some (x && y)
    | _, _ => none) := rfl
attribute [simp] eqLeaf
theorem eqM_ints {k : IntKind} : ∀ (n : Nat) (xs ys : List Int), xs.length = n → ys.length = n → eqM (List.replicate n 0) (up (xs.map fun x => .v (.int k x))) (up (ys.map fun x => .v (.int k x))) = some (decide (xs = ys))
  | 0, [], [], _, _ => rfl
  | n + 1, x :: xs, y :: ys, h1, h2 => by
    have ih := eqM_ints (k := k) n xs ys (by simpa using h1) (by simpa using h2)
    simp only [up, List.map_cons, List.replicate_succ] at *
    simp only [eqM_cons, eqLeaf, if_true, ih, List.cons.injEq, Bool.decide_and]
end Go.Av
