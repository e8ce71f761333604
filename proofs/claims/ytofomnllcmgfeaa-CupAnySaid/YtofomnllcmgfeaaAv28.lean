/- Numbers: what wraps, and bits, by words. -/
import Derived.Test.YtofomnllcmgfeaaAv27
set_option linter.unusedVariables false
set_option linter.unusedSimpArgs false
namespace Go.Av
open Go

theorem wrapU8 (x : Int) (h : 0 ≤ x ∧ x < 256) : IntKind.u8.wrap x = x := by simp [IntKind.wrap, IntKind.signed, IntKind.bits]; omega
theorem wrapU32 (x : Int) (h : 0 ≤ x ∧ x < 4294967296) : IntKind.u32.wrap x = x := by simp [IntKind.wrap, IntKind.signed, IntKind.bits]; omega
theorem wrapU64 (x : Int) (h : 0 ≤ x ∧ x < 18446744073709551616) : IntKind.u64.wrap x = x := by simp [IntKind.wrap, IntKind.signed, IntKind.bits]; omega
theorem wrapI32 (x : Int) (h : -2147483648 ≤ x ∧ x < 2147483648) : IntKind.i32.wrap x = x := by simp [IntKind.wrap, IntKind.signed, IntKind.bits]; omega
theorem wrapI64 (x : Int) (h : -9223372036854775808 ≤ x ∧ x < 9223372036854775808) : IntKind.i64.wrap x = x := by simp [IntKind.wrap, IntKind.signed, IntKind.bits]; omega
theorem modU8 (x : Int) : IntKind.u8.wrap x = x % 256 := by simp [IntKind.wrap, IntKind.signed, IntKind.bits]
theorem modU32 (x : Int) : IntKind.u32.wrap x = x % 4294967296 := by simp [IntKind.wrap, IntKind.signed, IntKind.bits]
theorem modU64 (x : Int) : IntKind.u64.wrap x = x % 18446744073709551616 := by simp [IntKind.wrap, IntKind.signed, IntKind.bits]

theorem mul_pow2 (x n : Nat) : (x : Int) * 2 ^ n = ((x * 2 ^ n : Nat) : Int) := by rw [Int.natCast_mul, Int.natCast_pow]; rfl
theorem fdiv_pow (x n : Nat) : ((x : Int)).fdiv (2 ^ n) = ((x / 2 ^ n : Nat) : Int) := by
  rw [Int.fdiv_eq_ediv_of_nonneg _ (by have : (0 : Int) < 2 ^ n := Int.pow_pos (by omega); omega)]
  norm_cast
theorem fdiv_nat (x n : Nat) : ((x : Int)).fdiv (n : Int) = ((x / n : Nat) : Int) := by
  rw [Int.fdiv_eq_ediv_of_nonneg _ (by omega)]
  norm_cast
theorem tdiv_nat (x n : Nat) : ((x : Int)).tdiv (n : Int) = ((x / n : Nat) : Int) := rfl
theorem tmod_nat (x n : Nat) : ((x : Int)).tmod (n : Int) = ((x % n : Nat) : Int) := rfl

/-! ### words of 32 bits -/
def w32 (x : BitVec 32) : C := .v (.int .u32 (x.toNat : Int))
def w64 (x : BitVec 64) : C := .v (.int .u64 (x.toNat : Int))
theorem ofI32 (x : BitVec 32) : BitVec.ofInt IntKind.u32.bits (x.toNat : Int) = x := by
  show BitVec.ofInt 32 (x.toNat : Int) = x
  rw [BitVec.ofInt_natCast, BitVec.ofNat_toNat, BitVec.setWidth_eq]
theorem toI32 (x : BitVec 32) : IntKind.u32.wrap (x.toNat : Int) = (x.toNat : Int) := wrapU32 _ (by have := x.isLt; omega)
theorem add32 (x y : BitVec 32) : IntKind.u32.wrap ((x.toNat : Int) + (y.toNat : Int)) = ((x + y).toNat : Int) := by rw [modU32, BitVec.toNat_add]; omega
theorem mul32 (x y : BitVec 32) : IntKind.u32.wrap ((x.toNat : Int) * (y.toNat : Int)) = ((x * y).toNat : Int) := by rw [modU32, BitVec.toNat_mul, ← Int.natCast_mul]; generalize x.toNat * y.toNat = m; omega
theorem sub32 (x y : BitVec 32) : IntKind.u32.wrap ((x.toNat : Int) - (y.toNat : Int)) = ((x - y).toNat : Int) := by
  have := x.isLt
  have := y.isLt
  rw [modU32, BitVec.toNat_sub]; omega
theorem and32 (x y : BitVec 32) : andI .u32 (x.toNat : Int) (y.toNat : Int) = ((x &&& y).toNat : Int) := by unfold andI; rw [ofI32, ofI32]; exact toI32 _
theorem or32 (x y : BitVec 32) : orI .u32 (x.toNat : Int) (y.toNat : Int) = ((x ||| y).toNat : Int) := by unfold orI; rw [ofI32, ofI32]; exact toI32 _
theorem xor32 (x y : BitVec 32) : xorI .u32 (x.toNat : Int) (y.toNat : Int) = ((x ^^^ y).toNat : Int) := by unfold xorI; rw [ofI32, ofI32]; exact toI32 _
theorem not32 (x : BitVec 32) : IntKind.u32.wrap ((BitVec.ofInt IntKind.u32.bits IntKind.u32.max ^^^ BitVec.ofInt IntKind.u32.bits (x.toNat : Int)).toNat : Int) = ((~~~ x).toNat : Int) := by
  rw [ofI32]
  show IntKind.u32.wrap (((BitVec.ofInt 32 IntKind.u32.max ^^^ x : BitVec 32)).toNat : Int) = _
  rw [show BitVec.ofInt 32 IntKind.u32.max = BitVec.allOnes 32 from by decide, BitVec.allOnes_xor]
  exact toI32 _
theorem shr32 (x : BitVec 32) (n : Nat) : ((x.toNat : Int)).fdiv (2 ^ n) = ((x >>> n).toNat : Int) := by rw [fdiv_pow, BitVec.toNat_ushiftRight, Nat.shiftRight_eq_div_pow]
theorem shl32 (x : BitVec 32) (n : Nat) : IntKind.u32.wrap ((x.toNat : Int) * 2 ^ n) = ((x <<< n).toNat : Int) := by
  rw [modU32, BitVec.toNat_shiftLeft, Nat.shiftLeft_eq, mul_pow2]
  generalize x.toNat * 2 ^ n = m
  omega
/-! ### words of 64 bits -/
theorem ofI64 (x : BitVec 64) : BitVec.ofInt IntKind.u64.bits (x.toNat : Int) = x := by
  show BitVec.ofInt 64 (x.toNat : Int) = x
  rw [BitVec.ofInt_natCast, BitVec.ofNat_toNat, BitVec.setWidth_eq]
theorem toI64 (x : BitVec 64) : IntKind.u64.wrap (x.toNat : Int) = (x.toNat : Int) := wrapU64 _ (by have := x.isLt; omega)
theorem add64 (x y : BitVec 64) : IntKind.u64.wrap ((x.toNat : Int) + (y.toNat : Int)) = ((x + y).toNat : Int) := by rw [modU64, BitVec.toNat_add]; omega
theorem mul64 (x y : BitVec 64) : IntKind.u64.wrap ((x.toNat : Int) * (y.toNat : Int)) = ((x * y).toNat : Int) := by rw [modU64, BitVec.toNat_mul, ← Int.natCast_mul]; generalize x.toNat * y.toNat = m; omega
theorem sub64 (x y : BitVec 64) : IntKind.u64.wrap ((x.toNat : Int) - (y.toNat : Int)) = ((x - y).toNat : Int) := by
  have := x.isLt
  have := y.isLt
  rw [modU64, BitVec.toNat_sub]; omega
theorem and64 (x y : BitVec 64) : andI .u64 (x.toNat : Int) (y.toNat : Int) = ((x &&& y).toNat : Int) := by unfold andI; rw [ofI64, ofI64]; exact toI64 _
theorem or64 (x y : BitVec 64) : orI .u64 (x.toNat : Int) (y.toNat : Int) = ((x ||| y).toNat : Int) := by unfold orI; rw [ofI64, ofI64]; exact toI64 _
theorem xor64 (x y : BitVec 64) : xorI .u64 (x.toNat : Int) (y.toNat : Int) = ((x ^^^ y).toNat : Int) := by unfold xorI; rw [ofI64, ofI64]; exact toI64 _
theorem shr64 (x : BitVec 64) (n : Nat) : ((x.toNat : Int)).fdiv (2 ^ n) = ((x >>> n).toNat : Int) := by rw [fdiv_pow, BitVec.toNat_ushiftRight, Nat.shiftRight_eq_div_pow]
theorem shl64 (x : BitVec 64) (n : Nat) : IntKind.u64.wrap ((x.toNat : Int) * 2 ^ n) = ((x <<< n).toNat : Int) := by
  rw [modU64, BitVec.toNat_shiftLeft, Nat.shiftLeft_eq, mul_pow2]
  generalize x.toNat * 2 ^ n = m
  omega
/-! ### bits of whole numbers below a bound -/
theorem andN (k : IntKind) (a b : Nat) (ha : a < 2 ^ k.bits) (hb : b < 2 ^ k.bits) (hs : k.signed = true → a < 2 ^ (k.bits - 1)) : andI k (a : Int) (b : Int) = ((a &&& b : Nat) : Int) := by
  unfold andI
  rw [BitVec.ofInt_natCast, BitVec.ofInt_natCast, BitVec.toNat_and, BitVec.toNat_ofNat, BitVec.toNat_ofNat, Nat.mod_eq_of_lt ha, Nat.mod_eq_of_lt hb]
  have hle : a &&& b ≤ a := Nat.and_le_left
  have hp : ((2 : Int) ^ k.bits) = ((2 ^ k.bits : Nat) : Int) := by norm_cast
  have hq : ((2 : Int) ^ (k.bits - 1)) = ((2 ^ (k.bits - 1) : Nat) : Int) := by norm_cast
  have hm : (((a &&& b : Nat) : Int)) % 2 ^ k.bits = ((a &&& b : Nat) : Int) := by rw [hp]; exact Int.emod_eq_of_lt (by omega) (by omega)
  simp only [IntKind.wrap, hm]
  split
  · rename_i h
    simp only [Bool.and_eq_true, decide_eq_true_eq] at h
    have := hs h.1
    rw [hq] at h
    omega
  · rfl
theorem orU (k : IntKind) (a b : Nat) (ha : a < 2 ^ k.bits) (hb : b < 2 ^ k.bits) (hs : k.signed = false) : orI k (a : Int) (b : Int) = ((a ||| b : Nat) : Int) := by
  unfold orI
  rw [BitVec.ofInt_natCast, BitVec.ofInt_natCast, BitVec.toNat_or, BitVec.toNat_ofNat, BitVec.toNat_ofNat, Nat.mod_eq_of_lt ha, Nat.mod_eq_of_lt hb]
  have hlt : a ||| b < 2 ^ k.bits := Nat.or_lt_two_pow ha hb
  have hp : ((2 : Int) ^ k.bits) = ((2 ^ k.bits : Nat) : Int) := by norm_cast
  have hm : (((a ||| b : Nat) : Int)) % 2 ^ k.bits = ((a ||| b : Nat) : Int) := by rw [hp]; exact Int.emod_eq_of_lt (by omega) (by omega)
  simp only [IntKind.wrap, hm, hs, Bool.false_and, Bool.false_eq_true, if_false]
/-- A byte behind a number whose low bits are 0. -/
theorem or_byte (a b : Nat) (h : b < 256) : (a * 256) ||| b = a * 256 + b := by
  have := Nat.shiftLeft_add_eq_or_of_lt (i := 8) (b := b) (by omega) a
  rw [Nat.shiftLeft_eq] at this
  exact this.symm
end Go.Av
namespace Go.Av
@[simp] theorem bytesM_cons (n : Int) (cs : List C) : bytesM (up (.v (.int .u8 n) :: cs)) = (bytesM (up cs)).map (UInt8.ofNat n.toNat :: ·) := rfl
end Go.Av
namespace Go.Av
open Go
/-- A word, as a whole number; under a name, so that it stays whole. -/
def wI (x : BitVec 32) : Int := (x.toNat : Int)
def wC (x : BitVec 32) : C := .v (.int .u32 (wI x))
theorem wI_add (x y : BitVec 32) : IntKind.u32.wrap (wI x + wI y) = wI (x + y) := add32 x y
theorem wI_and (x y : BitVec 32) : andI .u32 (wI x) (wI y) = wI (x &&& y) := and32 x y
theorem wI_or (x y : BitVec 32) : orI .u32 (wI x) (wI y) = wI (x ||| y) := or32 x y
theorem wI_xor (x y : BitVec 32) : xorI .u32 (wI x) (wI y) = wI (x ^^^ y) := xor32 x y
theorem wI_not (x : BitVec 32) : notI .u32 (wI x) = wI (~~~ x) := not32 x
theorem wI_shr (x : BitVec 32) (n : Nat) : (wI x).fdiv (2 ^ n) = wI (x >>> n) := shr32 x n
theorem wI_shr' (x : BitVec 32) (n : Nat) : (wI x) >>> n = wI (x >>> n) := by
  have : (wI x) >>> n = (wI x).fdiv (2 ^ n) := by
    unfold wI
    rw [fdiv_pow, Int.shiftRight_eq_div_pow]
    norm_cast
  rw [this, wI_shr]
theorem wI_shl (x : BitVec 32) (n : Nat) : IntKind.u32.wrap (wI x * 2 ^ n) = wI (x <<< n) := shl32 x n
theorem wI_lt (x : BitVec 32) : 0 ≤ wI x ∧ wI x < 4294967296 := by have := x.isLt; unfold wI; omega
theorem wI_notsub (x : BitVec 32) : IntKind.u32.wrap (4294967295 - wI x) = wI (~~~ x) := by
  have := wI_lt x
  rw [wrapU32 _ (by omega)]
  unfold wI
  rw [BitVec.toNat_not]
  have := x.isLt
  omega
theorem wI_eq (x y : BitVec 32) : (wI x = wI y) = (x = y) := by
  unfold wI
  rw [BitVec.toNat_eq]
  exact propext ⟨fun h => by omega, fun h => by omega⟩
end Go.Av
namespace Go.Av
open Go
variable {P : Program}
/-- Is it this function's call? -/
theorem Den.at_ {f : FuncId} {args : List M} {ob : List Ob} {K : M → List Ob → Prop} (h : Den P f args ob K) : Den P f args ob K := h
theorem drawn_at {f : FuncId} {args : List M} {ob : List Ob} {A : M → List Ob → Prop} (h : ∃ m ob2, Den P f args ob (fun r ob' => r = m ∧ ob' = ob2) ∧ A m ob2) : ∃ m ob2, Den P f args ob (fun r ob' => r = m ∧ ob' = ob2) ∧ A m ob2 := h
end Go.Av
namespace Go.Av
@[simp] theorem lay_up1 (cs : List C) (off : Nat) (a : C) : lay (up cs) off (up [a]) = up (cs.set off a) := by simp [up, lay_one, List.map_set]
@[simp] theorem lay_up2 (cs : List C) (off : Nat) (a b : C) (r : List C) : lay (up cs) off (up (a :: b :: r)) = up (cs.take off ++ ((a :: b :: r) ++ cs.drop (off + (a :: b :: r).length))) := by
  show lay (up cs) off (M.c a :: M.c b :: up r) = _
  rw [lay_two]
  simp [up]
end Go.Av
