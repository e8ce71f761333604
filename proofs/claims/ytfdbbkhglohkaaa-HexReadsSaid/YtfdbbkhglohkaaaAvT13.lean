import Derived.Test.YtfdbbkhglohkaaaAvT12
set_option linter.unusedVariables false
set_option linter.unusedSimpArgs false
namespace Go.Av
open Go Go.Proofs Go.Proofs.Ytfdbbkhglohkaaa
attribute [local simp] Try.underlying62 Try.underlying64 Try.underlying58 Try.underlying5 Try.underlying88 Try.underlying3 Try.underlying9 Try.underlying4
def fig (n : Nat) : Int := if n < 10 then 48 + n else 87 + n
def hexTo (l : List UInt8) (i : Nat) : List Int := (l.take i).flatMap fun b => [fig (b.toNat / 16), fig (b.toNat % 16)]
def hexS (s : ByteArray) : ByteArray := if s.data.toList = [] then ⟨#[45]⟩ else strI (hexTo s.data.toList s.data.toList.length)
theorem hexTo_succ (l : List UInt8) (i : Nat) (b : UInt8) (h : l[i]? = some b) : hexTo l (i + 1) = hexTo l i ++ [fig (b.toNat / 16), fig (b.toNat % 16)] := by
  unfold hexTo
  rw [List.take_add_one, h]
  simp
theorem hexTo_len (l : List UInt8) (i : Nat) (h : i ≤ l.length) : (hexTo l i).length = 2 * i := by
  induction i with
  | zero => simp [hexTo]
  | succ i ih =>
    obtain ⟨b, hb⟩ := getI l (i : Nat) (by omega) (by omega)
    simp only [Int.toNat_natCast] at hb
    rw [hexTo_succ l i b hb, List.length_append, ih (by omega)]
    simp
    omega
theorem figs_at : ∀ n : Fin 16, byteAt ⟨#[48, 49, 50, 51, 52, 53, 54, 55, 56, 57, 97, 98, 99, 100, 101, 102]⟩ n.val = fig n.val := by
  intro n
  unfold byteAt
  rw [toList_data]
  revert n
  decide
theorem shr4 : ∀ b : Fin 256, ((b.val : Int)).fdiv 16 = ((b.val / 16 : Nat) : Int) := by decide +kernel
theorem and15 : ∀ b : Fin 256, andI .u8 (b.val : Int) 15 = ((b.val % 16 : Nat) : Int) := by decide +kernel
set_option maxRecDepth 100000 in
set_option maxHeartbeats 4000000 in
theorem hexText_den (s : ByteArray) (ob : List Ob) (hn : s.size ≤ 1000000) : Den Try.prog 32 [.c (.v (.string s))] ob (fun r ob' => r = .c (.v (.string (hexS s))) ∧ ob' = ob) := by
  refine Den.dropC ?_
  refine den_of Try.func32 rfl rfl (by simp [Try.ntmps32]) (fun X hX hO => ?_)
  rw [Try.ntmps32] at hX
  simp only [Try.results32]
  have hsz : s.data.toList.length = s.size := by simp
  by_cases h0 : s.data.toList = []
  · have hx : s.toList = [] := by rw [toList_data]; exact h0
    repeat' (first 
      | with_reducible refine awp_scope ?_
      | with_reducible refine awp_seq ?_
      | with_reducible refine awp_block ?_
      | (with_reducible refine awp_label ?_; try simp only [thenA, inBlockA, noGotoA])
      | (with_reducible refine awp_skip ?_; try simp only [thenA, inBlockA, noGotoA])
      | (with_reducible refine awp_exit ?_; simp only [thenA, inBlockA, noGotoA, if_true, Nat.reduceEqDiff, if_false, ↓reduceIte])
      | (with_reducible refine awp_ret ?_; (try simp only [thenA, inBlockA, noGotoA]); (try simp [-List.reduceReplicate, Nat.add_one_le_iff, -getElem?_pos, -getElem?_neg, List.getElem?_cons_zero, List.getElem?_cons_succ, hexS, h0, hx]))
      | (with_reducible refine awp_reg 26 hX [0, 2, 3, 4, 6, 8, 9, 10] ?_; simp [-List.reduceReplicate, Nat.add_one_le_iff, -getElem?_pos, -getElem?_neg, List.getElem?_cons_zero, List.getElem?_cons_succ, hexS, h0, hx])
      | (with_reducible refine awp_drw 26 hX [0, 2, 3, 4, 6, 8, 9, 10] Tab.mixed (by kernel_rfl) ?_; simp [-List.reduceReplicate, Nat.add_one_le_iff, -getElem?_pos, -getElem?_neg, List.getElem?_cons_zero, List.getElem?_cons_succ, hexS, h0, hx])
      | (with_reducible refine awp_if_b rfl (fun hc => ?_) (fun hc => ?_) <;> (try simp [-getElem?_pos, -getElem?_neg] at hc) <;> (try (exfalso; omega)))
      | (with_reducible refine GuardK_b (fun hc => ?_) (fun hc => ?_) <;> (try simp only [Bool.not_eq_true', Bool.not_eq_false', decide_eq_true_eq, decide_eq_false_iff_not] at hc) <;> (first | (exfalso; omega) | skip) <;> simp [-List.reduceReplicate, Nat.add_one_le_iff, -getElem?_pos, -getElem?_neg, List.getElem?_cons_zero, List.getElem?_cons_succ, hexS, h0, hx, hc])
      | (with_reducible refine DGuard_b _ _ _ _ _ _ _ _ _ _ (fun hc => ?_) (fun hc => ?_) <;> (try simp only [Bool.not_eq_true', Bool.not_eq_false', decide_eq_true_eq, decide_eq_false_iff_not] at hc) <;> (first | (exfalso; omega) | skip) <;> simp [-List.reduceReplicate, Nat.add_one_le_iff, -getElem?_pos, -getElem?_neg, List.getElem?_cons_zero, List.getElem?_cons_succ, hexS, h0, hx, hc])
      | (with_reducible refine DEv_cut _ _ _ _ _ _ _ _ _ _ _ _ (by kernel_rfl) ?_; simp [-List.reduceReplicate, Nat.add_one_le_iff, -getElem?_pos, -getElem?_neg, List.getElem?_cons_zero, List.getElem?_cons_succ, hexS, h0, hx])
      | (refine hother _ _ rfl ?_; simp only [inBlockA, thenA, noGotoA, Nat.reduceEqDiff, if_false, if_true, ↓reduceIte])
      | (refine hother2 _ _ rfl ?_; simp only [inBlockA, thenA, noGotoA, Nat.reduceEqDiff, if_false, if_true, ↓reduceIte])
      | (refine hother3 _ _ rfl ?_; simp only [inBlockA, thenA, noGotoA, Nat.reduceEqDiff, if_false, if_true, ↓reduceIte])
      | (refine And.intro (by omega) ?_)
      | (with_reducible change postOf _ _ _ _ _; simp [-List.reduceReplicate, Nat.add_one_le_iff, -getElem?_pos, -getElem?_neg, List.getElem?_cons_zero, List.getElem?_cons_succ, hexS, h0, hx])
      | fail)
  · have hx : ¬ s.toList = [] := by rw [toList_data]; exact h0
    repeat' (first 
      | with_reducible refine awp_scope ?_
      | with_reducible refine awp_seq ?_
      | with_reducible refine awp_block ?_
      | (with_reducible refine awp_label ?_; try simp only [thenA, inBlockA, noGotoA])
      | (with_reducible refine awp_skip ?_; try simp only [thenA, inBlockA, noGotoA])
      | (with_reducible refine awp_exit ?_; simp only [thenA, inBlockA, noGotoA, if_true, Nat.reduceEqDiff, if_false, ↓reduceIte])
      | (with_reducible refine awp_ret ?_; (try simp only [thenA, inBlockA, noGotoA]); (try simp [-List.reduceReplicate, Nat.add_one_le_iff, -getElem?_pos, -getElem?_neg, List.getElem?_cons_zero, List.getElem?_cons_succ, hexS, h0, hx]))
      | (with_reducible refine awp_reg 26 hX [0, 2, 3, 4, 6, 8, 9, 10] ?_; simp [-List.reduceReplicate, Nat.add_one_le_iff, -getElem?_pos, -getElem?_neg, List.getElem?_cons_zero, List.getElem?_cons_succ, hexS, h0, hx])
      | (with_reducible refine awp_drw 26 hX [0, 2, 3, 4, 6, 8, 9, 10] Tab.mixed (by kernel_rfl) ?_; simp [-List.reduceReplicate, Nat.add_one_le_iff, -getElem?_pos, -getElem?_neg, List.getElem?_cons_zero, List.getElem?_cons_succ, hexS, h0, hx])
      | (with_reducible refine awp_if_b rfl (fun hc => ?_) (fun hc => ?_) <;> (try simp [-getElem?_pos, -getElem?_neg] at hc) <;> (try (exfalso; omega)))
      | (with_reducible refine GuardK_b (fun hc => ?_) (fun hc => ?_) <;> (try simp only [Bool.not_eq_true', Bool.not_eq_false', decide_eq_true_eq, decide_eq_false_iff_not] at hc) <;> (first | (exfalso; omega) | skip) <;> simp [-List.reduceReplicate, Nat.add_one_le_iff, -getElem?_pos, -getElem?_neg, List.getElem?_cons_zero, List.getElem?_cons_succ, hexS, h0, hx, hc])
      | (with_reducible refine DGuard_b _ _ _ _ _ _ _ _ _ _ (fun hc => ?_) (fun hc => ?_) <;> (try simp only [Bool.not_eq_true', Bool.not_eq_false', decide_eq_true_eq, decide_eq_false_iff_not] at hc) <;> (first | (exfalso; omega) | skip) <;> simp [-List.reduceReplicate, Nat.add_one_le_iff, -getElem?_pos, -getElem?_neg, List.getElem?_cons_zero, List.getElem?_cons_succ, hexS, h0, hx, hc])
      | (with_reducible refine DEv_cut _ _ _ _ _ _ _ _ _ _ _ _ (by kernel_rfl) ?_; simp [-List.reduceReplicate, Nat.add_one_le_iff, -getElem?_pos, -getElem?_neg, List.getElem?_cons_zero, List.getElem?_cons_succ, hexS, h0, hx])
      | (refine hother _ _ rfl ?_; simp only [inBlockA, thenA, noGotoA, Nat.reduceEqDiff, if_false, if_true, ↓reduceIte])
      | (refine hother2 _ _ rfl ?_; simp only [inBlockA, thenA, noGotoA, Nat.reduceEqDiff, if_false, if_true, ↓reduceIte])
      | (refine hother3 _ _ rfl ?_; simp only [inBlockA, thenA, noGotoA, Nat.reduceEqDiff, if_false, if_true, ↓reduceIte])
      | (refine And.intro (by omega) ?_)
      | (with_reducible change postOf _ _ _ _ _; simp [-List.reduceReplicate, Nat.add_one_le_iff, -getElem?_pos, -getElem?_neg, List.getElem?_cons_zero, List.getElem?_cons_succ, hexS, h0, hx])
      | fail)
    refine awp_nilc ob.length 1 ⟨64, 2, false, 0, [.c (.v (.pointer none)), .c (.v (.slice none 0 0))], none⟩ 5 1 (by simp) rfl rfl rfl ?_
    simp
    refine awp_for [0, 3, 8, 9] (fun i (p : M × Nat × Bool) => ⟨[(0, .c (.v (.string s))), (3, .mp ob.length 0 0), (8, .c (iC s.size)), (9, .c (iC i))], ob ++ [bldO 0 p.1 (ob.length + 1) p.2.1 (hexTo s.data.toList i).length, ⟨5, 1, p.2.2, p.2.1, up ((hexTo s.data.toList i).map u8C), none⟩]⟩)
      (fun i p => (p.1 = .c (.v (.pointer none)) ∨ p.1 = .mp ob.length 0 0) ∧ p.2.2 = decide (hexTo s.data.toList i = [])) s.size (.c (.v (.pointer none)), 0, true) ⟨.inl rfl, by simp [hexTo]⟩ (by simp [iC, bldO, hexTo]) ?_
    rintro i ⟨a, g, b⟩ Q1 hi ⟨ha, hb⟩ next hother
    simp only at ha hb
    have hwi := wrap_in ((i : Int) + 1) (by omega)
    have hlen := hexTo_len s.data.toList i (by omega)
    by_cases hlt : i < s.size
    · obtain ⟨c, hc⟩ := getI s.data.toList (i : Nat) (by omega) (by omega)
      simp only [Int.toNat_natCast] at hc
      have hby : byteAt s i = (c.toNat : Int) := by unfold byteAt; rw [toList_data, List.getD_eq_getElem?_getD, hc]; rfl
      have hsucc := hexTo_succ s.data.toList i c hc
      have e1 := shr4 ⟨c.toNat, c.toNat_lt⟩
      have e2 := and15 ⟨c.toNat, c.toNat_lt⟩
      have f1 := figs_at ⟨c.toNat / 16, by have := c.toNat_lt; omega⟩
      have f2 := figs_at ⟨c.toNat % 16, by omega⟩
      simp only at e1 e2 f1 f2
      have g1 : c.toNat / 16 < 16 := by have := c.toNat_lt; omega
      have g2 : c.toNat % 16 < 16 := by omega
      generalize c.toNat / 16 = q1 at *
      generalize c.toNat % 16 = q2 at *
      have hfs : ByteArray.size ⟨#[48, 49, 50, 51, 52, 53, 54, 55, 56, 57, 97, 98, 99, 100, 101, 102]⟩ = 16 := rfl
      repeat' (first 
        | with_reducible refine awp_scope ?_
        | with_reducible refine awp_seq ?_
        | with_reducible refine awp_block ?_
        | (with_reducible refine awp_label ?_; try simp only [thenA, inBlockA, noGotoA])
        | (with_reducible refine awp_skip ?_; try simp only [thenA, inBlockA, noGotoA])
        | (with_reducible refine awp_exit ?_; simp only [thenA, inBlockA, noGotoA, if_true, Nat.reduceEqDiff, if_false, ↓reduceIte])
        | (with_reducible refine awp_ret ?_; (try simp only [thenA, inBlockA, noGotoA]); (try simp [-List.reduceReplicate, Nat.add_one_le_iff, -getElem?_pos, -getElem?_neg, List.getElem?_cons_zero, List.getElem?_cons_succ, iC, hlt, hby, e1, e2, f1, f2, g1, g2, hfs, hwi, IntKind.bits]))
        | (with_reducible refine awp_reg 26 hX [0, 2, 3, 4, 6, 8, 9, 10] ?_; simp [-List.reduceReplicate, Nat.add_one_le_iff, -getElem?_pos, -getElem?_neg, List.getElem?_cons_zero, List.getElem?_cons_succ, iC, hlt, hby, e1, e2, f1, f2, g1, g2, hfs, hwi, IntKind.bits])
        | (with_reducible refine awp_drw 26 hX [0, 2, 3, 4, 6, 8, 9, 10] Tab.mixed (by kernel_rfl) ?_; simp [-List.reduceReplicate, Nat.add_one_le_iff, -getElem?_pos, -getElem?_neg, List.getElem?_cons_zero, List.getElem?_cons_succ, iC, hlt, hby, e1, e2, f1, f2, g1, g2, hfs, hwi, IntKind.bits])
        | (refine (writeByte_den' _ _ _ _ _ ha _ _ _ _ (by simp) (by omega)).det ?_; try simp [-List.reduceReplicate, Nat.add_one_le_iff, -getElem?_pos, -getElem?_neg, List.getElem?_cons_zero, List.getElem?_cons_succ, iC, hlt, hby, e1, e2, f1, f2, g1, g2, hfs, hwi, IntKind.bits])
        | (refine ⟨_, _, writeByte_den' _ _ _ _ _ ha _ _ _ _ (by simp) (by omega), fun _ => rfl, ?_⟩; try simp [-List.reduceReplicate, Nat.add_one_le_iff, -getElem?_pos, -getElem?_neg, List.getElem?_cons_zero, List.getElem?_cons_succ, iC, hlt, hby, e1, e2, f1, f2, g1, g2, hfs, hwi, IntKind.bits])
        | (refine (writeByte_den' _ _ _ _ _ (.inr rfl) _ _ _ _ (by simp) (by omega)).det ?_; try simp [-List.reduceReplicate, Nat.add_one_le_iff, -getElem?_pos, -getElem?_neg, List.getElem?_cons_zero, List.getElem?_cons_succ, iC, hlt, hby, e1, e2, f1, f2, g1, g2, hfs, hwi, IntKind.bits])
        | (refine ⟨_, _, writeByte_den' _ _ _ _ _ (.inr rfl) _ _ _ _ (by simp) (by omega), fun _ => rfl, ?_⟩; try simp [-List.reduceReplicate, Nat.add_one_le_iff, -getElem?_pos, -getElem?_neg, List.getElem?_cons_zero, List.getElem?_cons_succ, iC, hlt, hby, e1, e2, f1, f2, g1, g2, hfs, hwi, IntKind.bits])
        | (with_reducible refine awp_if_b rfl (fun hc => ?_) (fun hc => ?_) <;> (try simp [-getElem?_pos, -getElem?_neg] at hc) <;> (try (exfalso; omega)))
        | (with_reducible refine GuardK_b (fun hc => ?_) (fun hc => ?_) <;> (try simp only [Bool.not_eq_true', Bool.not_eq_false', decide_eq_true_eq, decide_eq_false_iff_not] at hc) <;> (first | (exfalso; omega) | skip) <;> simp [-List.reduceReplicate, Nat.add_one_le_iff, -getElem?_pos, -getElem?_neg, List.getElem?_cons_zero, List.getElem?_cons_succ, iC, hlt, hby, e1, e2, f1, f2, g1, g2, hfs, hwi, IntKind.bits, hc])
        | (with_reducible refine DGuard_b _ _ _ _ _ _ _ _ _ _ (fun hc => ?_) (fun hc => ?_) <;> (try simp only [Bool.not_eq_true', Bool.not_eq_false', decide_eq_true_eq, decide_eq_false_iff_not] at hc) <;> (first | (exfalso; omega) | skip) <;> simp [-List.reduceReplicate, Nat.add_one_le_iff, -getElem?_pos, -getElem?_neg, List.getElem?_cons_zero, List.getElem?_cons_succ, iC, hlt, hby, e1, e2, f1, f2, g1, g2, hfs, hwi, IntKind.bits, hc])
        | (with_reducible refine DEv_cut _ _ _ _ _ _ _ _ _ _ _ _ (by kernel_rfl) ?_; simp [-List.reduceReplicate, Nat.add_one_le_iff, -getElem?_pos, -getElem?_neg, List.getElem?_cons_zero, List.getElem?_cons_succ, iC, hlt, hby, e1, e2, f1, f2, g1, g2, hfs, hwi, IntKind.bits])
        | (refine hother _ _ rfl ?_; simp only [inBlockA, thenA, noGotoA, Nat.reduceEqDiff, if_false, if_true, ↓reduceIte])
        | (refine hother2 _ _ rfl ?_; simp only [inBlockA, thenA, noGotoA, Nat.reduceEqDiff, if_false, if_true, ↓reduceIte])
        | (refine hother3 _ _ rfl ?_; simp only [inBlockA, thenA, noGotoA, Nat.reduceEqDiff, if_false, if_true, ↓reduceIte])
        | (refine And.intro (by omega) ?_)
        | (with_reducible change postOf _ _ _ _ _; simp [-List.reduceReplicate, Nat.add_one_le_iff, -getElem?_pos, -getElem?_neg, List.getElem?_cons_zero, List.getElem?_cons_succ, iC, hlt, hby, e1, e2, f1, f2, g1, g2, hfs, hwi, IntKind.bits])
        | fail)
      refine next _ (.mp ob.length 0 0, g + 1 + 1, false) hlt ⟨.inr rfl, by rw [hsucc]; simp⟩ ?_
      rw [hsucc]
      simp [iC, bldO]
    · have his : i = s.size := by omega
      subst his
      have hbs := fun h => bldString_den ob [] 0 g a b (hexTo s.data.toList s.size) (by omega) h
      repeat' (first 
        | with_reducible refine awp_scope ?_
        | with_reducible refine awp_seq ?_
        | with_reducible refine awp_block ?_
        | (with_reducible refine awp_label ?_; try simp only [thenA, inBlockA, noGotoA])
        | (with_reducible refine awp_skip ?_; try simp only [thenA, inBlockA, noGotoA])
        | (with_reducible refine awp_exit ?_; simp only [thenA, inBlockA, noGotoA, if_true, Nat.reduceEqDiff, if_false, ↓reduceIte])
        | (with_reducible refine awp_ret ?_; (try simp only [thenA, inBlockA, noGotoA]); (try simp [-List.reduceReplicate, Nat.add_one_le_iff, -getElem?_pos, -getElem?_neg, List.getElem?_cons_zero, List.getElem?_cons_succ, iC, hlt]))
        | (with_reducible refine awp_reg 26 hX [0, 2, 3, 4, 6, 8, 9, 10] ?_; simp [-List.reduceReplicate, Nat.add_one_le_iff, -getElem?_pos, -getElem?_neg, List.getElem?_cons_zero, List.getElem?_cons_succ, iC, hlt])
        | (with_reducible refine awp_drw 26 hX [0, 2, 3, 4, 6, 8, 9, 10] Tab.mixed (by kernel_rfl) ?_; simp [-List.reduceReplicate, Nat.add_one_le_iff, -getElem?_pos, -getElem?_neg, List.getElem?_cons_zero, List.getElem?_cons_succ, iC, hlt])
        | (refine (hbs hb).det ?_; try simp [-List.reduceReplicate, Nat.add_one_le_iff, -getElem?_pos, -getElem?_neg, List.getElem?_cons_zero, List.getElem?_cons_succ, iC, hlt])
        | (refine ⟨_, _, hbs hb, fun _ => rfl, ?_⟩; try simp [-List.reduceReplicate, Nat.add_one_le_iff, -getElem?_pos, -getElem?_neg, List.getElem?_cons_zero, List.getElem?_cons_succ, iC, hlt])
        | (with_reducible refine awp_if_b rfl (fun hc => ?_) (fun hc => ?_) <;> (try simp [-getElem?_pos, -getElem?_neg] at hc) <;> (try (exfalso; omega)))
        | (with_reducible refine GuardK_b (fun hc => ?_) (fun hc => ?_) <;> (try simp only [Bool.not_eq_true', Bool.not_eq_false', decide_eq_true_eq, decide_eq_false_iff_not] at hc) <;> (first | (exfalso; omega) | skip) <;> simp [-List.reduceReplicate, Nat.add_one_le_iff, -getElem?_pos, -getElem?_neg, List.getElem?_cons_zero, List.getElem?_cons_succ, iC, hlt, hc])
        | (with_reducible refine DGuard_b _ _ _ _ _ _ _ _ _ _ (fun hc => ?_) (fun hc => ?_) <;> (try simp only [Bool.not_eq_true', Bool.not_eq_false', decide_eq_true_eq, decide_eq_false_iff_not] at hc) <;> (first | (exfalso; omega) | skip) <;> simp [-List.reduceReplicate, Nat.add_one_le_iff, -getElem?_pos, -getElem?_neg, List.getElem?_cons_zero, List.getElem?_cons_succ, iC, hlt, hc])
        | (with_reducible refine DEv_cut _ _ _ _ _ _ _ _ _ _ _ _ (by kernel_rfl) ?_; simp [-List.reduceReplicate, Nat.add_one_le_iff, -getElem?_pos, -getElem?_neg, List.getElem?_cons_zero, List.getElem?_cons_succ, iC, hlt])
        | (refine hother _ _ rfl ?_; simp only [inBlockA, thenA, noGotoA, Nat.reduceEqDiff, if_false, if_true, ↓reduceIte])
        | (refine hother2 _ _ rfl ?_; simp only [inBlockA, thenA, noGotoA, Nat.reduceEqDiff, if_false, if_true, ↓reduceIte])
        | (refine hother3 _ _ rfl ?_; simp only [inBlockA, thenA, noGotoA, Nat.reduceEqDiff, if_false, if_true, ↓reduceIte])
        | (refine And.intro (by omega) ?_)
        | (with_reducible change postOf _ _ _ _ _; simp [-List.reduceReplicate, Nat.add_one_le_iff, -getElem?_pos, -getElem?_neg, List.getElem?_cons_zero, List.getElem?_cons_succ, iC, hlt])
        | fail)
end Go.Av
