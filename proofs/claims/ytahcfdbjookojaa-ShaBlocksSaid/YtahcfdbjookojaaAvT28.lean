import Derived.Test.YtahcfdbjookojaaAvT27
set_option linter.unusedVariables false
set_option linter.unusedSimpArgs false
set_option maxRecDepth 100000
set_option maxHeartbeats 4000000
namespace Go.Av
open Go Go.Proofs Go.Proofs.Ytahcfdbjookojaa Go.RowKit
theorem cut_app (b : ByteArray) (k : Nat) (hk : k ≤ b.size) : b.extract 0 k ++ b.extract k b.size = b := by
  apply ba_ext
  rw [app_list, ext_list, ext_list, List.drop_zero, Nat.sub_zero, List.take_of_length_le (l := b.data.toList.drop k) (by rw [List.length_drop, ← size_list]; omega), List.take_append_drop]
theorem writeN_den (b : ByteArray) : DenV Try.prog 31 [.c (.v (.pointer none)), .c (.v (.string b))] (.tup []) := by
  refine Den.frame rfl rfl ?_
  refine den_of Try.func31 rfl rfl (by simp [Try.ntmps31]) (fun X hX hO => ?_)
  rw [Try.ntmps31] at hX
  simp only [Try.results31]
  repeat' (first 
    | with_reducible refine awp_scope ?_
    | with_reducible refine awp_seq ?_
    | with_reducible refine awp_block ?_
    | (with_reducible refine awp_label ?_; try simp only [thenA, inBlockA, noGotoA])
    | (with_reducible refine awp_skip ?_; try simp only [thenA, inBlockA, noGotoA])
    | (with_reducible refine awp_exit ?_; simp only [thenA, inBlockA, noGotoA, if_true, Nat.reduceEqDiff, if_false, ↓reduceIte])
    | (with_reducible refine awp_ret ?_; (try simp only [thenA, inBlockA, noGotoA]); (try simp [-List.reduceReplicate, Nat.add_one_le_iff, -getElem?_pos, -getElem?_neg, List.getElem?_cons_zero, List.getElem?_cons_succ, bC]))
    | (with_reducible refine awp_reg 72 hX [0, 1, 4, 6, 11, 44] ?_; simp [-List.reduceReplicate, Nat.add_one_le_iff, -getElem?_pos, -getElem?_neg, List.getElem?_cons_zero, List.getElem?_cons_succ, bC])
    | (with_reducible refine awp_drw 72 hX [0, 1, 4, 6, 11, 44] Tab.mixed (by kernel_rfl) ?_; simp [-List.reduceReplicate, Nat.add_one_le_iff, -getElem?_pos, -getElem?_neg, List.getElem?_cons_zero, List.getElem?_cons_succ, bC])
    | (with_reducible refine awp_if_b rfl (fun hc => ?_) (fun hc => ?_) <;> (try simp [-getElem?_pos, -getElem?_neg] at hc) <;> (try (exfalso; omega)))
    | (with_reducible refine GuardK_b (fun hc => ?_) (fun hc => ?_) <;> (try simp only [Bool.not_eq_true', Bool.not_eq_false', decide_eq_true_eq, decide_eq_false_iff_not] at hc) <;> (first | (exfalso; omega) | skip) <;> simp [-List.reduceReplicate, Nat.add_one_le_iff, -getElem?_pos, -getElem?_neg, List.getElem?_cons_zero, List.getElem?_cons_succ, bC, hc])
    | (with_reducible refine DGuard_b _ _ _ _ _ _ _ _ _ _ (fun hc => ?_) (fun hc => ?_) <;> (try simp only [Bool.not_eq_true', Bool.not_eq_false', decide_eq_true_eq, decide_eq_false_iff_not] at hc) <;> (first | (exfalso; omega) | skip) <;> simp [-List.reduceReplicate, Nat.add_one_le_iff, -getElem?_pos, -getElem?_neg, List.getElem?_cons_zero, List.getElem?_cons_succ, bC, hc])
    | (with_reducible refine DEv_cut _ _ _ _ _ _ _ _ _ _ _ _ (by kernel_rfl) ?_; simp [-List.reduceReplicate, Nat.add_one_le_iff, -getElem?_pos, -getElem?_neg, List.getElem?_cons_zero, List.getElem?_cons_succ, bC])
    | ((with_reducible refine hother _ _ rfl ?_); simp only [inBlockA, thenA, noGotoA, Nat.reduceEqDiff, if_false, if_true, ↓reduceIte])
    | ((with_reducible refine hother2 _ _ rfl ?_); simp only [inBlockA, thenA, noGotoA, Nat.reduceEqDiff, if_false, if_true, ↓reduceIte])
    | ((with_reducible refine hother3 _ _ rfl ?_); simp only [inBlockA, thenA, noGotoA, Nat.reduceEqDiff, if_false, if_true, ↓reduceIte])
    | (with_reducible refine And.intro (by omega) ?_)
    | (with_reducible change postOf _ _ _ _ _; simp [-List.reduceReplicate, Nat.add_one_le_iff, -getElem?_pos, -getElem?_neg, List.getElem?_cons_zero, List.getElem?_cons_succ, bC])
    | fail)
theorem lenN_den : DenV Try.prog 32 [.c (.v (.pointer none))] (.c (u64C 0)) := by
  refine Den.frame rfl rfl ?_
  refine den_of Try.func32 rfl rfl (by simp [Try.ntmps32]) (fun X hX hO => ?_)
  rw [Try.ntmps32] at hX
  simp only [Try.results32]
  repeat' (first 
    | with_reducible refine awp_scope ?_
    | with_reducible refine awp_seq ?_
    | with_reducible refine awp_block ?_
    | (with_reducible refine awp_label ?_; try simp only [thenA, inBlockA, noGotoA])
    | (with_reducible refine awp_skip ?_; try simp only [thenA, inBlockA, noGotoA])
    | (with_reducible refine awp_exit ?_; simp only [thenA, inBlockA, noGotoA, if_true, Nat.reduceEqDiff, if_false, ↓reduceIte])
    | (with_reducible refine awp_ret ?_; (try simp only [thenA, inBlockA, noGotoA]); (try simp [-List.reduceReplicate, Nat.add_one_le_iff, -getElem?_pos, -getElem?_neg, List.getElem?_cons_zero, List.getElem?_cons_succ, bC, u64C]))
    | (with_reducible refine awp_reg 9 hX [0, 2, 4] ?_; simp [-List.reduceReplicate, Nat.add_one_le_iff, -getElem?_pos, -getElem?_neg, List.getElem?_cons_zero, List.getElem?_cons_succ, bC, u64C])
    | (with_reducible refine awp_drw 9 hX [0, 2, 4] Tab.mixed (by kernel_rfl) ?_; simp [-List.reduceReplicate, Nat.add_one_le_iff, -getElem?_pos, -getElem?_neg, List.getElem?_cons_zero, List.getElem?_cons_succ, bC, u64C])
    | (with_reducible refine awp_if_b rfl (fun hc => ?_) (fun hc => ?_) <;> (try simp [-getElem?_pos, -getElem?_neg] at hc) <;> (try (exfalso; omega)))
    | (with_reducible refine GuardK_b (fun hc => ?_) (fun hc => ?_) <;> (try simp only [Bool.not_eq_true', Bool.not_eq_false', decide_eq_true_eq, decide_eq_false_iff_not] at hc) <;> (first | (exfalso; omega) | skip) <;> simp [-List.reduceReplicate, Nat.add_one_le_iff, -getElem?_pos, -getElem?_neg, List.getElem?_cons_zero, List.getElem?_cons_succ, bC, u64C, hc])
    | (with_reducible refine DGuard_b _ _ _ _ _ _ _ _ _ _ (fun hc => ?_) (fun hc => ?_) <;> (try simp only [Bool.not_eq_true', Bool.not_eq_false', decide_eq_true_eq, decide_eq_false_iff_not] at hc) <;> (first | (exfalso; omega) | skip) <;> simp [-List.reduceReplicate, Nat.add_one_le_iff, -getElem?_pos, -getElem?_neg, List.getElem?_cons_zero, List.getElem?_cons_succ, bC, u64C, hc])
    | (with_reducible refine DEv_cut _ _ _ _ _ _ _ _ _ _ _ _ (by kernel_rfl) ?_; simp [-List.reduceReplicate, Nat.add_one_le_iff, -getElem?_pos, -getElem?_neg, List.getElem?_cons_zero, List.getElem?_cons_succ, bC, u64C])
    | ((with_reducible refine hother _ _ rfl ?_); simp only [inBlockA, thenA, noGotoA, Nat.reduceEqDiff, if_false, if_true, ↓reduceIte])
    | ((with_reducible refine hother2 _ _ rfl ?_); simp only [inBlockA, thenA, noGotoA, Nat.reduceEqDiff, if_false, if_true, ↓reduceIte])
    | ((with_reducible refine hother3 _ _ rfl ?_); simp only [inBlockA, thenA, noGotoA, Nat.reduceEqDiff, if_false, if_true, ↓reduceIte])
    | (with_reducible refine And.intro (by omega) ?_)
    | (with_reducible change postOf _ _ _ _ _; simp [-List.reduceReplicate, Nat.add_one_le_iff, -getElem?_pos, -getElem?_neg, List.getElem?_cons_zero, List.getElem?_cons_succ, bC, u64C])
    | fail)
set_option maxHeartbeats 2000000 in
theorem sumN_den : DenV Try.prog 33 [.c (.v (.pointer none))] (hashM (shaL ⟨#[]⟩)) := by
  intro ob
  refine Den.dropM (lt_hash _ _) ?_
  have h0 : sumS ⟨0, 0, 0, 0, 0, 0, 0, 0⟩ ⟨#[]⟩ 0 false = shaL ⟨#[]⟩ := by
    unfold sumS shaL
    have hw : wS ⟨0, 0, 0, 0, 0, 0, 0, 0⟩ false = firstS := rfl
    rw [hw]
    rfl
  obtain ⟨out, hout⟩ : ∃ out, out = sumS ⟨0, 0, 0, 0, 0, 0, 0, 0⟩ ⟨#[]⟩ 0 false := ⟨_, rfl⟩
  rw [← h0, ← hout]
  refine den_of Try.func33 rfl rfl (by simp [Try.ntmps33]) (fun X hX hO => ?_)
  rw [Try.ntmps33] at hX
  simp only [Try.results33]
  have hW := write_den (ob ++ [⟨24, 1, false, 0, up (List.replicate 32 (C.v (Value.int IntKind.u8 0))), none⟩]) [] ⟨0, 0, 0, 0, 0, 0, 0, 0⟩ ⟨#[]⟩ 0 false (bsS (padL 0)) (by decide) (by decide +kernel) (by omega)
  unfold sumS at hout
  generalize blocksTo (wS ⟨0, 0, 0, 0, 0, 0, 0, 0⟩ false) (⟨#[]⟩ ++ bsS (padL 0)) ((⟨#[]⟩ ++ bsS (padL 0)).size / 64) = v at *
  generalize (⟨#[]⟩ ++ bsS (padL 0)).extract (64 * ((⟨#[]⟩ ++ bsS (padL 0)).size / 64)) (⟨#[]⟩ ++ bsS (padL 0)).size = r2 at *
  generalize (0 + (bsS (padL 0)).size) % 18446744073709551616 = n2 at *
  simp only [stO, stC] at hW
  simp [-List.reduceReplicate, u64C, bC] at hW
  have z0 : wC 0#32 = C.v (.int .u32 0) := rfl
  simp only [z0] at hW
  repeat' (first 
    | with_reducible refine awp_scope ?_
    | with_reducible refine awp_seq ?_
    | with_reducible refine awp_block ?_
    | (with_reducible refine awp_label ?_; try simp only [thenA, inBlockA, noGotoA])
    | (with_reducible refine awp_skip ?_; try simp only [thenA, inBlockA, noGotoA])
    | (with_reducible refine awp_exit ?_; simp only [thenA, inBlockA, noGotoA, if_true, Nat.reduceEqDiff, if_false, ↓reduceIte])
    | (with_reducible refine awp_ret ?_; (try simp only [thenA, inBlockA, noGotoA]); (try simp [-List.reduceReplicate, Nat.add_one_le_iff, -getElem?_pos, -getElem?_neg, List.getElem?_cons_zero, List.getElem?_cons_succ, u64C, bC]))
    | (with_reducible refine awp_reg 37 hX [0, 2, 3, 4, 5, 6, 9, 18, 19, 20] ?_; simp [-List.reduceReplicate, Nat.add_one_le_iff, -getElem?_pos, -getElem?_neg, List.getElem?_cons_zero, List.getElem?_cons_succ, u64C, bC])
    | (with_reducible refine awp_drw 37 hX [0, 2, 3, 4, 5, 6, 9, 18, 19, 20] Tab.mixed (by kernel_rfl) ?_; simp [-List.reduceReplicate, Nat.add_one_le_iff, -getElem?_pos, -getElem?_neg, List.getElem?_cons_zero, List.getElem?_cons_succ, u64C, bC])
    | ((with_reducible refine Den.at_ (f := 28) ?_); refine (pad_den 0 (by omega) _).det ?_; try simp [-List.reduceReplicate, Nat.add_one_le_iff, -getElem?_pos, -getElem?_neg, List.getElem?_cons_zero, List.getElem?_cons_succ, u64C, bC])
    | ((with_reducible refine drawn_at (f := 28) ?_); refine ⟨_, _, pad_den 0 (by omega) _, fun _ => rfl, ?_⟩; try simp [-List.reduceReplicate, Nat.add_one_le_iff, -getElem?_pos, -getElem?_neg, List.getElem?_cons_zero, List.getElem?_cons_succ, u64C, bC])
    | (refine (hW).det ?_; try simp [-List.reduceReplicate, Nat.add_one_le_iff, -getElem?_pos, -getElem?_neg, List.getElem?_cons_zero, List.getElem?_cons_succ, u64C, bC])
    | (refine ⟨_, _, hW, fun _ => rfl, ?_⟩; try simp [-List.reduceReplicate, Nat.add_one_le_iff, -getElem?_pos, -getElem?_neg, List.getElem?_cons_zero, List.getElem?_cons_succ, u64C, bC])
    | (with_reducible refine awp_if_b rfl (fun hc => ?_) (fun hc => ?_) <;> (try simp [-getElem?_pos, -getElem?_neg] at hc) <;> (try (exfalso; omega)))
    | (with_reducible refine GuardK_b (fun hc => ?_) (fun hc => ?_) <;> (try simp only [Bool.not_eq_true', Bool.not_eq_false', decide_eq_true_eq, decide_eq_false_iff_not] at hc) <;> (first | (exfalso; omega) | skip) <;> simp [-List.reduceReplicate, Nat.add_one_le_iff, -getElem?_pos, -getElem?_neg, List.getElem?_cons_zero, List.getElem?_cons_succ, u64C, bC, hc])
    | (with_reducible refine DGuard_b _ _ _ _ _ _ _ _ _ _ (fun hc => ?_) (fun hc => ?_) <;> (try simp only [Bool.not_eq_true', Bool.not_eq_false', decide_eq_true_eq, decide_eq_false_iff_not] at hc) <;> (first | (exfalso; omega) | skip) <;> simp [-List.reduceReplicate, Nat.add_one_le_iff, -getElem?_pos, -getElem?_neg, List.getElem?_cons_zero, List.getElem?_cons_succ, u64C, bC, hc])
    | (with_reducible refine DEv_cut _ _ _ _ _ _ _ _ _ _ _ _ (by kernel_rfl) ?_; simp [-List.reduceReplicate, Nat.add_one_le_iff, -getElem?_pos, -getElem?_neg, List.getElem?_cons_zero, List.getElem?_cons_succ, u64C, bC])
    | ((with_reducible refine hother _ _ rfl ?_); simp only [inBlockA, thenA, noGotoA, Nat.reduceEqDiff, if_false, if_true, ↓reduceIte])
    | ((with_reducible refine hother2 _ _ rfl ?_); simp only [inBlockA, thenA, noGotoA, Nat.reduceEqDiff, if_false, if_true, ↓reduceIte])
    | ((with_reducible refine hother3 _ _ rfl ?_); simp only [inBlockA, thenA, noGotoA, Nat.reduceEqDiff, if_false, if_true, ↓reduceIte])
    | (with_reducible refine And.intro (by omega) ?_)
    | (with_reducible change postOf _ _ _ _ _; simp [-List.reduceReplicate, Nat.add_one_le_iff, -getElem?_pos, -getElem?_neg, List.getElem?_cons_zero, List.getElem?_cons_succ, u64C, bC])
    | fail)
  refine awp_forU [2, 4, 18, 19] (fun i (_u : Unit) => [(19, .c (iC i))]) (fun i (_u : Unit) => ob ++ [⟨24, 1, false, 0, up (List.replicate 32 (C.v (Value.int IntKind.u8 0))), none⟩, ⟨58, 11, false, 0, up [wC v.a, wC v.b, wC v.c, wC v.d, wC v.e, wC v.f, wC v.g, wC v.h, C.v (Value.string r2), C.v (Value.int IntKind.u64 n2), C.v (Value.bool true)], none⟩, ⟨24, 1, false, 0, up (outTo v.l i), none⟩]) (fun i (_u : Unit) => True) (8) (()) (by first | trivial | (simp; done) | omega | (intros; simp at *; done)) (by simp [-List.reduceReplicate, keep, iC, outTo, wBytes, bC8]) (by simp [-List.reduceReplicate, iC, outTo, wBytes, bC8]) ?_
  rintro i _u Q1 hi hH next hother
  conv => arg 5; arg 1; simp only [List.cons_append, List.nil_append, keep, get, Nat.reduceEqDiff, if_true, if_false, ↓reduceIte]
  have hwi := wrap_in ((i : Int) + 1) (by omega)
  have hol := outTo_len v.l i (by show i ≤ 8; omega) rfl
  by_cases hlt : i < 8
  · have hlay := outTo_lay v.l i hlt rfl
    have hv : [wC v.a, wC v.b, wC v.c, wC v.d, wC v.e, wC v.f, wC v.g, wC v.h][i]? = some (wC (v.l.getD i 0)) := ws_get v.l i 8 hlt rfl
    have hw1 : IntKind.i64.wrap (4 * (i : Int)) = 4 * (i : Int) := wrap_in _ (by omega)
    have hw2 : IntKind.i64.wrap (4 * (i : Int) + 4) = 4 * (i : Int) + 4 := wrap_in _ (by omega)
    have h8 : (i : Int) < 8 := by omega
    have c1 : 0 ≤ 4 * (i : Int) := by omega
    have c2 : 4 * (i : Int) < 4 * (i : Int) + 4 := by omega
    have c3 : 4 * (i : Int) + 4 ≤ 32 := by omega
    have c4 : 4 * (i : Int) + 4 - 4 * (i : Int) = 4 := by omega
    have c5 : (4 * (i : Int)).toNat = 4 * i := by omega
    have c6 : 4 * i + 4 ≤ 32 := by omega
    have hpl := putN_len (v.l.getD i 0).toNat 4
    have hxl := (v.l.getD i 0).isLt
    have hbt := bs_toList (putN (v.l.getD i 0).toNat 4)
    have hbz := bs_size (putN (v.l.getD i 0).toNat 4)
    generalize v.l.getD i 0 = x at *
    have htk : ∀ f : UInt8 → C, ((putN x.toNat 4).map f).take 4 = (putN x.toNat 4).map f := fun f => List.take_of_length_le (by simp [hpl])
    have hfn : (fun b : UInt8 => C.v (.int .u8 (b.toNat : Int))) = bC8 := rfl
    repeat' (first 
      | with_reducible refine awp_scope ?_
      | with_reducible refine awp_seq ?_
      | with_reducible refine awp_block ?_
      | (with_reducible refine awp_label ?_; try simp only [thenA, inBlockA, noGotoA])
      | (with_reducible refine awp_skip ?_; try simp only [thenA, inBlockA, noGotoA])
      | (with_reducible refine awp_exit ?_; simp only [thenA, inBlockA, noGotoA, if_true, Nat.reduceEqDiff, if_false, ↓reduceIte])
      | (with_reducible refine awp_ret ?_; (try simp only [thenA, inBlockA, noGotoA]); (try simp [-List.reduceReplicate, Nat.add_one_le_iff, -getElem?_pos, -getElem?_neg, List.getElem?_cons_zero, List.getElem?_cons_succ, iC, hlt, h8, hwi, hv, hw1, hw2, c1, c2, c3, c4, c5, c6, hol, hpl, hbt, hbz, htk, hfn]))
      | (with_reducible refine awp_reg 37 hX [0, 2, 3, 4, 5, 6, 9, 18, 19, 20] ?_; simp [-List.reduceReplicate, Nat.add_one_le_iff, -getElem?_pos, -getElem?_neg, List.getElem?_cons_zero, List.getElem?_cons_succ, iC, hlt, h8, hwi, hv, hw1, hw2, c1, c2, c3, c4, c5, c6, hol, hpl, hbt, hbz, htk, hfn])
      | (with_reducible refine awp_drw 37 hX [0, 2, 3, 4, 5, 6, 9, 18, 19, 20] Tab.mixed (by kernel_rfl) ?_; simp [-List.reduceReplicate, Nat.add_one_le_iff, -getElem?_pos, -getElem?_neg, List.getElem?_cons_zero, List.getElem?_cons_succ, iC, hlt, h8, hwi, hv, hw1, hw2, c1, c2, c3, c4, c5, c6, hol, hpl, hbt, hbz, htk, hfn])
      | ((with_reducible refine Den.at_ (f := 61) ?_); refine (put32_den x.toNat hxl _).det ?_; try simp [-List.reduceReplicate, Nat.add_one_le_iff, -getElem?_pos, -getElem?_neg, List.getElem?_cons_zero, List.getElem?_cons_succ, iC, hlt, h8, hwi, hv, hw1, hw2, c1, c2, c3, c4, c5, c6, hol, hpl, hbt, hbz, htk, hfn])
      | ((with_reducible refine drawn_at (f := 61) ?_); refine ⟨_, _, put32_den x.toNat hxl _, fun _ => rfl, ?_⟩; try simp [-List.reduceReplicate, Nat.add_one_le_iff, -getElem?_pos, -getElem?_neg, List.getElem?_cons_zero, List.getElem?_cons_succ, iC, hlt, h8, hwi, hv, hw1, hw2, c1, c2, c3, c4, c5, c6, hol, hpl, hbt, hbz, htk, hfn])
      | (with_reducible refine awp_if_b rfl (fun hc => ?_) (fun hc => ?_) <;> (try simp [-getElem?_pos, -getElem?_neg] at hc) <;> (try (exfalso; omega)))
      | (with_reducible refine GuardK_b (fun hc => ?_) (fun hc => ?_) <;> (try simp only [Bool.not_eq_true', Bool.not_eq_false', decide_eq_true_eq, decide_eq_false_iff_not] at hc) <;> (first | (exfalso; omega) | skip) <;> simp [-List.reduceReplicate, Nat.add_one_le_iff, -getElem?_pos, -getElem?_neg, List.getElem?_cons_zero, List.getElem?_cons_succ, iC, hlt, h8, hwi, hv, hw1, hw2, c1, c2, c3, c4, c5, c6, hol, hpl, hbt, hbz, htk, hfn, hc])
      | (with_reducible refine DGuard_b _ _ _ _ _ _ _ _ _ _ (fun hc => ?_) (fun hc => ?_) <;> (try simp only [Bool.not_eq_true', Bool.not_eq_false', decide_eq_true_eq, decide_eq_false_iff_not] at hc) <;> (first | (exfalso; omega) | skip) <;> simp [-List.reduceReplicate, Nat.add_one_le_iff, -getElem?_pos, -getElem?_neg, List.getElem?_cons_zero, List.getElem?_cons_succ, iC, hlt, h8, hwi, hv, hw1, hw2, c1, c2, c3, c4, c5, c6, hol, hpl, hbt, hbz, htk, hfn, hc])
      | (with_reducible refine DEv_cut _ _ _ _ _ _ _ _ _ _ _ _ (by kernel_rfl) ?_; simp [-List.reduceReplicate, Nat.add_one_le_iff, -getElem?_pos, -getElem?_neg, List.getElem?_cons_zero, List.getElem?_cons_succ, iC, hlt, h8, hwi, hv, hw1, hw2, c1, c2, c3, c4, c5, c6, hol, hpl, hbt, hbz, htk, hfn])
      | ((with_reducible refine hother _ _ rfl ?_); simp only [inBlockA, thenA, noGotoA, Nat.reduceEqDiff, if_false, if_true, ↓reduceIte])
      | ((with_reducible refine hother2 _ _ rfl ?_); simp only [inBlockA, thenA, noGotoA, Nat.reduceEqDiff, if_false, if_true, ↓reduceIte])
      | ((with_reducible refine hother3 _ _ rfl ?_); simp only [inBlockA, thenA, noGotoA, Nat.reduceEqDiff, if_false, if_true, ↓reduceIte])
      | (with_reducible refine And.intro (by omega) ?_)
      | (with_reducible change postOf _ _ _ _ _; simp [-List.reduceReplicate, Nat.add_one_le_iff, -getElem?_pos, -getElem?_neg, List.getElem?_cons_zero, List.getElem?_cons_succ, iC, hlt, h8, hwi, hv, hw1, hw2, c1, c2, c3, c4, c5, c6, hol, hpl, hbt, hbz, htk, hfn])
      | fail)
    refine next _ _ (()) (by omega) (by first | trivial | omega | assumption) (by simp [-List.reduceReplicate, keep, iC, hlay]) (by simp [-List.reduceReplicate, iC, hlay])
  · obtain rfl : i = 8 := by omega
    have hfin : outTo v.l 8 = (wBytes v.l).map bC8 := by
      unfold outTo
      rw [List.take_of_length_le (by show 8 ≤ 8; omega)]
      simp
    have hl32 : (wBytes v.l).length = 32 := wBytes_len v.l
    have htk : ((wBytes v.l).map bC8).take 32 = (wBytes v.l).map bC8 := List.take_of_length_le (by simp [hl32])
    rw [hfin]
    repeat' (first 
      | with_reducible refine awp_scope ?_
      | with_reducible refine awp_seq ?_
      | with_reducible refine awp_block ?_
      | (with_reducible refine awp_label ?_; try simp only [thenA, inBlockA, noGotoA])
      | (with_reducible refine awp_skip ?_; try simp only [thenA, inBlockA, noGotoA])
      | (with_reducible refine awp_exit ?_; simp only [thenA, inBlockA, noGotoA, if_true, Nat.reduceEqDiff, if_false, ↓reduceIte])
      | (with_reducible refine awp_ret ?_; (try simp only [thenA, inBlockA, noGotoA]); (try simp [-List.reduceReplicate, Nat.add_one_le_iff, -getElem?_pos, -getElem?_neg, List.getElem?_cons_zero, List.getElem?_cons_succ, iC, hl32, htk]))
      | (with_reducible refine awp_reg 37 hX [0, 2, 3, 4, 5, 6, 9, 18, 19, 20] ?_; simp [-List.reduceReplicate, Nat.add_one_le_iff, -getElem?_pos, -getElem?_neg, List.getElem?_cons_zero, List.getElem?_cons_succ, iC, hl32, htk])
      | (with_reducible refine awp_drw 37 hX [0, 2, 3, 4, 5, 6, 9, 18, 19, 20] Tab.mixed (by kernel_rfl) ?_; simp [-List.reduceReplicate, Nat.add_one_le_iff, -getElem?_pos, -getElem?_neg, List.getElem?_cons_zero, List.getElem?_cons_succ, iC, hl32, htk])
      | (with_reducible refine awp_if_b rfl (fun hc => ?_) (fun hc => ?_) <;> (try simp [-getElem?_pos, -getElem?_neg] at hc) <;> (try (exfalso; omega)))
      | (with_reducible refine GuardK_b (fun hc => ?_) (fun hc => ?_) <;> (try simp only [Bool.not_eq_true', Bool.not_eq_false', decide_eq_true_eq, decide_eq_false_iff_not] at hc) <;> (first | (exfalso; omega) | skip) <;> simp [-List.reduceReplicate, Nat.add_one_le_iff, -getElem?_pos, -getElem?_neg, List.getElem?_cons_zero, List.getElem?_cons_succ, iC, hl32, htk, hc])
      | (with_reducible refine DGuard_b _ _ _ _ _ _ _ _ _ _ (fun hc => ?_) (fun hc => ?_) <;> (try simp only [Bool.not_eq_true', Bool.not_eq_false', decide_eq_true_eq, decide_eq_false_iff_not] at hc) <;> (first | (exfalso; omega) | skip) <;> simp [-List.reduceReplicate, Nat.add_one_le_iff, -getElem?_pos, -getElem?_neg, List.getElem?_cons_zero, List.getElem?_cons_succ, iC, hl32, htk, hc])
      | (with_reducible refine DEv_cut _ _ _ _ _ _ _ _ _ _ _ _ (by kernel_rfl) ?_; simp [-List.reduceReplicate, Nat.add_one_le_iff, -getElem?_pos, -getElem?_neg, List.getElem?_cons_zero, List.getElem?_cons_succ, iC, hl32, htk])
      | ((with_reducible refine hother _ _ rfl ?_); simp only [inBlockA, thenA, noGotoA, Nat.reduceEqDiff, if_false, if_true, ↓reduceIte])
      | ((with_reducible refine hother2 _ _ rfl ?_); simp only [inBlockA, thenA, noGotoA, Nat.reduceEqDiff, if_false, if_true, ↓reduceIte])
      | ((with_reducible refine hother3 _ _ rfl ?_); simp only [inBlockA, thenA, noGotoA, Nat.reduceEqDiff, if_false, if_true, ↓reduceIte])
      | (with_reducible refine And.intro (by omega) ?_)
      | (with_reducible change postOf _ _ _ _ _; simp [-List.reduceReplicate, Nat.add_one_le_iff, -getElem?_pos, -getElem?_neg, List.getElem?_cons_zero, List.getElem?_cons_succ, iC, hl32, htk])
      | fail)
    rw [hout]
    rfl
theorem shaPieces_den (b : ByteArray) (at_ : Int) (ob : List Ob) : Den Try.prog 9 [.c (.v (.string b)), .c (iC at_)] ob (fun r ob' => r = .c (bC true) ∧ ob' = ob) := by
  refine Den.frame rfl rfl ?_ ob
  refine den_of Try.func9 rfl rfl (by simp [Try.ntmps9]) (fun X hX hO => ?_)
  rw [Try.ntmps9] at hX
  simp only [Try.results9]
  by_cases h : 3000 < b.size
  · repeat' (first 
      | with_reducible refine awp_scope ?_
      | with_reducible refine awp_seq ?_
      | with_reducible refine awp_block ?_
      | (with_reducible refine awp_label ?_; try simp only [thenA, inBlockA, noGotoA])
      | (with_reducible refine awp_skip ?_; try simp only [thenA, inBlockA, noGotoA])
      | (with_reducible refine awp_exit ?_; simp only [thenA, inBlockA, noGotoA, if_true, Nat.reduceEqDiff, if_false, ↓reduceIte])
      | (with_reducible refine awp_ret ?_; (try simp only [thenA, inBlockA, noGotoA]); (try simp [-List.reduceReplicate, Nat.add_one_le_iff, -getElem?_pos, -getElem?_neg, List.getElem?_cons_zero, List.getElem?_cons_succ, bC, iC, h]))
      | (with_reducible refine awp_reg 65 hX [0, 1, 4, 5, 6, 7, 8, 11] ?_; simp [-List.reduceReplicate, Nat.add_one_le_iff, -getElem?_pos, -getElem?_neg, List.getElem?_cons_zero, List.getElem?_cons_succ, bC, iC, h])
      | (with_reducible refine awp_drw 65 hX [0, 1, 4, 5, 6, 7, 8, 11] Tab.mixed (by kernel_rfl) ?_; simp [-List.reduceReplicate, Nat.add_one_le_iff, -getElem?_pos, -getElem?_neg, List.getElem?_cons_zero, List.getElem?_cons_succ, bC, iC, h])
      | ((with_reducible refine Den.at_ (f := 21) ?_); refine (awake02_den _).det ?_; try simp [-List.reduceReplicate, Nat.add_one_le_iff, -getElem?_pos, -getElem?_neg, List.getElem?_cons_zero, List.getElem?_cons_succ, bC, iC, h])
      | ((with_reducible refine drawn_at (f := 21) ?_); refine ⟨_, _, awake02_den _, fun _ => rfl, ?_⟩; try simp [-List.reduceReplicate, Nat.add_one_le_iff, -getElem?_pos, -getElem?_neg, List.getElem?_cons_zero, List.getElem?_cons_succ, bC, iC, h])
      | (with_reducible refine awp_if_b rfl (fun hc => ?_) (fun hc => ?_) <;> (try simp [-getElem?_pos, -getElem?_neg] at hc) <;> (try (exfalso; omega)))
      | (with_reducible refine GuardK_b (fun hc => ?_) (fun hc => ?_) <;> (try simp only [Bool.not_eq_true', Bool.not_eq_false', decide_eq_true_eq, decide_eq_false_iff_not] at hc) <;> (first | (exfalso; omega) | skip) <;> simp [-List.reduceReplicate, Nat.add_one_le_iff, -getElem?_pos, -getElem?_neg, List.getElem?_cons_zero, List.getElem?_cons_succ, bC, iC, h, hc])
      | (with_reducible refine DGuard_b _ _ _ _ _ _ _ _ _ _ (fun hc => ?_) (fun hc => ?_) <;> (try simp only [Bool.not_eq_true', Bool.not_eq_false', decide_eq_true_eq, decide_eq_false_iff_not] at hc) <;> (first | (exfalso; omega) | skip) <;> simp [-List.reduceReplicate, Nat.add_one_le_iff, -getElem?_pos, -getElem?_neg, List.getElem?_cons_zero, List.getElem?_cons_succ, bC, iC, h, hc])
      | (with_reducible refine DEv_cut _ _ _ _ _ _ _ _ _ _ _ _ (by kernel_rfl) ?_; simp [-List.reduceReplicate, Nat.add_one_le_iff, -getElem?_pos, -getElem?_neg, List.getElem?_cons_zero, List.getElem?_cons_succ, bC, iC, h])
      | ((with_reducible refine hother _ _ rfl ?_); simp only [inBlockA, thenA, noGotoA, Nat.reduceEqDiff, if_false, if_true, ↓reduceIte])
      | ((with_reducible refine hother2 _ _ rfl ?_); simp only [inBlockA, thenA, noGotoA, Nat.reduceEqDiff, if_false, if_true, ↓reduceIte])
      | ((with_reducible refine hother3 _ _ rfl ?_); simp only [inBlockA, thenA, noGotoA, Nat.reduceEqDiff, if_false, if_true, ↓reduceIte])
      | (with_reducible refine And.intro (by omega) ?_)
      | (with_reducible change postOf _ _ _ _ _; simp [-List.reduceReplicate, Nat.add_one_le_iff, -getElem?_pos, -getElem?_neg, List.getElem?_cons_zero, List.getElem?_cons_succ, bC, iC, h])
      | fail)
  · have h1 := wrap_in ((b.size : Int) + 1) (by omega)
    have h2 := wrapU64 ((b.size : Int) + 1) (by omega)
    obtain ⟨u, hu⟩ : ∃ u : Nat, IntKind.u64.wrap at_ = (u : Int) := ⟨(IntKind.u64.wrap at_).toNat, by rw [modU64]; omega⟩
    have h3 : ((u : Int)).tmod ((b.size : Int) + 1) = ((u % (b.size + 1) : Nat) : Int) := rfl
    have hk : u % (b.size + 1) ≤ b.size := by have := Nat.mod_lt u (show 0 < b.size + 1 by omega); omega
    generalize u % (b.size + 1) = k at *
    have h4 := wrap_in (k : Int) (by omega)
    have hca := cut_app b k hk
    have hz1 : (b.extract 0 k).size = k := ext_size b 0 k (by omega) hk
    have hz2 : (b.extract k b.size).size = b.size - k := ext_size b k b.size hk (by omega)
    have w1 := write0_den [] [] (b.extract 0 k) (by omega)
    have s1 := sumT_den [stT (b.extract 0 k)] 0 (b.extract 0 k) rfl (by omega)
    have w2 := fun suf => writeT_den [] suf (b.extract 0 k) (b.extract k b.size) (by omega)
    rw [hca] at w2
    have h5 : ¬ (b.size : Int) + 1 = 0 := by omega
    have l1 := shaL_len (b.extract 0 k)
    have l2 := shaL_len b
    have l3 := shaL_len ⟨#[]⟩
    have e1 := eq_hash1 _ l1
    have e2 := eq_hash1 _ l2
    have e3 := eq_hash1 _ l3
    have s2 := sumT_den [stT b, ⟨24, 1, false, 0, up ((shaL (b.extract 0 k)).map bC8), none⟩] 0 b rfl (by omega)
    have q1 := sha_den (b.extract 0 k) (by omega)
    have q2 := sha_den b (by omega)
    have q3 := sha_den ⟨#[]⟩ (by decide)
    have q4 := sumN_den
    have t1 := hash_take _ l1
    generalize shaL (b.extract 0 k) = x1 at *
    generalize shaL b = x2 at *
    generalize shaL ⟨#[]⟩ = x3 at *
    repeat' (first 
      | with_reducible refine awp_scope ?_
      | with_reducible refine awp_seq ?_
      | with_reducible refine awp_block ?_
      | (with_reducible refine awp_label ?_; try simp only [thenA, inBlockA, noGotoA])
      | (with_reducible refine awp_skip ?_; try simp only [thenA, inBlockA, noGotoA])
      | (with_reducible refine awp_exit ?_; simp only [thenA, inBlockA, noGotoA, if_true, Nat.reduceEqDiff, if_false, ↓reduceIte])
      | (with_reducible refine awp_ret ?_; (try simp only [thenA, inBlockA, noGotoA]); (try simp [-List.reduceReplicate, Nat.add_one_le_iff, -getElem?_pos, -getElem?_neg, List.getElem?_cons_zero, List.getElem?_cons_succ, bC, iC, h, h1, h2, hu, h3, h4, h5, hk, hashM, l1, t1, e1, e2, e3, u64C]))
      | (with_reducible refine awp_reg 65 hX [0, 1, 4, 5, 6, 7, 8, 11] ?_; simp [-List.reduceReplicate, Nat.add_one_le_iff, -getElem?_pos, -getElem?_neg, List.getElem?_cons_zero, List.getElem?_cons_succ, bC, iC, h, h1, h2, hu, h3, h4, h5, hk, hashM, l1, t1, e1, e2, e3, u64C])
      | (with_reducible refine awp_drw 65 hX [0, 1, 4, 5, 6, 7, 8, 11] Tab.mixed (by kernel_rfl) ?_; simp [-List.reduceReplicate, Nat.add_one_le_iff, -getElem?_pos, -getElem?_neg, List.getElem?_cons_zero, List.getElem?_cons_succ, bC, iC, h, h1, h2, hu, h3, h4, h5, hk, hashM, l1, t1, e1, e2, e3, u64C])
      | (refine (w1).det ?_; try simp [-List.reduceReplicate, Nat.add_one_le_iff, -getElem?_pos, -getElem?_neg, List.getElem?_cons_zero, List.getElem?_cons_succ, bC, iC, h, h1, h2, hu, h3, h4, h5, hk, hashM, l1, t1, e1, e2, e3, u64C])
      | (refine ⟨_, _, w1, fun _ => rfl, ?_⟩; try simp [-List.reduceReplicate, Nat.add_one_le_iff, -getElem?_pos, -getElem?_neg, List.getElem?_cons_zero, List.getElem?_cons_succ, bC, iC, h, h1, h2, hu, h3, h4, h5, hk, hashM, l1, t1, e1, e2, e3, u64C])
      | (refine (s1).det ?_; try simp [-List.reduceReplicate, Nat.add_one_le_iff, -getElem?_pos, -getElem?_neg, List.getElem?_cons_zero, List.getElem?_cons_succ, bC, iC, h, h1, h2, hu, h3, h4, h5, hk, hashM, l1, t1, e1, e2, e3, u64C])
      | (refine ⟨_, _, s1, fun _ => rfl, ?_⟩; try simp [-List.reduceReplicate, Nat.add_one_le_iff, -getElem?_pos, -getElem?_neg, List.getElem?_cons_zero, List.getElem?_cons_succ, bC, iC, h, h1, h2, hu, h3, h4, h5, hk, hashM, l1, t1, e1, e2, e3, u64C])
      | (refine (w2 _).det ?_; try simp [-List.reduceReplicate, Nat.add_one_le_iff, -getElem?_pos, -getElem?_neg, List.getElem?_cons_zero, List.getElem?_cons_succ, bC, iC, h, h1, h2, hu, h3, h4, h5, hk, hashM, l1, t1, e1, e2, e3, u64C])
      | (refine ⟨_, _, w2 _, fun _ => rfl, ?_⟩; try simp [-List.reduceReplicate, Nat.add_one_le_iff, -getElem?_pos, -getElem?_neg, List.getElem?_cons_zero, List.getElem?_cons_succ, bC, iC, h, h1, h2, hu, h3, h4, h5, hk, hashM, l1, t1, e1, e2, e3, u64C])
      | (refine (s2).det ?_; try simp [-List.reduceReplicate, Nat.add_one_le_iff, -getElem?_pos, -getElem?_neg, List.getElem?_cons_zero, List.getElem?_cons_succ, bC, iC, h, h1, h2, hu, h3, h4, h5, hk, hashM, l1, t1, e1, e2, e3, u64C])
      | (refine ⟨_, _, s2, fun _ => rfl, ?_⟩; try simp [-List.reduceReplicate, Nat.add_one_le_iff, -getElem?_pos, -getElem?_neg, List.getElem?_cons_zero, List.getElem?_cons_succ, bC, iC, h, h1, h2, hu, h3, h4, h5, hk, hashM, l1, t1, e1, e2, e3, u64C])
      | ((with_reducible refine Den.at_ (f := 31) ?_); refine (writeN_den _ _).det ?_; try simp [-List.reduceReplicate, Nat.add_one_le_iff, -getElem?_pos, -getElem?_neg, List.getElem?_cons_zero, List.getElem?_cons_succ, bC, iC, h, h1, h2, hu, h3, h4, h5, hk, hashM, l1, t1, e1, e2, e3, u64C])
      | ((with_reducible refine drawn_at (f := 31) ?_); refine ⟨_, _, writeN_den _ _, fun _ => rfl, ?_⟩; try simp [-List.reduceReplicate, Nat.add_one_le_iff, -getElem?_pos, -getElem?_neg, List.getElem?_cons_zero, List.getElem?_cons_succ, bC, iC, h, h1, h2, hu, h3, h4, h5, hk, hashM, l1, t1, e1, e2, e3, u64C])
      | ((with_reducible refine Den.at_ (f := 32) ?_); refine (lenN_den _).det ?_; try simp [-List.reduceReplicate, Nat.add_one_le_iff, -getElem?_pos, -getElem?_neg, List.getElem?_cons_zero, List.getElem?_cons_succ, bC, iC, h, h1, h2, hu, h3, h4, h5, hk, hashM, l1, t1, e1, e2, e3, u64C])
      | ((with_reducible refine drawn_at (f := 32) ?_); refine ⟨_, _, lenN_den _, fun _ => rfl, ?_⟩; try simp [-List.reduceReplicate, Nat.add_one_le_iff, -getElem?_pos, -getElem?_neg, List.getElem?_cons_zero, List.getElem?_cons_succ, bC, iC, h, h1, h2, hu, h3, h4, h5, hk, hashM, l1, t1, e1, e2, e3, u64C])
      | (refine (q1 _).det ?_; try simp [-List.reduceReplicate, Nat.add_one_le_iff, -getElem?_pos, -getElem?_neg, List.getElem?_cons_zero, List.getElem?_cons_succ, bC, iC, h, h1, h2, hu, h3, h4, h5, hk, hashM, l1, t1, e1, e2, e3, u64C])
      | (refine ⟨_, _, q1 _, fun _ => rfl, ?_⟩; try simp [-List.reduceReplicate, Nat.add_one_le_iff, -getElem?_pos, -getElem?_neg, List.getElem?_cons_zero, List.getElem?_cons_succ, bC, iC, h, h1, h2, hu, h3, h4, h5, hk, hashM, l1, t1, e1, e2, e3, u64C])
      | (refine (q2 _).det ?_; try simp [-List.reduceReplicate, Nat.add_one_le_iff, -getElem?_pos, -getElem?_neg, List.getElem?_cons_zero, List.getElem?_cons_succ, bC, iC, h, h1, h2, hu, h3, h4, h5, hk, hashM, l1, t1, e1, e2, e3, u64C])
      | (refine ⟨_, _, q2 _, fun _ => rfl, ?_⟩; try simp [-List.reduceReplicate, Nat.add_one_le_iff, -getElem?_pos, -getElem?_neg, List.getElem?_cons_zero, List.getElem?_cons_succ, bC, iC, h, h1, h2, hu, h3, h4, h5, hk, hashM, l1, t1, e1, e2, e3, u64C])
      | (refine (q3 _).det ?_; try simp [-List.reduceReplicate, Nat.add_one_le_iff, -getElem?_pos, -getElem?_neg, List.getElem?_cons_zero, List.getElem?_cons_succ, bC, iC, h, h1, h2, hu, h3, h4, h5, hk, hashM, l1, t1, e1, e2, e3, u64C])
      | (refine ⟨_, _, q3 _, fun _ => rfl, ?_⟩; try simp [-List.reduceReplicate, Nat.add_one_le_iff, -getElem?_pos, -getElem?_neg, List.getElem?_cons_zero, List.getElem?_cons_succ, bC, iC, h, h1, h2, hu, h3, h4, h5, hk, hashM, l1, t1, e1, e2, e3, u64C])
      | (refine (q4 _).det ?_; try simp [-List.reduceReplicate, Nat.add_one_le_iff, -getElem?_pos, -getElem?_neg, List.getElem?_cons_zero, List.getElem?_cons_succ, bC, iC, h, h1, h2, hu, h3, h4, h5, hk, hashM, l1, t1, e1, e2, e3, u64C])
      | (refine ⟨_, _, q4 _, fun _ => rfl, ?_⟩; try simp [-List.reduceReplicate, Nat.add_one_le_iff, -getElem?_pos, -getElem?_neg, List.getElem?_cons_zero, List.getElem?_cons_succ, bC, iC, h, h1, h2, hu, h3, h4, h5, hk, hashM, l1, t1, e1, e2, e3, u64C])
      | ((with_reducible refine Den.at_ (f := 21) ?_); refine (awake02_den _).det ?_; try simp [-List.reduceReplicate, Nat.add_one_le_iff, -getElem?_pos, -getElem?_neg, List.getElem?_cons_zero, List.getElem?_cons_succ, bC, iC, h, h1, h2, hu, h3, h4, h5, hk, hashM, l1, t1, e1, e2, e3, u64C])
      | ((with_reducible refine drawn_at (f := 21) ?_); refine ⟨_, _, awake02_den _, fun _ => rfl, ?_⟩; try simp [-List.reduceReplicate, Nat.add_one_le_iff, -getElem?_pos, -getElem?_neg, List.getElem?_cons_zero, List.getElem?_cons_succ, bC, iC, h, h1, h2, hu, h3, h4, h5, hk, hashM, l1, t1, e1, e2, e3, u64C])
      | (with_reducible refine awp_if_b rfl (fun hc => ?_) (fun hc => ?_) <;> (try simp [-getElem?_pos, -getElem?_neg] at hc) <;> (try (exfalso; omega)))
      | (with_reducible refine GuardK_b (fun hc => ?_) (fun hc => ?_) <;> (try simp only [Bool.not_eq_true', Bool.not_eq_false', decide_eq_true_eq, decide_eq_false_iff_not] at hc) <;> (first | (exfalso; omega) | skip) <;> simp [-List.reduceReplicate, Nat.add_one_le_iff, -getElem?_pos, -getElem?_neg, List.getElem?_cons_zero, List.getElem?_cons_succ, bC, iC, h, h1, h2, hu, h3, h4, h5, hk, hashM, l1, t1, e1, e2, e3, u64C, hc])
      | (with_reducible refine DGuard_b _ _ _ _ _ _ _ _ _ _ (fun hc => ?_) (fun hc => ?_) <;> (try simp only [Bool.not_eq_true', Bool.not_eq_false', decide_eq_true_eq, decide_eq_false_iff_not] at hc) <;> (first | (exfalso; omega) | skip) <;> simp [-List.reduceReplicate, Nat.add_one_le_iff, -getElem?_pos, -getElem?_neg, List.getElem?_cons_zero, List.getElem?_cons_succ, bC, iC, h, h1, h2, hu, h3, h4, h5, hk, hashM, l1, t1, e1, e2, e3, u64C, hc])
      | (with_reducible refine DEv_cut _ _ _ _ _ _ _ _ _ _ _ _ (by kernel_rfl) ?_; simp [-List.reduceReplicate, Nat.add_one_le_iff, -getElem?_pos, -getElem?_neg, List.getElem?_cons_zero, List.getElem?_cons_succ, bC, iC, h, h1, h2, hu, h3, h4, h5, hk, hashM, l1, t1, e1, e2, e3, u64C])
      | ((with_reducible refine hother _ _ rfl ?_); simp only [inBlockA, thenA, noGotoA, Nat.reduceEqDiff, if_false, if_true, ↓reduceIte])
      | ((with_reducible refine hother2 _ _ rfl ?_); simp only [inBlockA, thenA, noGotoA, Nat.reduceEqDiff, if_false, if_true, ↓reduceIte])
      | ((with_reducible refine hother3 _ _ rfl ?_); simp only [inBlockA, thenA, noGotoA, Nat.reduceEqDiff, if_false, if_true, ↓reduceIte])
      | (with_reducible refine And.intro (by omega) ?_)
      | (with_reducible change postOf _ _ _ _ _; simp [-List.reduceReplicate, Nat.add_one_le_iff, -getElem?_pos, -getElem?_neg, List.getElem?_cons_zero, List.getElem?_cons_succ, bC, iC, h, h1, h2, hu, h3, h4, h5, hk, hashM, l1, t1, e1, e2, e3, u64C])
      | fail)
end Go.Av
