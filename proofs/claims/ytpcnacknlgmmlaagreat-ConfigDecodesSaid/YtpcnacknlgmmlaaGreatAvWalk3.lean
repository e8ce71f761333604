/- 10 texts of the program logic over abstract values, joined: each is proved without any condition beyond its own words. -/
import Derived.Test.YtpcnacknlgmmlaaGreatAvWalk2
set_option exponentiation.threshold 1000
set_option linter.unusedVariables false
set_option linter.unusedSimpArgs false
set_option maxRecDepth 100000
set_option maxHeartbeats 4000000
namespace Go.Av
open Go Go.Proofs Go.Proofs.YtpcnacknlgmmlaaGreat Go.RowKit
attribute [local simp] List.getElem?_cons_zero List.getElem?_cons_succ
/-! ### head.Get -/
attribute [local simp] Tryz.underlying9 Tryz.underlying3 Tryz.underlying4 Tryz.underlying30 Tryz.underlying24 Tryz.underlying27
def getHD (s : ByteArray) : HD := ⟨takeN s 0 4, h32 s 4, h32 s 36, takeN s 68 8⟩
def headC (c : Cu) : HD × Cu := (getHD (rawC c 76).1, (rawC c 76).2)
theorem hdC_set (v n : Nat) : ((hdC H0).set 0 (u32C v)).set 65 (u64C n) = hdC ⟨v, H0.a, H0.b, n⟩ := by
  have h1 : ∀ (a b : List C) (x y : C), a.length = 32 → b.length = 32 → (a ++ (b ++ [x])).set 64 y = a ++ (b ++ [y]) := fun a b x y ha hb => by
    rw [List.set_append_right _ _ (by omega), List.set_append_right _ _ (by omega), ha, hb]
    rfl
  show (u32C v :: (_ ++ (_ ++ [u64C 0])).set 64 (u64C n)) = _
  rw [h1 _ _ _ _ (by simp [H0, Z32]) (by simp [H0, Z32])]
  rfl
theorem h32_ext (s : ByteArray) (k : Nat) (h : k + 32 ≤ s.size) : ((s.extract k s.size).toList.map fun b => C.v (Value.int .u8 (b.toNat : Int))).take 32 = (h32 s k).1.map bC8 := by
  have hv : (h32 s k).1 = (s.data.toList.drop k ++ List.replicate 32 0).take 32 := rfl
  have hl : s.data.toList.length = s.size := by rw [Array.length_toList]; rfl
  rw [hv, toList_data, ext_list, ← List.map_take, List.take_take, Nat.min_eq_left (by omega), List.take_append_of_le_length (by rw [List.length_drop]; omega)]
  rfl
theorem lay_a (v n : Nat) (a b a2 : H32) : lay (up (hdC ⟨v, a, b, n⟩)) 1 (up (a2.1.map bC8)) = up (hdC ⟨v, a2, b, n⟩) := by
  rw [lay_app _ _ _ (by simp [up, hdC, a.2, b.2, a2.2])]
  simp only [up, hdC, List.length_map, a2.2, List.map_cons, List.map_append, List.take_succ_cons, List.take_zero, List.drop_succ_cons, show 1 + 32 = 32 + 1 from rfl]
  rw [List.drop_left' (by simp [a.2])]
  simp
theorem lay_b (v n : Nat) (a b b2 : H32) : lay (up (hdC ⟨v, a, b, n⟩)) 33 (up (b2.1.map bC8)) = up (hdC ⟨v, a, b2, n⟩) := by
  rw [lay_app _ _ _ (by simp [up, hdC, a.2, b.2, b2.2])]
  simp only [up, hdC, List.length_map, b2.2, List.map_cons, List.map_append, List.take_succ_cons, List.drop_succ_cons, show 33 + 32 = (32 + 32) + 1 from rfl, show 33 = 32 + 1 from rfl]
  rw [List.take_left' (by simp [a.2]), ← List.drop_drop, List.drop_left' (by simp [a.2]), List.drop_left' (by simp [b.2])]
  simp
theorem headGet_den (i : Nat) (c : Cu) (ob : List Ob) (h : ob[i]? = some (curO c)) (hok : okCu ob) : Den Tryz.prog 26 [.mp i 0 0] ob (fun r ob' => r = hdM (headC c).1 ∧ ob' = ob.set i (curO (headC c).2)) := by
  have hil := (List.getElem?_eq_some_iff.1 h).1
  have z0 : zeroT Tryz.prog 27 = some (up (hdC H0)) := by kernel_rfl
  have hR := Raw_den i c 76 (ob ++ [⟨27, 1, false, 0, up (hdC H0), none⟩]) (by rw [List.getElem?_append_left hil, h])
  rw [List.set_append_left _ _ hil] at hR
  unfold headC
  have hsz := rawC_size c 76
  refine Den.forget ?_ ?_ ?_ ?_
  · simp
  · simp [hdM, ltB]
  · exact okCu_set ob i _ hok
  generalize (rawC c 76) = pr at *
  obtain ⟨s, d⟩ := pr
  simp only at *
  have hll : (ob.set i (curO d)).length = ob.length := by simp
  generalize ob.set i (curO d) = ob2 at *
  have k1 := take32_den s 0 (by omega) (by omega)
  have k2 := take64_den s 68 (by omega) (by omega)
  have hhd : getHD s = ⟨takeN s 0 4, h32 s 4, h32 s 36, takeN s 68 8⟩ := rfl
  unfold hdM
  have g1 : ∀ x y, (ob2 ++ [x, y])[ob.length + 1]? = some y := fun x y => by rw [← hll]; simp
  have g0 : ∀ x y, (ob2 ++ [x, y])[ob.length]? = some x := fun x y => by rw [← hll]; simp
  have g9 : ∀ x, (ob2 ++ [x])[ob.length]? = some x := fun x => by rw [← hll]; simp
  have g8 : ∀ x z, (ob2 ++ [x]).set ob.length z = ob2 ++ [z] := fun x z => by rw [← hll, List.set_append_right _ _ (by omega)]; simp
  have g2 : ∀ x y z, (ob2 ++ [x, y]).set (ob.length + 1) z = ob2 ++ [x, z] := fun x y z => by rw [← hll, List.set_append_right _ _ (by omega)]; simp
  have g3 : ∀ x y z, (ob2 ++ [x, y]).set ob.length z = ob2 ++ [z, y] := fun x y z => by rw [← hll, List.set_append_right _ _ (by omega)]; simp
  have hsl : s.toList.length = s.size := by rw [toList_data, Array.length_toList]; rfl
  rcases hsz with h0 | h0
  · obtain rfl : s = e0 := (size0_eq s).1 h0
    have hz : getHD e0 = H0 := by rfl
    have hZl : (hdC H0).length = 66 := by rfl
    rw [hz]
    generalize hdC H0 = Z at *
    have hZt : Z.take 66 = Z := List.take_of_length_le (by omega)
    refine den_of Tryz.func26 rfl rfl (by simp [Tryz.ntmps26]) (fun X hX hO => ?_)
    rw [Tryz.ntmps26] at hX
    simp only [Tryz.results26]
    repeat' (first 
     | (with_reducible first | refine awp_scope ?_ | refine awp_seq ?_ | refine awp_block ?_)
     | ((with_reducible first | refine awp_label ?_ | refine awp_skip ?_ | refine awp_exit ?_); try simp only [thenA, inBlockA, noGotoA, if_true, Nat.reduceEqDiff, if_false, ↓reduceIte])
     | ((with_reducible first | refine awp_reg 29 hX [0, 2, 3, 4, 5, 9] ?_ | refine awp_drw 29 hX [0, 2, 3, 4, 5, 9] Tab.mixed (by kernel_rfl) ?_ | refine DEv_cut _ _ _ _ _ _ _ _ _ _ _ _ (by kernel_rfl) ?_ | change postOf _ _ _ _ _); simp [-List.reduceReplicate, Nat.add_one_le_iff, -getElem?_pos, -getElem?_neg, iC, sC, z0, -Tab.zero27, g9, g8, e0, hZl, hZt])
     | ((first | (with_reducible refine awp_ret ?_; try simp only [thenA, inBlockA, noGotoA]) | (refine (hR).det ?_) | (refine ⟨_, _, hR, fun _ => rfl, ?_⟩)); try simp [-List.reduceReplicate, Nat.add_one_le_iff, -getElem?_pos, -getElem?_neg, iC, sC, z0, -Tab.zero27, g9, g8, e0, hZl, hZt])
     | (with_reducible refine awp_if_b rfl (fun hc => ?_) (fun hc => ?_) <;> (try simp [-getElem?_pos, -getElem?_neg] at hc) <;> (try (exfalso; omega)))
     | (with_reducible refine And.intro (by omega) ?_)
     | fail)
  · have hZl : ∀ H, (hdC H).length = 66 := fun H => by simp [hdC, H.a.2, H.b.2]
    have hst := hdC_set (takeN s 0 4) (takeN s 68 8)
    unfold u32C u64C at hst
    rw [hhd]
    have e1 := h32_ext s 4 (by omega)
    have e2 := h32_ext s 36 (by omega)
    have l1 := lay_a (takeN s 0 4) (takeN s 68 8) H0.a H0.b (h32 s 4)
    have l2 := lay_b (takeN s 0 4) (takeN s 68 8) (h32 s 4) H0.b (h32 s 36)
    have n1 : (s.extract 4 s.size).toList.length = 72 := by rw [toList_data, Array.length_toList]; show (s.extract 4 s.size).size = 72; rw [ByteArray.size_extract]; omega
    have n2 : (s.extract 36 s.size).toList.length = 40 := by rw [toList_data, Array.length_toList]; show (s.extract 36 s.size).size = 40; rw [ByteArray.size_extract]; omega
    rw [h0] at e1 e2 n1 n2
    have hw36 : IntKind.i64.wrap 36 = 36 := rfl
    have hne : ¬ s = ByteArray.empty := fun e => by rw [e] at h0; simp at h0
    have hne2 := toList_ne hne
    refine den_of Tryz.func26 rfl rfl (by simp [Tryz.ntmps26]) (fun X hX hO => ?_)
    rw [Tryz.ntmps26] at hX
    simp only [Tryz.results26]
    repeat' (first 
     | (with_reducible first | refine awp_scope ?_ | refine awp_seq ?_ | refine awp_block ?_)
     | ((with_reducible first | refine awp_label ?_ | refine awp_skip ?_ | refine awp_exit ?_); try simp only [thenA, inBlockA, noGotoA, if_true, Nat.reduceEqDiff, if_false, ↓reduceIte])
     | ((with_reducible first | refine awp_reg 29 hX [0, 2, 3, 4, 5, 9] ?_ | refine awp_drw 29 hX [0, 2, 3, 4, 5, 9] Tab.mixed (by kernel_rfl) ?_ | refine DEv_cut _ _ _ _ _ _ _ _ _ _ _ _ (by kernel_rfl) ?_ | change postOf _ _ _ _ _); simp [-List.reduceReplicate, Nat.add_one_le_iff, -getElem?_pos, -getElem?_neg, iC, sC, u32C, u64C, z0, -Tab.zero27, g9, g8, hZl, hne, hne2, hst, g1, g2, g3, g0, hll, e1, e2, l1, l2, n1, n2, h0, hw36, List.take_of_length_le])
     | ((first | (with_reducible refine awp_ret ?_; try simp only [thenA, inBlockA, noGotoA]) | (refine (hR).det ?_) | (refine ⟨_, _, hR, fun _ => rfl, ?_⟩) | (refine (k1 _).det ?_) | (refine ⟨_, _, k1 _, fun _ => rfl, ?_⟩) | (refine (k2 _).det ?_) | (refine ⟨_, _, k2 _, fun _ => rfl, ?_⟩)); try simp [-List.reduceReplicate, Nat.add_one_le_iff, -getElem?_pos, -getElem?_neg, iC, sC, u32C, u64C, z0, -Tab.zero27, g9, g8, hZl, hne, hne2, hst, g1, g2, g3, g0, hll, e1, e2, l1, l2, n1, n2, h0, hw36, List.take_of_length_le])
     | (with_reducible refine awp_if_b rfl (fun hc => ?_) (fun hc => ?_) <;> (try simp [-getElem?_pos, -getElem?_neg] at hc) <;> (try (exfalso; omega)))
     | (with_reducible refine And.intro (by omega) ?_)
     | fail)
    trace_state
def hdX (v : Nat) (A B : List C) (n : Nat) : List C := u32v v :: (A ++ (B ++ [u64C n]))
theorem hdX_len (v : Nat) (A B : List C) (n : Nat) (hA : A.length = 32) (hB : B.length = 32) : (hdX v A B n).length = 66 := by simp [hdX, hA, hB]
theorem hdX_a (v : Nat) (A B : List C) (n i : Nat) (x : C) (hA : A.length = 32) (hi : i < 32) : (hdX v A B n).set (1 + i) x = hdX v (A.set i x) B n := by
  rw [Nat.add_comm]
  show u32v v :: (A ++ (B ++ [u64C n])).set i x = _
  rw [List.set_append_left _ _ (by omega)]
  rfl
theorem hdX_b (v : Nat) (A B : List C) (n i : Nat) (x : C) (hA : A.length = 32) (hB : B.length = 32) (hi : i < 32) : (hdX v A B n).set (33 + i) x = hdX v A (B.set i x) n := by
  rw [show 33 + i = (32 + i) + 1 by omega]
  show u32v v :: (A ++ (B ++ [u64C n])).set (32 + i) x = _
  rw [List.set_append_right _ _ (by omega), hA, show 32 + i - 32 = i by omega, List.set_append_left _ _ (by omega)]
  rfl
theorem get17_den (c : Cu) : DenV Tryz.prog 31 [cuM c] (.tup [hdM (headC c).1, cuM (headC c).2]) := by
  refine Den.frame rfl (by simp [hdM, cuM, ltB, ltBs]) ?_
  have hR := raw08_den c 76
  have z0 : zeroT Tryz.prog 27 = some (up (hdC H0)) := by kernel_rfl
  unfold headC
  have hsz := rawC_size c 76
  generalize rawC c 76 = pr at *
  obtain ⟨s, d⟩ := pr
  simp only at *
  have k1 := take01_den s 0 4 (by omega) (by omega) (by omega)
  have k2 := take01_den s 68 8 (by omega) (by omega) (by omega)
  have hhd : getHD s = ⟨takeN s 0 4, h32 s 4, h32 s 36, takeN s 68 8⟩ := rfl
  rcases hsz with h0 | h0
  · obtain rfl : s = e0 := (size0_eq s).1 h0
    have hz : getHD e0 = H0 := by rfl
    have hZl : (hdC H0).length = 66 := by rfl
    rw [hz]
    unfold hdM
    generalize hdC H0 = Z at *
    have hZt : Z.take 66 = Z := List.take_of_length_le (by omega)
    refine den_of Tryz.func31 rfl rfl (by simp [Tryz.ntmps31]) (fun X hX hO => ?_)
    rw [Tryz.ntmps31] at hX
    simp only [Tryz.results31]
    repeat' (first 
     | (with_reducible first | refine awp_scope ?_ | refine awp_seq ?_ | refine awp_block ?_)
     | ((with_reducible first | refine awp_label ?_ | refine awp_skip ?_ | refine awp_exit ?_ | refine hother _ _ rfl ?_); try simp only [thenA, inBlockA, noGotoA, if_true, Nat.reduceEqDiff, if_false, ↓reduceIte])
     | ((with_reducible first | refine awp_reg 43 hX [1, 2, 3, 4, 5, 6, 7, 14, 24] ?_ | refine DEv_cut _ _ _ _ _ _ _ _ _ _ _ _ (by kernel_rfl) ?_ | change postOf _ _ _ _ _); simp [-List.reduceReplicate, Nat.add_one_le_iff, -getElem?_pos, -getElem?_neg, iC, sC, cuM, cuC, z0, -Tab.zero27, mk_e0, mk_e1, hZl, hZt])
     | ((first | (with_reducible refine awp_ret ?_; try simp only [thenA, inBlockA, noGotoA]) | (refine (hR _).det ?_) | (refine ⟨_, _, hR _, fun _ => rfl, ?_⟩)); try simp [-List.reduceReplicate, Nat.add_one_le_iff, -getElem?_pos, -getElem?_neg, iC, sC, cuM, cuC, z0, -Tab.zero27, mk_e0, mk_e1, hZl, hZt])
     | (with_reducible refine awp_if_b rfl (fun hc => ?_) (fun hc => ?_) <;> (try simp [-getElem?_pos, -getElem?_neg] at hc) <;> (try (exfalso; omega)))
     | (with_reducible refine And.intro (by omega) ?_)
     | fail)
    refine awp_drawS (id := 3) 43 hX [1, 2, 3, 4, 5, 6, 7, 14, 24] Tab.mixed (by kernel_rfl) [.agg (up Z), cuM d, .junk, .junk] (fun p => [⟨68, 2, false, 0, up (cuC c), none⟩, ⟨27, 1, false, 0, up Z, none⟩, if p 3 then ⟨68, 2, false, 0, up (cuC d), none⟩ else ⟨68, 2, false, 0, [.c (.v (.string e0)), .c (iC 0)], none⟩, ⟨68, 2, false, 0, up (cuC d), none⟩]) (by simp [iC, cuC, cuM, z0, -Tab.zero27, hZl, hZt]) (fun p q hpq => ?_) ?_ ?_
    · simp only [hpq 3 (by decide)]
    · intro i o p hl hp hcl hno
      match i, hl with
      | 0, hl =>
        obtain rfl := Option.some.inj hl
        have c3 : p 3 = false := by cases h : p 3 with | false => rfl | true => exact absurd (List.contains_iff_mem.1 (by kernel_rfl)) (hno 3 _ rfl h)
        all_goals refine ⟨_, rfl, ?_⟩
        all_goals simp [StepS, frP, -exists_and_left, hp, c3, iC, cuC, cuM, z0, -Tab.zero27, hZl, hZt]
      | 1, hl =>
        obtain rfl := Option.some.inj hl
        have c3 : p 3 = false := by cases h : p 3 with | false => rfl | true => exact absurd (List.contains_iff_mem.1 (by kernel_rfl)) (hno 3 _ rfl h)
        all_goals refine ⟨_, rfl, ?_⟩
        all_goals simp [StepS, frP, -exists_and_left, hp, c3, iC, cuC, cuM, z0, -Tab.zero27, hZl, hZt]
      | 2, hl =>
        obtain rfl := Option.some.inj hl
        have c3 : p 3 = false := by cases h : p 3 with | false => rfl | true => exact absurd (List.contains_iff_mem.1 (by kernel_rfl)) (hno 3 _ rfl h)
        all_goals refine ⟨_, rfl, ?_⟩
        all_goals simp [StepS, frP, -exists_and_left, hp, c3, iC, cuC, cuM, z0, -Tab.zero27, hZl, hZt]
      | 3, hl =>
        obtain rfl := Option.some.inj hl
        all_goals refine ⟨_, rfl, ?_⟩
        all_goals simp [StepS, frP, -exists_and_left, hp, iC, cuC, cuM, z0, -Tab.zero27, hZl, hZt]
      | n + 4, hl => simp at hl
    simp [frP, iC, cuC, cuM, z0, -Tab.zero27, hZl, hZt]
    repeat' (first 
     | (with_reducible first | refine awp_scope ?_ | refine awp_seq ?_ | refine awp_block ?_)
     | ((with_reducible first | refine awp_label ?_ | refine awp_skip ?_ | refine awp_exit ?_ | refine hother _ _ rfl ?_); try simp only [thenA, inBlockA, noGotoA, if_true, Nat.reduceEqDiff, if_false, ↓reduceIte])
     | ((with_reducible first | refine awp_reg 43 hX [1, 2, 3, 4, 5, 6, 7, 14, 24] ?_ | refine DEv_cut _ _ _ _ _ _ _ _ _ _ _ _ (by kernel_rfl) ?_ | change postOf _ _ _ _ _); simp [-List.reduceReplicate, Nat.add_one_le_iff, -getElem?_pos, -getElem?_neg, iC, cuM, cuC, hZl, hZt])
     | ((first | (with_reducible refine awp_ret ?_; try simp only [thenA, inBlockA, noGotoA])); try simp [-List.reduceReplicate, Nat.add_one_le_iff, -getElem?_pos, -getElem?_neg, iC, cuM, cuC, hZl, hZt])
     | (with_reducible refine awp_if_b rfl (fun hc => ?_) (fun hc => ?_) <;> (try simp [-getElem?_pos, -getElem?_neg] at hc) <;> (try (exfalso; omega)))
     | (with_reducible refine And.intro (by omega) ?_)
     | fail)
  · have hZl : ∀ H, (hdC H).length = 66 := fun H => by simp [hdC, H.a.2, H.b.2]
    have hst := hdC_set (takeN s 0 4) (takeN s 68 8)
    have hkl := takeN_lt s 0 4
    have hkw : IntKind.u32.wrap ((takeN s 0 4 : Nat) : Int) = (takeN s 0 4 : Nat) := by rw [modU32]; omega
    unfold u32C u64C at hst
    rw [hhd]
    have hne : ¬ s = ByteArray.empty := fun e => by rw [e] at h0; simp at h0
    have hne2 := toList_ne hne
    have hne3 : ¬ s.toList = e0.toList := by rw [show e0.toList = [] by rw [toList_data]; rfl]; exact hne2
    have hbn := byteAt_nat s
    have hdl : s.data.toList.length = 76 := by rw [Array.length_toList]; exact h0
    have h32v : ∀ k, k + 32 ≤ 76 → ∀ i, i < 32 → ((h32 s k).1.map bC8)[i]? = some (C.v (.int .u8 (byteAt s (k + i)))) := fun k hk i hi => by
      have hv : (h32 s k).1 = (s.data.toList.drop k ++ List.replicate 32 0).take 32 := rfl
      rw [hv, List.take_append_of_le_length (by rw [List.length_drop]; omega), List.getElem?_map, List.getElem?_take_of_lt hi, List.getElem?_drop, hbn, List.getElem?_eq_getElem (by omega), List.getD_eq_getElem?_getD, List.getElem?_eq_getElem (by omega)]
      rfl
    have hga := h32v 4 (by omega)
    have hgb := h32v 36 (by omega)
    clear h32v hbn
    have hA : ((h32 s 4).1.map bC8).length = 32 := by simp [(h32 s 4).2]
    have hB : ((h32 s 36).1.map bC8).length = 32 := by simp [(h32 s 36).2]
    have hx0 : hdC ⟨takeN s 0 4, H0.a, H0.b, takeN s 68 8⟩ = hdX (takeN s 0 4) (((h32 s 4).1.map bC8).take 0 ++ List.replicate (32 - 0) (C.v (.int .u8 0))) (((h32 s 36).1.map bC8).take 0 ++ List.replicate (32 - 0) (C.v (.int .u8 0))) (takeN s 68 8) := rfl
    have hx1 : hdC ⟨takeN s 0 4, h32 s 4, h32 s 36, takeN s 68 8⟩ = hdX (takeN s 0 4) ((h32 s 4).1.map bC8) ((h32 s 36).1.map bC8) (takeN s 68 8) := rfl
    have hxl := hdX_len
    have hxa := hdX_a
    have hxb := hdX_b
    unfold hdM
    rw [hx1]
    rw [hx0] at hst
    generalize (h32 s 4).1.map bC8 = A at *
    generalize (h32 s 36).1.map bC8 = B at *
    generalize takeN s 0 4 = v at *
    generalize takeN s 68 8 = n at *
    have zA : A.take 0 ++ List.replicate (32 - 0) (C.v (.int .u8 0)) = List.replicate 32 (C.v (.int .u8 0)) := rfl
    have zB : B.take 0 ++ List.replicate (32 - 0) (C.v (.int .u8 0)) = List.replicate 32 (C.v (.int .u8 0)) := rfl
    refine den_of Tryz.func31 rfl rfl (by simp [Tryz.ntmps31]) (fun X hX hO => ?_)
    rw [Tryz.ntmps31] at hX
    simp only [Tryz.results31]
    repeat' (first 
     | (with_reducible first | refine awp_scope ?_ | refine awp_seq ?_ | refine awp_block ?_)
     | ((with_reducible first | refine awp_label ?_ | refine awp_skip ?_ | refine awp_exit ?_ | refine hother _ _ rfl ?_); try simp only [thenA, inBlockA, noGotoA, if_true, Nat.reduceEqDiff, if_false, ↓reduceIte])
     | ((with_reducible first | refine awp_reg 43 hX [1, 2, 3, 4, 5, 6, 7, 14, 24] ?_ | refine DEv_cut _ _ _ _ _ _ _ _ _ _ _ _ (by kernel_rfl) ?_ | change postOf _ _ _ _ _); simp [-List.reduceReplicate, Nat.add_one_le_iff, -getElem?_pos, -getElem?_neg, iC, sC, u32C, u64C, cuM, cuC, z0, -Tab.zero27, mk_e0, mk_e1, hZl, hne, hne3, hst, hkw, hxl])
     | ((first | (with_reducible refine awp_ret ?_; try simp only [thenA, inBlockA, noGotoA]) | (refine (hR _).det ?_) | (refine ⟨_, _, hR _, fun _ => rfl, ?_⟩) | (refine (k1 _).det ?_) | (refine ⟨_, _, k1 _, fun _ => rfl, ?_⟩) | (refine (k2 _).det ?_) | (refine ⟨_, _, k2 _, fun _ => rfl, ?_⟩)); try simp [-List.reduceReplicate, Nat.add_one_le_iff, -getElem?_pos, -getElem?_neg, iC, sC, u32C, u64C, cuM, cuC, z0, -Tab.zero27, mk_e0, mk_e1, hZl, hne, hne3, hst, hkw, hxl])
     | (with_reducible refine awp_if_b rfl (fun hc => ?_) (fun hc => ?_) <;> (try simp [-getElem?_pos, -getElem?_neg] at hc) <;> (try (exfalso; omega)))
     | (with_reducible refine And.intro (by omega) ?_)
     | fail)
    refine awp_forU [2, 3, 4, 5, 6, 7] (fun i (_u : Unit) => [(7, .c (iC i))]) (fun i (_u : Unit) => [⟨68, 2, false, 0, up (cuC c), none⟩, ⟨27, 1, false, 0, up (hdC H0), none⟩, ⟨68, 2, false, 0, [.c (.v (.string e0)), .c (iC 0)], none⟩, ⟨68, 2, false, 0, up (cuC d), none⟩, ⟨27, 1, false, 0, up (hdX v (A.take i ++ List.replicate (32 - i) (C.v (.int .u8 0))) (B.take i ++ List.replicate (32 - i) (C.v (.int .u8 0))) n), none⟩]) (fun i (_u : Unit) => True) (32) (()) (by first | trivial | (simp; done) | omega | (intros; simp at *; done)) (by simp [-List.reduceReplicate, keep, iC, cuC, zA, zB]) (by simp [-List.reduceReplicate, iC, cuC, zA, zB]) ?_
    rintro i _u Q1 hi hH next hother
    conv => arg 5; arg 1; simp only [List.cons_append, List.nil_append, keep, get, Nat.reduceEqDiff, if_true, if_false, ↓reduceIte]
    have hwi := wrap_in ((i : Int) + 1) (by omega)
    have hw4 := wrap_in (4 + (i : Int)) (by omega)
    have hw36 := wrap_in (36 + (i : Int)) (by omega)
    have hlA := len_fill A (C.v (.int .u8 0)) 32 i (by omega) hA
    have hlB := len_fill B (C.v (.int .u8 0)) 32 i (by omega) hB
    by_cases hlt : i < 32
    · have ga := hga i hlt
      have gb := hgb i hlt
      have sa := set_fill A (C.v (.int .u8 0)) _ 32 i hlt hA ga
      have sb := set_fill B (C.v (.int .u8 0)) _ 32 i hlt hB gb
      have e1 : (0 : Int) ≤ 4 + (i : Int) := by omega
      have e2 : (4 + (i : Int)).toNat = 4 + i := by omega
      have e3 : (0 : Int) ≤ 36 + (i : Int) := by omega
      have e4 : (36 + (i : Int)).toNat = 36 + i := by omega
      have e5 : 4 + i < s.size := by omega
      have e6 : 36 + i < s.size := by omega
      have e7 : (i : Int) < 32 := by omega
      have e8 : 4 + (i : Int) < s.size := by omega
      have e9 : 36 + (i : Int) < s.size := by omega
      have xa := hxa v (A.take i ++ List.replicate (32 - i) (C.v (.int .u8 0))) (B.take i ++ List.replicate (32 - i) (C.v (.int .u8 0))) n i (.v (.int .u8 (byteAt s (4 + i)))) hlA hlt
      have xb := hxb v (A.take (i + 1) ++ List.replicate (32 - (i + 1)) (C.v (.int .u8 0))) (B.take i ++ List.replicate (32 - i) (C.v (.int .u8 0))) n i (.v (.int .u8 (byteAt s (36 + i)))) (by simp; omega) hlB hlt
      have xl := fun B hB' => hxl v (A.take i ++ List.replicate (32 - i) (C.v (.int .u8 0))) B n hlA hB'
      have xl1 := xl _ hlB
      have xl2 := hxl v (A.take (i + 1) ++ List.replicate (32 - (i + 1)) (C.v (.int .u8 0))) _ n (by simp; omega) hlB
      clear xl
      rw [sa] at xa
      rw [sb] at xb
      generalize A.take i ++ List.replicate (32 - i) (C.v (.int .u8 0)) = GA at *
      generalize B.take i ++ List.replicate (32 - i) (C.v (.int .u8 0)) = GB at *
      generalize A.take (i + 1) ++ List.replicate (32 - (i + 1)) (C.v (.int .u8 0)) = GA2 at *
      generalize B.take (i + 1) ++ List.replicate (32 - (i + 1)) (C.v (.int .u8 0)) = GB2 at *
      have e10 : 1 + i < 66 := by omega
      have e11 : 33 + i < 66 := by omega
      repeat' (first 
       | (with_reducible first | refine awp_scope ?_ | refine awp_seq ?_ | refine awp_block ?_)
       | ((with_reducible first | refine awp_label ?_ | refine awp_skip ?_ | refine awp_exit ?_ | refine hother _ _ rfl ?_); try simp only [thenA, inBlockA, noGotoA, if_true, Nat.reduceEqDiff, if_false, ↓reduceIte])
       | ((with_reducible first | refine awp_reg 43 hX [1, 2, 3, 4, 5, 6, 7, 14, 24] ?_ | refine DEv_cut _ _ _ _ _ _ _ _ _ _ _ _ (by kernel_rfl) ?_ | change postOf _ _ _ _ _); simp [-List.reduceReplicate, Nat.add_one_le_iff, -getElem?_pos, -getElem?_neg, iC, sC, cuC, e1, e2, e3, e4, e5, e6, e7, e8, e9, e10, e11, hwi, hw4, hw36, xa, xb, xl1, xl2, hlt, h0])
       | ((first | (with_reducible refine awp_ret ?_; try simp only [thenA, inBlockA, noGotoA])); try simp [-List.reduceReplicate, Nat.add_one_le_iff, -getElem?_pos, -getElem?_neg, iC, sC, cuC, e1, e2, e3, e4, e5, e6, e7, e8, e9, e10, e11, hwi, hw4, hw36, xa, xb, xl1, xl2, hlt, h0])
       | (with_reducible refine awp_if_b rfl (fun hc => ?_) (fun hc => ?_) <;> (try simp [-getElem?_pos, -getElem?_neg] at hc) <;> (try (exfalso; omega)))
       | (with_reducible refine And.intro (by omega) ?_)
       | fail)
      refine next _ _ (()) (by omega) (by first | trivial | omega | assumption) (by simp [-List.reduceReplicate, keep, iC, cuC]) (by simp [-List.reduceReplicate, iC, cuC])
    · obtain rfl : i = 32 := by omega
      have hexit := hother; clear next hother
      have eA : A.take 32 ++ List.replicate (32 - 32) (C.v (.int .u8 0)) = A := by rw [List.take_of_length_le (by omega)]; simp
      have eB : B.take 32 ++ List.replicate (32 - 32) (C.v (.int .u8 0)) = B := by rw [List.take_of_length_le (by omega)]; simp
      rw [eA, eB]
      have hXl := hxl v A B n hA hB
      generalize hdX v A B n = Xh at *
      have hXt : Xh.take 66 = Xh := List.take_of_length_le (by omega)
      have hZ0 := hZl H0
      generalize hdC H0 = Z at *
      repeat' (first 
       | (with_reducible first | refine awp_scope ?_ | refine awp_seq ?_ | refine awp_block ?_)
       | ((with_reducible first | refine awp_label ?_ | refine awp_skip ?_ | refine awp_exit ?_ | refine hother _ _ rfl ?_); try simp only [thenA, inBlockA, noGotoA, if_true, Nat.reduceEqDiff, if_false, ↓reduceIte])
       | ((with_reducible first | refine awp_reg 43 hX [1, 2, 3, 4, 5, 6, 7, 14, 24] ?_ | refine DEv_cut _ _ _ _ _ _ _ _ _ _ _ _ (by kernel_rfl) ?_ | change postOf _ _ _ _ _); simp [-List.reduceReplicate, Nat.add_one_le_iff, -getElem?_pos, -getElem?_neg, iC, cuC])
       | ((first | (with_reducible refine awp_ret ?_; try simp only [thenA, inBlockA, noGotoA])); try simp [-List.reduceReplicate, Nat.add_one_le_iff, -getElem?_pos, -getElem?_neg, iC, cuC])
       | (with_reducible refine awp_if_b rfl (fun hc => ?_) (fun hc => ?_) <;> (try simp [-getElem?_pos, -getElem?_neg] at hc) <;> (try (exfalso; omega)))
       | (with_reducible refine And.intro (by omega) ?_)
       | fail)
      refine hexit _ _ rfl ?_
      simp only [inBlockA, thenA, ↓reduceIte]
      clear hexit
      refine awp_seq ?_
      refine awp_drawS (id := 10) 43 hX [1, 2, 3, 4, 5, 6, 7, 14, 24] Tab.mixed (by kernel_rfl) [.agg (up Xh), cuM d, .junk, .junk] (fun p => [⟨68, 2, false, 0, up (cuC c), none⟩, ⟨27, 1, false, 0, up (if p 2 then Xh else Z), none⟩, if p 3 then ⟨68, 2, false, 0, up (cuC d), none⟩ else ⟨68, 2, false, 0, [.c (.v (.string e0)), .c (iC 0)], none⟩, ⟨68, 2, false, 0, up (cuC d), none⟩, ⟨27, 1, false, 0, up Xh, none⟩]) (by simp [iC, cuC, cuM, hXl, hXt, hZ0]) (fun p q hpq => ?_) ?_ ?_
      · simp only [hpq 2 (by decide), hpq 3 (by decide)]
      · intro i o p hl hp hcl hno
        match i, hl with
        | 0, hl =>
          obtain rfl := Option.some.inj hl
          have c2 : p 2 = false := by cases h : p 2 with | false => rfl | true => exact absurd (List.contains_iff_mem.1 (by kernel_rfl)) (hno 2 _ rfl h)
          have c3 : p 3 = false := by cases h : p 3 with | false => rfl | true => exact absurd (List.contains_iff_mem.1 (by kernel_rfl)) (hno 3 _ rfl h)
          all_goals refine ⟨_, rfl, ?_⟩
          all_goals simp [StepS, frP, -exists_and_left, hp, c2, c3, iC, cuC, cuM, hXl, hXt, hZ0]
        | 1, hl =>
          obtain rfl := Option.some.inj hl
          have c3 : p 3 = false := by cases h : p 3 with | false => rfl | true => exact absurd (List.contains_iff_mem.1 (by kernel_rfl)) (hno 3 _ rfl h)
          all_goals rcases Bool.eq_false_or_eq_true (p 2) with c2 | c2
          all_goals refine ⟨_, rfl, ?_⟩
          all_goals simp [StepS, frP, -exists_and_left, hp, c3, c2, iC, cuC, cuM, hXl, hXt, hZ0]
        | 2, hl =>
          obtain rfl := Option.some.inj hl
          have c3 : p 3 = false := by cases h : p 3 with | false => rfl | true => exact absurd (List.contains_iff_mem.1 (by kernel_rfl)) (hno 3 _ rfl h)
          all_goals refine ⟨_, rfl, ?_⟩
          all_goals simp [StepS, frP, -exists_and_left, hp, c3, iC, cuC, cuM, hXl, hXt, hZ0]
        | 3, hl =>
          obtain rfl := Option.some.inj hl
          have c2 : p 2 = true := hcl 2 (List.contains_iff_mem.1 (by kernel_rfl))
          all_goals refine ⟨_, rfl, ?_⟩
          all_goals simp [StepS, frP, -exists_and_left, hp, c2, iC, cuC, cuM, hXl, hXt, hZ0]
        | n + 4, hl => simp at hl
      simp [frP, iC, cuC, cuM, hXl, hXt, hZ0]
      repeat' (first 
       | (with_reducible first | refine awp_scope ?_ | refine awp_seq ?_ | refine awp_block ?_)
       | ((with_reducible first | refine awp_label ?_ | refine awp_skip ?_ | refine awp_exit ?_ | refine hother _ _ rfl ?_); try simp only [thenA, inBlockA, noGotoA, if_true, Nat.reduceEqDiff, if_false, ↓reduceIte])
       | ((with_reducible first | refine awp_reg 43 hX [1, 2, 3, 4, 5, 6, 7, 14, 24] ?_ | refine DEv_cut _ _ _ _ _ _ _ _ _ _ _ _ (by kernel_rfl) ?_ | change postOf _ _ _ _ _); simp [-List.reduceReplicate, Nat.add_one_le_iff, -getElem?_pos, -getElem?_neg, iC, cuM, cuC, hXl, hXt])
       | ((first | (with_reducible refine awp_ret ?_; try simp only [thenA, inBlockA, noGotoA])); try simp [-List.reduceReplicate, Nat.add_one_le_iff, -getElem?_pos, -getElem?_neg, iC, cuM, cuC, hXl, hXt])
       | (with_reducible refine awp_if_b rfl (fun hc => ?_) (fun hc => ?_) <;> (try simp [-getElem?_pos, -getElem?_neg] at hc) <;> (try (exfalso; omega)))
       | (with_reducible refine And.intro (by omega) ?_)
       | fail)
end Go.Av

set_option exponentiation.threshold 1000
set_option linter.unusedVariables false
set_option linter.unusedSimpArgs false
set_option maxRecDepth 100000
set_option maxHeartbeats 4000000
namespace Go.Av
open Go Go.Proofs Go.Proofs.YtpcnacknlgmmlaaGreat Go.RowKit
attribute [local simp] List.getElem?_cons_zero List.getElem?_cons_succ
/-! ### the root of nothing -/
attribute [local simp] Tryz.underlying9 Tryz.underlying3 Tryz.underlying4 Tryz.underlying30 Tryz.underlying24 Tryz.underlying39 Tryz.underlying52
def nilM : M := .c (.v (.slice none 0 0))
def z32 : List UInt8 := List.replicate 32 0
def rootNil : List UInt8 := shaL (bsS (rootT 0 z32))
theorem rootNil_len : rootNil.length = 32 := shaL_len _
theorem textsNil_den : DenV Tryz.prog 84 [nilM] nilM := by
  refine Den.frame rfl rfl ?_
  refine den_of Tryz.func84 rfl rfl (by simp [Tryz.ntmps84]) (fun X hX hO => ?_)
  rw [Tryz.ntmps84] at hX
  simp only [Tryz.results84]
  repeat' (first 
   | (with_reducible first | refine awp_scope ?_ | refine awp_seq ?_ | refine awp_block ?_)
   | ((with_reducible first | refine awp_label ?_ | refine awp_skip ?_ | refine awp_exit ?_ | refine hother _ _ rfl ?_); try simp only [thenA, inBlockA, noGotoA, if_true, Nat.reduceEqDiff, if_false, ↓reduceIte])
   | ((with_reducible first | refine awp_reg 19 hX [0, 2, 3, 5, 6, 7, 8, 9] ?_ | change postOf _ _ _ _ _); simp [-List.reduceReplicate, Nat.add_one_le_iff, -getElem?_pos, -getElem?_neg, nilM])
   | ((first | (with_reducible refine awp_ret ?_; try simp only [thenA, inBlockA, noGotoA])); try simp [-List.reduceReplicate, Nat.add_one_le_iff, -getElem?_pos, -getElem?_neg, nilM])
   | (with_reducible refine awp_if_b rfl (fun hc => ?_) (fun hc => ?_) <;> (try simp [-getElem?_pos, -getElem?_neg] at hc) <;> (try (exfalso; omega)))
   | (with_reducible refine And.intro (by omega) ?_)
   | fail)
  refine awp_forU [3, 6, 7, 8] (fun i (_u : Unit) => [(8, .c (iC i))]) (fun i (_u : Unit) => []) (fun i (_u : Unit) => True) (0) (()) (by first | trivial | (simp; done) | omega | (intros; simp at *; done)) (by simp [-List.reduceReplicate, keep, iC]) (by simp [-List.reduceReplicate, iC]) ?_
  rintro i _u Q1 hi hH next hother
  conv => arg 5; arg 1; simp only [List.cons_append, List.nil_append, keep, get, Nat.reduceEqDiff, if_true, if_false, ↓reduceIte]
  repeat' (first 
   | (with_reducible first | refine awp_scope ?_ | refine awp_seq ?_ | refine awp_block ?_)
   | ((with_reducible first | refine awp_label ?_ | refine awp_skip ?_ | refine awp_exit ?_ | refine hother _ _ rfl ?_); try simp only [thenA, inBlockA, noGotoA, if_true, Nat.reduceEqDiff, if_false, ↓reduceIte])
   | ((with_reducible first | refine awp_reg 19 hX [0, 2, 3, 5, 6, 7, 8, 9] ?_ | change postOf _ _ _ _ _); simp [-List.reduceReplicate, Nat.add_one_le_iff, -getElem?_pos, -getElem?_neg, nilM, iC])
   | ((first | (with_reducible refine awp_ret ?_; try simp only [thenA, inBlockA, noGotoA])); try simp [-List.reduceReplicate, Nat.add_one_le_iff, -getElem?_pos, -getElem?_neg, nilM, iC])
   | (with_reducible refine awp_if_b rfl (fun hc => ?_) (fun hc => ?_) <;> (try simp [-getElem?_pos, -getElem?_neg] at hc) <;> (try (exfalso; omega)))
   | (with_reducible refine And.intro (by omega) ?_)
   | fail)
theorem eachNil_den (f : M) (hf : ltB 0 f = true) : DenV Tryz.prog 142 [nilM, f] nilM := by
  refine Den.frame (by simp [ltBs, hf, nilM, ltB]) rfl ?_
  refine den_of Tryz.func142 rfl rfl (by simp [Tryz.ntmps142]) (fun X hX hO => ?_)
  rw [Tryz.ntmps142] at hX
  simp only [Tryz.results142]
  repeat' (first 
   | (with_reducible first | refine awp_scope ?_ | refine awp_seq ?_ | refine awp_block ?_)
   | ((with_reducible first | refine awp_label ?_ | refine awp_skip ?_ | refine awp_exit ?_ | refine hother _ _ rfl ?_); try simp only [thenA, inBlockA, noGotoA, if_true, Nat.reduceEqDiff, if_false, ↓reduceIte])
   | ((with_reducible first | refine awp_reg 22 hX [0, 1, 4, 5, 7, 8, 9, 10, 11] ?_ | change postOf _ _ _ _ _); simp [-List.reduceReplicate, Nat.add_one_le_iff, -getElem?_pos, -getElem?_neg, nilM])
   | ((first | (with_reducible refine awp_ret ?_; try simp only [thenA, inBlockA, noGotoA])); try simp [-List.reduceReplicate, Nat.add_one_le_iff, -getElem?_pos, -getElem?_neg, nilM])
   | (with_reducible refine awp_if_b rfl (fun hc => ?_) (fun hc => ?_) <;> (try simp [-getElem?_pos, -getElem?_neg] at hc) <;> (try (exfalso; omega)))
   | (with_reducible refine And.intro (by omega) ?_)
   | fail)
  refine awp_forU [1, 5, 8, 9, 10] (fun i (_u : Unit) => [(9, .c (iC i))]) (fun i (_u : Unit) => []) (fun i (_u : Unit) => True) (0) (()) (by first | trivial | (simp; done) | omega | (intros; simp at *; done)) (by simp [-List.reduceReplicate, keep, iC]) (by simp [-List.reduceReplicate, iC]) ?_
  rintro i _u Q1 hi hH next hother
  conv => arg 5; arg 1; simp only [List.cons_append, List.nil_append, keep, get, Nat.reduceEqDiff, if_true, if_false, ↓reduceIte]
  repeat' (first 
   | (with_reducible first | refine awp_scope ?_ | refine awp_seq ?_ | refine awp_block ?_)
   | ((with_reducible first | refine awp_label ?_ | refine awp_skip ?_ | refine awp_exit ?_ | refine hother _ _ rfl ?_); try simp only [thenA, inBlockA, noGotoA, if_true, Nat.reduceEqDiff, if_false, ↓reduceIte])
   | ((with_reducible first | refine awp_reg 22 hX [0, 1, 4, 5, 7, 8, 9, 10, 11] ?_ | change postOf _ _ _ _ _); simp [-List.reduceReplicate, Nat.add_one_le_iff, -getElem?_pos, -getElem?_neg, nilM, iC])
   | ((first | (with_reducible refine awp_ret ?_; try simp only [thenA, inBlockA, noGotoA])); try simp [-List.reduceReplicate, Nat.add_one_le_iff, -getElem?_pos, -getElem?_neg, nilM, iC])
   | (with_reducible refine awp_if_b rfl (fun hc => ?_) (fun hc => ?_) <;> (try simp [-getElem?_pos, -getElem?_neg] at hc) <;> (try (exfalso; omega)))
   | (with_reducible refine And.intro (by omega) ?_)
   | fail)
theorem leavesNil_den : DenV Tryz.prog 113 [nilM] nilM := by
  refine Den.frame rfl rfl ?_
  refine den_of Tryz.func113 rfl rfl (by simp [Tryz.ntmps113]) (fun X hX hO => ?_)
  rw [Tryz.ntmps113] at hX
  simp only [Tryz.results113]
  repeat' (first 
   | (with_reducible first | refine awp_scope ?_ | refine awp_seq ?_ | refine awp_block ?_)
   | ((with_reducible first | refine awp_label ?_ | refine awp_skip ?_ | refine awp_exit ?_); try simp only [thenA, inBlockA, noGotoA, if_true, Nat.reduceEqDiff, if_false, ↓reduceIte])
   | ((with_reducible first | refine awp_reg 5 hX [0, 2] ?_ | change postOf _ _ _ _ _); simp [-List.reduceReplicate, Nat.add_one_le_iff, -getElem?_pos, -getElem?_neg, nilM])
   | ((first | (with_reducible refine awp_ret ?_; try simp only [thenA, inBlockA, noGotoA]) | ((with_reducible refine Den.at_ (f := 142) ?_); refine (eachNil_den _ rfl _).det ?_)); try simp [-List.reduceReplicate, Nat.add_one_le_iff, -getElem?_pos, -getElem?_neg, nilM])
   | (with_reducible refine awp_if_b rfl (fun hc => ?_) (fun hc => ?_) <;> (try simp [-getElem?_pos, -getElem?_neg] at hc) <;> (try (exfalso; omega)))
   | (with_reducible refine And.intro (by omega) ?_)
   | fail)
theorem topNil_den : DenV Tryz.prog 112 [nilM] (hashM z32) := by
  refine Den.frame rfl rfl ?_
  refine den_of Tryz.func112 rfl rfl (by simp [Tryz.ntmps112]) (fun X hX hO => ?_)
  rw [Tryz.ntmps112] at hX
  simp only [Tryz.results112]
  repeat' (first 
   | (with_reducible first | refine awp_scope ?_ | refine awp_seq ?_ | refine awp_block ?_)
   | ((with_reducible first | refine awp_label ?_ | refine awp_skip ?_ | refine awp_exit ?_); try simp only [thenA, inBlockA, noGotoA, if_true, Nat.reduceEqDiff, if_false, ↓reduceIte])
   | ((with_reducible first | refine awp_reg 25 hX [0, 2, 3, 4, 6, 7, 10] ?_ | change postOf _ _ _ _ _); simp [-List.reduceReplicate, Nat.add_one_le_iff, -getElem?_pos, -getElem?_neg, nilM, hashM, z32, bC8])
   | ((first | (with_reducible refine awp_ret ?_; try simp only [thenA, inBlockA, noGotoA])); try simp [-List.reduceReplicate, Nat.add_one_le_iff, -getElem?_pos, -getElem?_neg, nilM, hashM, z32, bC8])
   | (with_reducible refine awp_if_b rfl (fun hc => ?_) (fun hc => ?_) <;> (try simp [-getElem?_pos, -getElem?_neg] at hc) <;> (try (exfalso; omega)))
   | (with_reducible refine And.intro (by omega) ?_)
   | fail)
theorem treeRootNil_den : DenV Tryz.prog 83 [nilM] (hashM rootNil) := by
  refine Den.frame rfl rfl ?_
  have p1 := leavesNil_den
  have p2 := topNil_den
  have p3 := rootSum_den 0 z32 (by omega) (by simp [z32])
  have hl := rootNil_len
  have hr : shaL (bsS (rootT 0 z32)) = rootNil := rfl
  rw [hr] at p3
  have ht := hash_take rootNil hl
  generalize rootNil = r at *
  generalize z32 = z at *
  refine den_of Tryz.func83 rfl rfl (by simp [Tryz.ntmps83]) (fun X hX hO => ?_)
  rw [Tryz.ntmps83] at hX
  simp only [Tryz.results83]
  repeat' (first 
   | (with_reducible first | refine awp_scope ?_ | refine awp_seq ?_ | refine awp_block ?_)
   | ((with_reducible first | refine awp_label ?_ | refine awp_skip ?_ | refine awp_exit ?_); try simp only [thenA, inBlockA, noGotoA, if_true, Nat.reduceEqDiff, if_false, ↓reduceIte])
   | ((with_reducible first | refine awp_reg 10 hX [0, 2] ?_ | change postOf _ _ _ _ _); simp [-List.reduceReplicate, Nat.add_one_le_iff, -getElem?_pos, -getElem?_neg, nilM, hashM, u64C, ht, hl])
   | ((first | (with_reducible refine awp_ret ?_; try simp only [thenA, inBlockA, noGotoA]) | (refine (p1 _).det ?_) | (refine (p2 _).det ?_) | (refine (p3 _).det ?_)); try simp [-List.reduceReplicate, Nat.add_one_le_iff, -getElem?_pos, -getElem?_neg, nilM, hashM, u64C, ht, hl])
   | (with_reducible refine awp_if_b rfl (fun hc => ?_) (fun hc => ?_) <;> (try simp [-getElem?_pos, -getElem?_neg] at hc) <;> (try (exfalso; omega)))
   | (with_reducible refine And.intro (by omega) ?_)
   | fail)
theorem linkRootNil_den : DenV Tryz.prog 44 [nilM] (hashM rootNil) := by
  refine Den.frame rfl rfl ?_
  have hl := rootNil_len
  have ht := hash_take rootNil hl
  have p1 := treeRootNil_den
  generalize rootNil = r at *
  refine den_of Tryz.func44 rfl rfl (by simp [Tryz.ntmps44]) (fun X hX hO => ?_)
  rw [Tryz.ntmps44] at hX
  simp only [Tryz.results44]
  repeat' (first 
   | (with_reducible first | refine awp_scope ?_ | refine awp_seq ?_ | refine awp_block ?_)
   | ((with_reducible first | refine awp_label ?_ | refine awp_skip ?_ | refine awp_exit ?_); try simp only [thenA, inBlockA, noGotoA, if_true, Nat.reduceEqDiff, if_false, ↓reduceIte])
   | ((with_reducible first | refine awp_reg 6 hX [0, 2] ?_ | change postOf _ _ _ _ _); simp [-List.reduceReplicate, Nat.add_one_le_iff, -getElem?_pos, -getElem?_neg, nilM, hashM, ht, hl])
   | ((first | (with_reducible refine awp_ret ?_; try simp only [thenA, inBlockA, noGotoA]) | ((with_reducible refine Den.at_ (f := 84) ?_); refine (textsNil_den _).det ?_) | (refine (p1 _).det ?_)); try simp [-List.reduceReplicate, Nat.add_one_le_iff, -getElem?_pos, -getElem?_neg, nilM, hashM, ht, hl])
   | (with_reducible refine awp_if_b rfl (fun hc => ?_) (fun hc => ?_) <;> (try simp [-getElem?_pos, -getElem?_neg] at hc) <;> (try (exfalso; omega)))
   | (with_reducible refine And.intro (by omega) ?_)
   | fail)
theorem leaves17Nil_den : DenV Tryz.prog 90 [nilM] nilM := by
  refine Den.frame rfl rfl ?_
  refine den_of Tryz.func90 rfl rfl (by simp [Tryz.ntmps90]) (fun X hX hO => ?_)
  rw [Tryz.ntmps90] at hX
  simp only [Tryz.results90]
  repeat' (first 
   | (with_reducible first | refine awp_scope ?_ | refine awp_seq ?_ | refine awp_block ?_)
   | ((with_reducible first | refine awp_label ?_ | refine awp_skip ?_ | refine awp_exit ?_ | refine hother _ _ rfl ?_); try simp only [thenA, inBlockA, noGotoA, if_true, Nat.reduceEqDiff, if_false, ↓reduceIte])
   | ((with_reducible first | refine awp_reg 20 hX [0, 2, 3, 4, 8] ?_ | change postOf _ _ _ _ _); simp [-List.reduceReplicate, Nat.add_one_le_iff, -getElem?_pos, -getElem?_neg, nilM])
   | ((first | (with_reducible refine awp_ret ?_; try simp only [thenA, inBlockA, noGotoA])); try simp [-List.reduceReplicate, Nat.add_one_le_iff, -getElem?_pos, -getElem?_neg, nilM])
   | (with_reducible refine awp_if_b rfl (fun hc => ?_) (fun hc => ?_) <;> (try simp [-getElem?_pos, -getElem?_neg] at hc) <;> (try (exfalso; omega)))
   | (with_reducible refine And.intro (by omega) ?_)
   | fail)
  refine awp_forU [0, 3, 4] (fun i (_u : Unit) => [(4, .c (iC i))]) (fun i (_u : Unit) => []) (fun i (_u : Unit) => True) (0) (()) (by first | trivial | (simp; done) | omega | (intros; simp at *; done)) (by simp [-List.reduceReplicate, keep, iC]) (by simp [-List.reduceReplicate, iC]) ?_
  rintro i _u Q1 hi hH next hother
  conv => arg 5; arg 1; simp only [List.cons_append, List.nil_append, keep, get, Nat.reduceEqDiff, if_true, if_false, ↓reduceIte]
  repeat' (first 
   | (with_reducible first | refine awp_scope ?_ | refine awp_seq ?_ | refine awp_block ?_)
   | ((with_reducible first | refine awp_label ?_ | refine awp_skip ?_ | refine awp_exit ?_ | refine hother _ _ rfl ?_); try simp only [thenA, inBlockA, noGotoA, if_true, Nat.reduceEqDiff, if_false, ↓reduceIte])
   | ((with_reducible first | refine awp_reg 20 hX [0, 2, 3, 4, 8] ?_ | change postOf _ _ _ _ _); simp [-List.reduceReplicate, Nat.add_one_le_iff, -getElem?_pos, -getElem?_neg, nilM, iC])
   | ((first | (with_reducible refine awp_ret ?_; try simp only [thenA, inBlockA, noGotoA])); try simp [-List.reduceReplicate, Nat.add_one_le_iff, -getElem?_pos, -getElem?_neg, nilM, iC])
   | (with_reducible refine awp_if_b rfl (fun hc => ?_) (fun hc => ?_) <;> (try simp [-getElem?_pos, -getElem?_neg] at hc) <;> (try (exfalso; omega)))
   | (with_reducible refine And.intro (by omega) ?_)
   | fail)
theorem leaves11Nil_den : DenV Tryz.prog 119 [nilM] nilM := by
  refine Den.frame rfl rfl ?_
  refine den_of Tryz.func119 rfl rfl (by simp [Tryz.ntmps119]) (fun X hX hO => ?_)
  rw [Tryz.ntmps119] at hX
  simp only [Tryz.results119]
  repeat' (first 
   | (with_reducible first | refine awp_scope ?_ | refine awp_seq ?_ | refine awp_block ?_)
   | ((with_reducible first | refine awp_label ?_ | refine awp_skip ?_ | refine awp_exit ?_ | refine hother _ _ rfl ?_); try simp only [thenA, inBlockA, noGotoA, if_true, Nat.reduceEqDiff, if_false, ↓reduceIte])
   | ((with_reducible first | refine awp_reg 20 hX [0, 2, 3, 4, 8] ?_ | change postOf _ _ _ _ _); simp [-List.reduceReplicate, Nat.add_one_le_iff, -getElem?_pos, -getElem?_neg, nilM])
   | ((first | (with_reducible refine awp_ret ?_; try simp only [thenA, inBlockA, noGotoA])); try simp [-List.reduceReplicate, Nat.add_one_le_iff, -getElem?_pos, -getElem?_neg, nilM])
   | (with_reducible refine awp_if_b rfl (fun hc => ?_) (fun hc => ?_) <;> (try simp [-getElem?_pos, -getElem?_neg] at hc) <;> (try (exfalso; omega)))
   | (with_reducible refine And.intro (by omega) ?_)
   | fail)
  refine awp_forU [0, 3, 4] (fun i (_u : Unit) => [(4, .c (iC i))]) (fun i (_u : Unit) => []) (fun i (_u : Unit) => True) (0) (()) (by first | trivial | (simp; done) | omega | (intros; simp at *; done)) (by simp [-List.reduceReplicate, keep, iC]) (by simp [-List.reduceReplicate, iC]) ?_
  rintro i _u Q1 hi hH next hother
  conv => arg 5; arg 1; simp only [List.cons_append, List.nil_append, keep, get, Nat.reduceEqDiff, if_true, if_false, ↓reduceIte]
  repeat' (first 
   | (with_reducible first | refine awp_scope ?_ | refine awp_seq ?_ | refine awp_block ?_)
   | ((with_reducible first | refine awp_label ?_ | refine awp_skip ?_ | refine awp_exit ?_ | refine hother _ _ rfl ?_); try simp only [thenA, inBlockA, noGotoA, if_true, Nat.reduceEqDiff, if_false, ↓reduceIte])
   | ((with_reducible first | refine awp_reg 20 hX [0, 2, 3, 4, 8] ?_ | change postOf _ _ _ _ _); simp [-List.reduceReplicate, Nat.add_one_le_iff, -getElem?_pos, -getElem?_neg, nilM, iC])
   | ((first | (with_reducible refine awp_ret ?_; try simp only [thenA, inBlockA, noGotoA])); try simp [-List.reduceReplicate, Nat.add_one_le_iff, -getElem?_pos, -getElem?_neg, nilM, iC])
   | (with_reducible refine awp_if_b rfl (fun hc => ?_) (fun hc => ?_) <;> (try simp [-getElem?_pos, -getElem?_neg] at hc) <;> (try (exfalso; omega)))
   | (with_reducible refine And.intro (by omega) ?_)
   | fail)
theorem top11Nil_den : DenV Tryz.prog 118 [nilM] (hashM z32) := by
  refine Den.frame rfl rfl ?_
  refine den_of Tryz.func118 rfl rfl (by simp [Tryz.ntmps118]) (fun X hX hO => ?_)
  rw [Tryz.ntmps118] at hX
  simp only [Tryz.results118]
  repeat' (first 
   | (with_reducible first | refine awp_scope ?_ | refine awp_seq ?_ | refine awp_block ?_)
   | ((with_reducible first | refine awp_label ?_ | refine awp_skip ?_ | refine awp_exit ?_); try simp only [thenA, inBlockA, noGotoA, if_true, Nat.reduceEqDiff, if_false, ↓reduceIte])
   | ((with_reducible first | refine awp_reg 26 hX [0, 2, 3, 6, 10] ?_ | refine awp_drw 26 hX [0, 2, 3, 6, 10] Tab.mixed (by kernel_rfl) ?_ | refine DEv_cut _ _ _ _ _ _ _ _ _ _ _ _ (by kernel_rfl) ?_ | change postOf _ _ _ _ _); simp [-List.reduceReplicate, Nat.add_one_le_iff, -getElem?_pos, -getElem?_neg, nilM, hashM, z32, bC8])
   | ((first | (with_reducible refine awp_ret ?_; try simp only [thenA, inBlockA, noGotoA])); try simp [-List.reduceReplicate, Nat.add_one_le_iff, -getElem?_pos, -getElem?_neg, nilM, hashM, z32, bC8])
   | (with_reducible refine awp_if_b rfl (fun hc => ?_) (fun hc => ?_) <;> (try simp [-getElem?_pos, -getElem?_neg] at hc) <;> (try (exfalso; omega)))
   | (with_reducible refine And.intro (by omega) ?_)
   | fail)
theorem root11Nil_den : DenV Tryz.prog 89 [nilM] (hashM rootNil) := by
  refine Den.frame rfl rfl ?_
  have p1 := leaves11Nil_den
  have p2 := top11Nil_den
  have p3 := root03_den 0 z32 (by omega) (by simp [z32])
  have hl := rootNil_len
  have hr : shaL (bsS (rootT 0 z32)) = rootNil := rfl
  rw [hr] at p3
  have ht := hash_take rootNil hl
  generalize rootNil = r at *
  generalize z32 = z at *
  refine den_of Tryz.func89 rfl rfl (by simp [Tryz.ntmps89]) (fun X hX hO => ?_)
  rw [Tryz.ntmps89] at hX
  simp only [Tryz.results89]
  repeat' (first 
   | (with_reducible first | refine awp_scope ?_ | refine awp_seq ?_ | refine awp_block ?_)
   | ((with_reducible first | refine awp_label ?_ | refine awp_skip ?_ | refine awp_exit ?_); try simp only [thenA, inBlockA, noGotoA, if_true, Nat.reduceEqDiff, if_false, ↓reduceIte])
   | ((with_reducible first | refine awp_reg 10 hX [0, 2] ?_ | change postOf _ _ _ _ _); simp [-List.reduceReplicate, Nat.add_one_le_iff, -getElem?_pos, -getElem?_neg, nilM, hashM, u64C, ht, hl])
   | ((first | (with_reducible refine awp_ret ?_; try simp only [thenA, inBlockA, noGotoA]) | (refine (p1 _).det ?_) | (refine (p2 _).det ?_) | (refine (p3 _).det ?_)); try simp [-List.reduceReplicate, Nat.add_one_le_iff, -getElem?_pos, -getElem?_neg, nilM, hashM, u64C, ht, hl])
   | (with_reducible refine awp_if_b rfl (fun hc => ?_) (fun hc => ?_) <;> (try simp [-getElem?_pos, -getElem?_neg] at hc) <;> (try (exfalso; omega)))
   | (with_reducible refine And.intro (by omega) ?_)
   | fail)
theorem links17Nil_den : DenV Tryz.prog 48 [nilM] (hashM rootNil) := by
  refine Den.frame rfl rfl ?_
  have hl := rootNil_len
  have ht := hash_take rootNil hl
  have p1 := root11Nil_den
  generalize rootNil = r at *
  refine den_of Tryz.func48 rfl rfl (by simp [Tryz.ntmps48]) (fun X hX hO => ?_)
  rw [Tryz.ntmps48] at hX
  simp only [Tryz.results48]
  repeat' (first 
   | (with_reducible first | refine awp_scope ?_ | refine awp_seq ?_ | refine awp_block ?_)
   | ((with_reducible first | refine awp_label ?_ | refine awp_skip ?_ | refine awp_exit ?_); try simp only [thenA, inBlockA, noGotoA, if_true, Nat.reduceEqDiff, if_false, ↓reduceIte])
   | ((with_reducible first | refine awp_reg 6 hX [0, 2] ?_ | change postOf _ _ _ _ _); simp [-List.reduceReplicate, Nat.add_one_le_iff, -getElem?_pos, -getElem?_neg, nilM, hashM, ht, hl])
   | ((first | (with_reducible refine awp_ret ?_; try simp only [thenA, inBlockA, noGotoA]) | ((with_reducible refine Den.at_ (f := 90) ?_); refine (leaves17Nil_den _).det ?_) | (refine (p1 _).det ?_)); try simp [-List.reduceReplicate, Nat.add_one_le_iff, -getElem?_pos, -getElem?_neg, nilM, hashM, ht, hl])
   | (with_reducible refine awp_if_b rfl (fun hc => ?_) (fun hc => ?_) <;> (try simp [-getElem?_pos, -getElem?_neg] at hc) <;> (try (exfalso; omega)))
   | (with_reducible refine And.intro (by omega) ?_)
   | fail)
end Go.Av

set_option exponentiation.threshold 1000
set_option linter.unusedVariables false
set_option linter.unusedSimpArgs false
set_option maxRecDepth 100000
set_option maxHeartbeats 4000000
namespace Go.Av
open Go Go.Proofs Go.Proofs.YtpcnacknlgmmlaaGreat Go.RowKit
attribute [local simp] List.getElem?_cons_zero List.getElem?_cons_succ
/-! ### the document's wide numbers: bits; levels -/
def bitsC (x : Nat) : C := .sl ((bitsL x).map bC) 256 false
set_option maxHeartbeats 4000000 in
theorem cmp04_den (x y : Nat) (hx : x < 2 ^ 256) (hy : y < 2 ^ 256) : DenV Tryz.prog 91 [.c (bitsC x), .c (bitsC y)] (.c (iC (cmpN x y))) := by
  refine Den.frame rfl rfl ?_
  have gx : ∀ j, j < 256 → ((bitsL x).map bC)[j]? = some (bC (x.testBit j)) := fun j h => by rw [List.getElem?_map, bitsL_get x j h]; rfl
  have gy : ∀ j, j < 256 → ((bitsL y).map bC)[j]? = some (bC (y.testBit j)) := fun j h => by rw [List.getElem?_map, bitsL_get y j h]; rfl
  have lx : ((bitsL x).map bC).length = 256 := by simp [bitsL_len]
  have ly : ((bitsL y).map bC).length = 256 := by simp [bitsL_len]
  have hs := fun i => @bit_lt x y i
  have hs2 := fun i => @bit_lt y x i
  have he := fun i => @bit_eq x y i
  have h0 : x / 2 ^ (256 - 0) = y / 2 ^ (256 - 0) := by rw [Nat.div_eq_of_lt hx, Nat.div_eq_of_lt hy]
  have hend : x / 2 ^ 0 = y / 2 ^ 0 → x = y := fun h => by simpa using h
  unfold bitsC
  generalize (bitsL x).map bC = cx at *
  generalize (bitsL y).map bC = cy at *
  generalize x.testBit = fx at *
  generalize y.testBit = fy at *
  obtain ⟨Ef, hE⟩ : ∃ Ef : Nat → Prop, Ef = fun j => x / 2 ^ j = y / 2 ^ j := ⟨_, rfl⟩
  have hs' : ∀ i, Ef (i + 1) → fx i = false → fy i = true → x < y := by rw [hE]; exact hs
  have hs2' : ∀ i, Ef (i + 1) → fy i = false → fx i = true → y < x := by rw [hE]; exact fun i h => hs2 i h.symm
  have he' : ∀ i, Ef (i + 1) → fx i = fy i → Ef i := by rw [hE]; exact he
  have h0' : Ef (256 - 0) := by rw [hE]; exact h0
  have hend' : Ef 0 → x = y := by rw [hE]; exact hend
  clear hs hs2 he h0 hend hE hx hy
  have w255 : IntKind.i64.wrap 255 = 255 := rfl
  refine den_of Tryz.func91 rfl rfl (by simp [Tryz.ntmps91]) (fun X hX hO => ?_)
  rw [Tryz.ntmps91] at hX
  simp only [Tryz.results91]
  repeat' (first 
   | (with_reducible first | refine awp_scope ?_ | refine awp_seq ?_ | refine awp_block ?_)
   | ((with_reducible first | refine awp_label ?_ | refine awp_skip ?_ | refine awp_exit ?_ | refine hother _ _ rfl ?_); try simp only [thenA, inBlockA, noGotoA, if_true, Nat.reduceEqDiff, if_false, ↓reduceIte])
   | ((with_reducible first | refine awp_reg 26 hX [0, 1, 4, 5, 10, 21, 25] ?_ | refine awp_drw 26 hX [0, 1, 4, 5, 10, 21, 25] Tab.mixed (by kernel_rfl) ?_ | refine DEv_cut _ _ _ _ _ _ _ _ _ _ _ _ (by kernel_rfl) ?_ | change postOf _ _ _ _ _); simp [-List.reduceReplicate, Nat.add_one_le_iff, -getElem?_pos, -getElem?_neg, iC, w255])
   | ((first | (with_reducible refine awp_ret ?_; try simp only [thenA, inBlockA, noGotoA])); try simp [-List.reduceReplicate, Nat.add_one_le_iff, -getElem?_pos, -getElem?_neg, iC, w255])
   | (with_reducible refine awp_if_b rfl (fun hc => ?_) (fun hc => ?_) <;> (try simp [-getElem?_pos, -getElem?_neg] at hc) <;> (try (exfalso; omega)))
   | (with_reducible refine And.intro (by omega) ?_)
   | fail)
  refine awp_forU [0, 1, 5] (fun j (_u : Unit) => [(5, .c (iC (255 - (j : Int))))]) (fun j (_u : Unit) => []) (fun j (_u : Unit) => Ef (256 - j)) (256) (()) (h0') (by simp [-List.reduceReplicate, keep, iC]) (by simp [-List.reduceReplicate, iC]) ?_
  rintro j _u Q1 hi hH next hother
  conv => arg 5; arg 1; simp only [List.cons_append, List.nil_append, keep, get, Nat.reduceEqDiff, if_true, if_false, ↓reduceIte]
  by_cases hlt : j < 256
  · obtain ⟨i, hi'⟩ : ∃ i, 256 - j = i + 1 := ⟨255 - j, by omega⟩
    have e1 : (255 : Int) - (j : Int) = (i : Int) := by omega
    have e2 : 256 - (j + 1) = i := by omega
    have e3 : (255 : Int) - ((j : Int) + 1) = (i : Int) - 1 := by omega
    have hin : i < 256 := by omega
    have wi := wrap_in ((i : Int) - 1) (by omega)
    have hin2 : (i : Int) < 256 := by omega
    rw [hi'] at hH
    rw [e2] at next
    have g1 := gx i hin
    have g2 := gy i hin
    have s1 := hs' i hH
    have s2 := hs2' i hH
    have s3 := he' i hH
    cases c1 : fx i <;> cases c2 : fy i
    · rw [c1] at g1
      rw [c2] at g2
      have nx := s3 (by rw [c1, c2])
      repeat' (first 
       | (with_reducible first | refine awp_scope ?_ | refine awp_seq ?_ | refine awp_block ?_)
       | ((with_reducible first | refine awp_label ?_ | refine awp_skip ?_ | refine awp_exit ?_ | refine hother _ _ rfl ?_); try simp only [thenA, inBlockA, noGotoA, if_true, Nat.reduceEqDiff, if_false, ↓reduceIte])
       | ((with_reducible first | refine awp_reg 26 hX [0, 1, 4, 5, 10, 21, 25] ?_ | refine awp_drw 26 hX [0, 1, 4, 5, 10, 21, 25] Tab.mixed (by kernel_rfl) ?_ | refine DEv_cut _ _ _ _ _ _ _ _ _ _ _ _ (by kernel_rfl) ?_ | change postOf _ _ _ _ _); simp [-List.reduceReplicate, Nat.add_one_le_iff, -getElem?_pos, -getElem?_neg, iC, bC, e1, hin, hin2, g1, g2, wi])
       | ((first | (with_reducible refine awp_ret ?_; try simp only [thenA, inBlockA, noGotoA])); try simp [-List.reduceReplicate, Nat.add_one_le_iff, -getElem?_pos, -getElem?_neg, iC, bC, e1, hin, hin2, g1, g2, wi])
       | (with_reducible refine awp_if_b rfl (fun hc => ?_) (fun hc => ?_) <;> (try simp [-getElem?_pos, -getElem?_neg] at hc) <;> (try (exfalso; omega)))
       | (with_reducible refine And.intro (by omega) ?_)
       | fail)
      refine next _ _ (()) (by omega) (by first | trivial | omega | assumption) (by simp [-List.reduceReplicate, keep, iC, e3]) (by simp [-List.reduceReplicate, iC, e3])
    · rw [c1] at g1
      rw [c2] at g2
      have hcm := (cmpN_lt (s1 c1 c2)).symm
      repeat' (first 
       | (with_reducible first | refine awp_scope ?_ | refine awp_seq ?_ | refine awp_block ?_)
       | ((with_reducible first | refine awp_label ?_ | refine awp_skip ?_ | refine awp_exit ?_ | refine hother _ _ rfl ?_); try simp only [thenA, inBlockA, noGotoA, if_true, Nat.reduceEqDiff, if_false, ↓reduceIte])
       | ((with_reducible first | refine awp_reg 26 hX [0, 1, 4, 5, 10, 21, 25] ?_ | refine awp_drw 26 hX [0, 1, 4, 5, 10, 21, 25] Tab.mixed (by kernel_rfl) ?_ | refine DEv_cut _ _ _ _ _ _ _ _ _ _ _ _ (by kernel_rfl) ?_ | change postOf _ _ _ _ _); simp [-List.reduceReplicate, Nat.add_one_le_iff, -getElem?_pos, -getElem?_neg, iC, bC, e1, hin, hin2, g1, g2, wi])
       | ((first | (with_reducible refine awp_ret ?_; try simp only [thenA, inBlockA, noGotoA])); try simp [-List.reduceReplicate, Nat.add_one_le_iff, -getElem?_pos, -getElem?_neg, iC, bC, e1, hin, hin2, g1, g2, wi])
       | (with_reducible refine awp_if_b rfl (fun hc => ?_) (fun hc => ?_) <;> (try simp [-getElem?_pos, -getElem?_neg] at hc) <;> (try (exfalso; omega)))
       | (with_reducible refine And.intro (by omega) ?_)
       | fail)
      exact hcm
    · rw [c1] at g1
      rw [c2] at g2
      have hcm := (cmpN_gt (s2 c2 c1)).symm
      repeat' (first 
       | (with_reducible first | refine awp_scope ?_ | refine awp_seq ?_ | refine awp_block ?_)
       | ((with_reducible first | refine awp_label ?_ | refine awp_skip ?_ | refine awp_exit ?_ | refine hother _ _ rfl ?_); try simp only [thenA, inBlockA, noGotoA, if_true, Nat.reduceEqDiff, if_false, ↓reduceIte])
       | ((with_reducible first | refine awp_reg 26 hX [0, 1, 4, 5, 10, 21, 25] ?_ | refine awp_drw 26 hX [0, 1, 4, 5, 10, 21, 25] Tab.mixed (by kernel_rfl) ?_ | refine DEv_cut _ _ _ _ _ _ _ _ _ _ _ _ (by kernel_rfl) ?_ | change postOf _ _ _ _ _); simp [-List.reduceReplicate, Nat.add_one_le_iff, -getElem?_pos, -getElem?_neg, iC, bC, e1, hin, hin2, g1, g2, wi])
       | ((first | (with_reducible refine awp_ret ?_; try simp only [thenA, inBlockA, noGotoA])); try simp [-List.reduceReplicate, Nat.add_one_le_iff, -getElem?_pos, -getElem?_neg, iC, bC, e1, hin, hin2, g1, g2, wi])
       | (with_reducible refine awp_if_b rfl (fun hc => ?_) (fun hc => ?_) <;> (try simp [-getElem?_pos, -getElem?_neg] at hc) <;> (try (exfalso; omega)))
       | (with_reducible refine And.intro (by omega) ?_)
       | fail)
      exact hcm
    · rw [c1] at g1
      rw [c2] at g2
      have nx := s3 (by rw [c1, c2])
      repeat' (first 
       | (with_reducible first | refine awp_scope ?_ | refine awp_seq ?_ | refine awp_block ?_)
       | ((with_reducible first | refine awp_label ?_ | refine awp_skip ?_ | refine awp_exit ?_ | refine hother _ _ rfl ?_); try simp only [thenA, inBlockA, noGotoA, if_true, Nat.reduceEqDiff, if_false, ↓reduceIte])
       | ((with_reducible first | refine awp_reg 26 hX [0, 1, 4, 5, 10, 21, 25] ?_ | refine awp_drw 26 hX [0, 1, 4, 5, 10, 21, 25] Tab.mixed (by kernel_rfl) ?_ | refine DEv_cut _ _ _ _ _ _ _ _ _ _ _ _ (by kernel_rfl) ?_ | change postOf _ _ _ _ _); simp [-List.reduceReplicate, Nat.add_one_le_iff, -getElem?_pos, -getElem?_neg, iC, bC, e1, hin, hin2, g1, g2, wi])
       | ((first | (with_reducible refine awp_ret ?_; try simp only [thenA, inBlockA, noGotoA])); try simp [-List.reduceReplicate, Nat.add_one_le_iff, -getElem?_pos, -getElem?_neg, iC, bC, e1, hin, hin2, g1, g2, wi])
       | (with_reducible refine awp_if_b rfl (fun hc => ?_) (fun hc => ?_) <;> (try simp [-getElem?_pos, -getElem?_neg] at hc) <;> (try (exfalso; omega)))
       | (with_reducible refine And.intro (by omega) ?_)
       | fail)
      refine next _ _ (()) (by omega) (by first | trivial | omega | assumption) (by simp [-List.reduceReplicate, keep, iC, e3]) (by simp [-List.reduceReplicate, iC, e3])
  · have hj : j = 256 := by omega
    subst hj
    have hxy := hend' hH
    subst hxy
    have hcm := (cmpN_eq x).symm
    repeat' (first 
     | (with_reducible first | refine awp_scope ?_ | refine awp_seq ?_ | refine awp_block ?_)
     | ((with_reducible first | refine awp_label ?_ | refine awp_skip ?_ | refine awp_exit ?_ | refine hother _ _ rfl ?_); try simp only [thenA, inBlockA, noGotoA, if_true, Nat.reduceEqDiff, if_false, ↓reduceIte])
     | ((with_reducible first | refine awp_reg 26 hX [0, 1, 4, 5, 10, 21, 25] ?_ | refine awp_drw 26 hX [0, 1, 4, 5, 10, 21, 25] Tab.mixed (by kernel_rfl) ?_ | refine DEv_cut _ _ _ _ _ _ _ _ _ _ _ _ (by kernel_rfl) ?_ | change postOf _ _ _ _ _); simp [-List.reduceReplicate, Nat.add_one_le_iff, -getElem?_pos, -getElem?_neg, iC, bC])
     | ((first | (with_reducible refine awp_ret ?_; try simp only [thenA, inBlockA, noGotoA])); try simp [-List.reduceReplicate, Nat.add_one_le_iff, -getElem?_pos, -getElem?_neg, iC, bC])
     | (with_reducible refine awp_if_b rfl (fun hc => ?_) (fun hc => ?_) <;> (try simp [-getElem?_pos, -getElem?_neg] at hc) <;> (try (exfalso; omega)))
     | (with_reducible refine And.intro (by omega) ?_)
     | fail)
    exact hcm
set_option maxHeartbeats 4000000 in
theorem of04_den (l : List UInt8) (hl : l.length = 32) : DenV Tryz.prog 92 [hashM l] (.c (bitsC (hv l))) := by
  refine Den.frame (by simp [ltBs, ltB, lt_hash]) rfl ?_
  have hb := fun i k b => hv_bit l i k b
  have lB : ((bitsL (hv l)).map bC).length = 256 := by simp [bitsL_len]
  have gB : ∀ j, j < 256 → ((bitsL (hv l)).map bC)[j]? = some (bC ((hv l).testBit j)) := fun j h => by rw [List.getElem?_map, bitsL_get _ j h]; rfl
  obtain ⟨D, D0, DN, DL, DS⟩ : ∃ D : Nat → List C, D 0 = [] ∧ D 256 = (bitsL (hv l)).map bC ∧ (∀ i, i ≤ 256 → (D i).length = i) ∧ ∀ i, i < 256 → D i ++ [bC ((hv l).testBit i)] = D (i + 1) :=
    ⟨fun i => ((bitsL (hv l)).map bC).take i, by simp, by simp only; rw [List.take_of_length_le (by omega)], fun i h => by simp only [List.length_take]; omega, fun i h => by simp only; rw [List.take_add_one, gB i h]; rfl⟩
  unfold bitsC
  rw [← DN]
  clear DN lB gB
  generalize (hv l).testBit = fx at *
  have lb : (l.map bC8).length = 32 := by simp [hl]
  have gl : ∀ (i : Nat) b, l[i]? = some b → (l.map bC8)[i]? = some (bC8 b) := fun i b h => by rw [List.getElem?_map, h]; rfl
  unfold hashM
  refine den_of Tryz.func92 rfl rfl (by simp [Tryz.ntmps92]) (fun X hX hO => ?_)
  rw [Tryz.ntmps92] at hX
  simp only [Tryz.results92]
  repeat' (first 
   | (with_reducible first | refine awp_scope ?_ | refine awp_seq ?_ | refine awp_block ?_)
   | ((with_reducible first | refine awp_label ?_ | refine awp_skip ?_ | refine awp_exit ?_ | refine hother _ _ rfl ?_ | refine hother2 _ _ rfl ?_); try simp only [thenA, inBlockA, noGotoA, if_true, Nat.reduceEqDiff, if_false, ↓reduceIte])
   | ((with_reducible first | refine awp_reg 28 hX [1, 2, 3, 4, 5, 6, 8, 16] ?_ | change postOf _ _ _ _ _); simp [-List.reduceReplicate, Nat.add_one_le_iff, -getElem?_pos, -getElem?_neg, iC, lb])
   | ((first | (with_reducible refine awp_ret ?_; try simp only [thenA, inBlockA, noGotoA])); try simp [-List.reduceReplicate, Nat.add_one_le_iff, -getElem?_pos, -getElem?_neg, iC, lb])
   | (with_reducible refine awp_if_b rfl (fun hc => ?_) (fun hc => ?_) <;> (try simp [-getElem?_pos, -getElem?_neg] at hc) <;> (try (exfalso; omega)))
   | (with_reducible refine And.intro (by omega) ?_)
   | fail)
  refine awp_nil 3 4 1 (by simp) ?_
  simp
  refine awp_forU [1, 3, 4] (fun j (g : Nat × Bool) => [(3, .ms 1 g.1 0 (8 * j)), (4, .c (iC (31 - (j : Int))))]) (fun j (g : Nat × Bool) => [⟨24, 1, false, 0, up (l.map bC8), none⟩, ⟨4, 1, g.2, g.1, up (D (8 * j)), none⟩]) (fun j (g : Nat × Bool) => True) (32) ((0, true)) (by first | trivial | (simp; done) | omega | (intros; simp at *; done)) (by simp [-List.reduceReplicate, keep, iC, D0]) (by simp [-List.reduceReplicate, iC, D0]) ?_
  rintro j g Q1 hi hH next hother
  conv => arg 5; arg 1; simp only [List.cons_append, List.nil_append, keep, get, Nat.reduceEqDiff, if_true, if_false, ↓reduceIte]
  by_cases hlt : j < 32
  · obtain ⟨i, hi'⟩ : ∃ i, 31 - j = i := ⟨_, rfl⟩
    have e1 : (31 : Int) - (j : Int) = (i : Int) := by omega
    have e3 : (31 : Int) - ((j : Int) + 1) = (i : Int) - 1 := by omega
    have hi32 : i < 32 := by omega
    have hi2 : (i : Int) < 32 := by omega
    have wi := wrap_in ((i : Int) - 1) (by omega)
    obtain ⟨b, hbi⟩ : ∃ b, l[i]? = some b := ⟨_, List.getElem?_eq_getElem (by omega)⟩
    have hgb := gl i b hbi
    have hbits := fun k (hk : k < 8) => hb i k b hbi hl hi32 hk
    have hj31 : 31 - i = j := by omega
    rw [hj31] at hbits
    have hb256 := b.toNat_lt
    have w1 := wrap_in (b.toNat : Int) (by omega)
    obtain ⟨XK, hX0, hX1, hXl⟩ : ∃ XK : Nat → Nat, XK 0 = b.toNat ∧ (∀ k, XK (k + 1) = XK k / 2) ∧ ∀ k, XK k = b.toNat / 2 ^ k :=
      ⟨fun k => b.toNat / 2 ^ k, by simp, fun k => by simp only; rw [Nat.div_div_eq_div_mul, Nat.pow_succ], fun k => rfl⟩
    have hXb : ∀ k, XK k < 256 := fun k => by rw [hXl]; exact Nat.lt_of_le_of_lt (Nat.div_le_self _ _) hb256
    simp only [← hXl] at hbits
    unfold bC8 at hgb
    repeat' (first 
     | (with_reducible first | refine awp_scope ?_ | refine awp_seq ?_ | refine awp_block ?_)
     | ((with_reducible first | refine awp_label ?_ | refine awp_skip ?_ | refine awp_exit ?_ | refine hother _ _ rfl ?_ | refine hother2 _ _ rfl ?_); try simp only [thenA, inBlockA, noGotoA, if_true, Nat.reduceEqDiff, if_false, ↓reduceIte])
     | ((with_reducible first | refine awp_reg 28 hX [1, 2, 3, 4, 5, 6, 8, 16] ?_ | change postOf _ _ _ _ _); simp [-List.reduceReplicate, Nat.add_one_le_iff, -getElem?_pos, -getElem?_neg, iC, bC, bC8, e1, hi32, hi2, hgb, hbi, lb, w1])
     | ((first | (with_reducible refine awp_ret ?_; try simp only [thenA, inBlockA, noGotoA])); try simp [-List.reduceReplicate, Nat.add_one_le_iff, -getElem?_pos, -getElem?_neg, iC, bC, bC8, e1, hi32, hi2, hgb, hbi, lb, w1])
     | (with_reducible refine awp_if_b rfl (fun hc => ?_) (fun hc => ?_) <;> (try simp [-getElem?_pos, -getElem?_neg] at hc) <;> (try (exfalso; omega)))
     | (with_reducible refine And.intro (by omega) ?_)
     | fail)
    have next1 := next; have hother2 := hother; clear next hother
    rw [← hX0]
    refine awp_forU [1, 3, 4, 5, 6] (fun k (q : Nat × Bool) => [(3, .ms 1 q.1 0 (8 * j + k)), (5, .c (iC (XK k))), (6, .c (iC k))]) (fun k (q : Nat × Bool) => [⟨24, 1, false, 0, up (l.map bC8), none⟩, ⟨4, 1, q.2, q.1, up (D (8 * j + k)), none⟩]) (fun k (q : Nat × Bool) => True) (8) (g) (by first | trivial | (simp; done) | omega | (intros; simp at *; done)) (by simp [-List.reduceReplicate, keep, iC]) (by simp [-List.reduceReplicate, iC]) ?_
    rintro k q Q1 hi hH next hother
    conv => arg 5; arg 1; simp only [List.cons_append, List.nil_append, keep, get, Nat.reduceEqDiff, if_true, if_false, ↓reduceIte]
    have hwk := wrap_in ((k : Int) + 1) (by omega)
    by_cases hk8 : k < 8
    · have hk2 : (k : Int) < 8 := by omega
      have ds := DS (8 * j + k) (by omega)
      have dl := DL (8 * j + k) (by omega)
      rw [hbits k hk8] at ds
      have hxk := hXb k
      have s1 := hX1 k
      have m1 : ((XK k : Int)).tmod 2 = ((XK k % 2 : Nat) : Int) := rfl
      have m2 : ((XK k : Int)).tdiv 2 = ((XK (k + 1) : Nat) : Int) := by rw [s1]; rfl
      have w2 := wrap_in ((XK (k + 1) : Nat) : Int) (by have := hXb (k + 1); omega)
      have m3 : ∀ z : Nat, (decide (((z : Int)) = 1)) = decide (z = 1) := fun z => decide_eq_decide.2 (by omega)
      generalize XK k % 2 = zz at *
      unfold bC at ds
      repeat' (first 
       | (with_reducible first | refine awp_scope ?_ | refine awp_seq ?_ | refine awp_block ?_)
       | ((with_reducible first | refine awp_label ?_ | refine awp_skip ?_ | refine awp_exit ?_ | refine hother _ _ rfl ?_ | refine hother2 _ _ rfl ?_); try simp only [thenA, inBlockA, noGotoA, if_true, Nat.reduceEqDiff, if_false, ↓reduceIte])
       | ((with_reducible first | refine awp_reg 28 hX [1, 2, 3, 4, 5, 6, 8, 16] ?_ | change postOf _ _ _ _ _); simp [-List.reduceReplicate, Nat.add_one_le_iff, -getElem?_pos, -getElem?_neg, iC, bC, hk2, m1, m2, m3, w2, dl, ds, roomB, hwk])
       | ((first | (with_reducible refine awp_ret ?_; try simp only [thenA, inBlockA, noGotoA])); try simp [-List.reduceReplicate, Nat.add_one_le_iff, -getElem?_pos, -getElem?_neg, iC, bC, hk2, m1, m2, m3, w2, dl, ds, roomB, hwk])
       | (with_reducible refine awp_if_b rfl (fun hc => ?_) (fun hc => ?_) <;> (try simp [-getElem?_pos, -getElem?_neg] at hc) <;> (try (exfalso; omega)))
       | (with_reducible refine And.intro (by omega) ?_)
       | fail)
      refine next _ _ ((q.1 + 1, false)) (by omega) (by first | trivial | omega | assumption) (by simp [-List.reduceReplicate, keep, iC, ds, Nat.add_assoc]) (by simp [-List.reduceReplicate, iC, ds, Nat.add_assoc])
    · have hk3 : k = 8 := by omega
      subst hk3
      have e8 : 8 * (j + 1) = 8 * j + 8 := by omega
      repeat' (first 
       | (with_reducible first | refine awp_scope ?_ | refine awp_seq ?_ | refine awp_block ?_)
       | ((with_reducible first | refine awp_label ?_ | refine awp_skip ?_ | refine awp_exit ?_ | refine hother _ _ rfl ?_ | refine hother2 _ _ rfl ?_); try simp only [thenA, inBlockA, noGotoA, if_true, Nat.reduceEqDiff, if_false, ↓reduceIte])
       | ((with_reducible first | refine awp_reg 28 hX [1, 2, 3, 4, 5, 6, 8, 16] ?_ | change postOf _ _ _ _ _); simp [-List.reduceReplicate, Nat.add_one_le_iff, -getElem?_pos, -getElem?_neg, iC, bC, e1, wi])
       | ((first | (with_reducible refine awp_ret ?_; try simp only [thenA, inBlockA, noGotoA])); try simp [-List.reduceReplicate, Nat.add_one_le_iff, -getElem?_pos, -getElem?_neg, iC, bC, e1, wi])
       | (with_reducible refine awp_if_b rfl (fun hc => ?_) (fun hc => ?_) <;> (try simp [-getElem?_pos, -getElem?_neg] at hc) <;> (try (exfalso; omega)))
       | (with_reducible refine And.intro (by omega) ?_)
       | fail)
      refine next1 _ _ (q) (by omega) (by first | trivial | omega | assumption) (by simp [-List.reduceReplicate, keep, iC, e8, e3]) (by simp [-List.reduceReplicate, iC, e8, e3])
  · have hj : j = 32 := by omega
    subst hj
    have hexit := hother; clear hother next
    repeat' (first 
     | (with_reducible first | refine awp_scope ?_ | refine awp_seq ?_ | refine awp_block ?_)
     | ((with_reducible first | refine awp_label ?_ | refine awp_skip ?_ | refine awp_exit ?_ | refine hother _ _ rfl ?_ | refine hother2 _ _ rfl ?_); try simp only [thenA, inBlockA, noGotoA, if_true, Nat.reduceEqDiff, if_false, ↓reduceIte])
     | ((with_reducible first | refine awp_reg 28 hX [1, 2, 3, 4, 5, 6, 8, 16] ?_ | change postOf _ _ _ _ _); simp [-List.reduceReplicate, Nat.add_one_le_iff, -getElem?_pos, -getElem?_neg, iC, bC])
     | ((first | (with_reducible refine awp_ret ?_; try simp only [thenA, inBlockA, noGotoA])); try simp [-List.reduceReplicate, Nat.add_one_le_iff, -getElem?_pos, -getElem?_neg, iC, bC])
     | (with_reducible refine awp_if_b rfl (fun hc => ?_) (fun hc => ?_) <;> (try simp [-getElem?_pos, -getElem?_neg] at hc) <;> (try (exfalso; omega)))
     | (with_reducible refine And.intro (by omega) ?_)
     | fail)
    refine hexit _ _ rfl ?_
    simp only [inBlockA, thenA, ↓reduceIte]
    refine awp_frz2 3 [] [⟨24, 1, false, 0, up (l.map bC8), none⟩] [] _ (D 256) _ hO rfl rfl rfl (by simp [ltB]) (by simp [ltB, up]) ?_
    repeat' (first 
     | (with_reducible first | refine awp_scope ?_ | refine awp_seq ?_ | refine awp_block ?_)
     | ((with_reducible first | refine awp_label ?_ | refine awp_skip ?_ | refine awp_exit ?_ | refine hother _ _ rfl ?_ | refine hother2 _ _ rfl ?_); try simp only [thenA, inBlockA, noGotoA, if_true, Nat.reduceEqDiff, if_false, ↓reduceIte])
     | ((with_reducible first | refine awp_reg 28 hX [1, 2, 3, 4, 5, 6, 8, 16] ?_ | change postOf _ _ _ _ _); simp [-List.reduceReplicate, Nat.add_one_le_iff, -getElem?_pos, -getElem?_neg, iC, bC])
     | ((first | (with_reducible refine awp_ret ?_; try simp only [thenA, inBlockA, noGotoA])); try simp [-List.reduceReplicate, Nat.add_one_le_iff, -getElem?_pos, -getElem?_neg, iC, bC])
     | (with_reducible refine awp_if_b rfl (fun hc => ?_) (fun hc => ?_) <;> (try simp [-getElem?_pos, -getElem?_neg] at hc) <;> (try (exfalso; omega)))
     | (with_reducible refine And.intro (by omega) ?_)
     | fail)
end Go.Av

set_option exponentiation.threshold 1000
set_option linter.unusedVariables false
set_option linter.unusedSimpArgs false
set_option maxRecDepth 100000
set_option maxHeartbeats 4000000
namespace Go.Av
open Go Go.Proofs Go.Proofs.YtpcnacknlgmmlaaGreat Go.RowKit
attribute [local simp] List.getElem?_cons_zero List.getElem?_cons_succ
/-! ### configurations: Check -/
attribute [local simp] Tryz.underlying9 Tryz.underlying3 Tryz.underlying4 Tryz.underlying30 Tryz.underlying24 Tryz.underlying27 Tryz.underlying29
structure CF where
  g : HD
  t : H32
  m : Int
  k : Int
  a : Int
  b : Int
  mb : Int
  mp : Int
def cfC (c : CF) : List C := hdC c.g ++ (c.t.1.map bC8 ++ [iC c.m, iC c.k, iC c.a, iC c.b, iC c.mb, iC c.mp])
def cfM (c : CF) : M := .agg (up (cfC c))
def okN (x t : Nat) : Bool := decide (cmpN x t ≤ 0)
theorem hv_lt256 (l : List UInt8) (hl : l.length = 32) : hv l < 2 ^ 256 := by
  exact Nat.lt_of_lt_of_le (hv_lt 32 l hl) (by decide)
theorem ok_den (x t : List UInt8) (hx : x.length = 32) (ht : t.length = 32) : DenV Tryz.prog 45 [hashM x, hashM t] (.c (bC (okN (hv x) (hv t)))) := by
  refine Den.frame (by simp [hashM, ltB, ltBs]) rfl ?_
  have p1 := wof_den x hx
  have p2 := wof_den t ht
  have p3 := wcmp_den (hv x) (hv t) (by simpa using hv_lt256 x hx) (by simpa using hv_lt256 t ht)
  have hk : okN (hv x) (hv t) = decide (cmpN (hv x) (hv t) ≤ 0) := rfl
  have h1 := hash_take x hx
  have h2 := hash_take t ht
  generalize okN (hv x) (hv t) = r at *
  generalize cmpN (hv x) (hv t) = k at *
  generalize wideM (hv x) = a at *
  generalize wideM (hv t) = b at *
  refine den_of Tryz.func45 rfl rfl (by simp [Tryz.ntmps45]) (fun X hX hO => ?_)
  rw [Tryz.ntmps45] at hX
  simp only [Tryz.results45]
  repeat' (first 
   | (with_reducible first | refine awp_scope ?_ | refine awp_seq ?_ | refine awp_block ?_)
   | ((with_reducible first | refine awp_label ?_ | refine awp_skip ?_ | refine awp_exit ?_); try simp only [thenA, inBlockA, noGotoA, if_true, Nat.reduceEqDiff, if_false, ↓reduceIte])
   | ((with_reducible first | refine awp_reg 11 hX [2, 3, 4] ?_ | refine awp_drw 11 hX [2, 3, 4] Tab.mixed (by kernel_rfl) ?_ | refine DEv_cut _ _ _ _ _ _ _ _ _ _ _ _ (by kernel_rfl) ?_ | change postOf _ _ _ _ _); simp [-List.reduceReplicate, Nat.add_one_le_iff, -getElem?_pos, -getElem?_neg, iC, bC, hashM, h1, h2, hx, ht, hk])
   | ((first | (with_reducible refine awp_ret ?_; try simp only [thenA, inBlockA, noGotoA]) | (refine (p1 _).det ?_) | (refine ⟨_, _, p1 _, fun _ => rfl, ?_⟩) | (refine (p2 _).det ?_) | (refine ⟨_, _, p2 _, fun _ => rfl, ?_⟩) | (refine (p3 _).det ?_) | (refine ⟨_, _, p3 _, fun _ => rfl, ?_⟩)); try simp [-List.reduceReplicate, Nat.add_one_le_iff, -getElem?_pos, -getElem?_neg, iC, bC, hashM, h1, h2, hx, ht, hk])
   | (with_reducible refine awp_if_b rfl (fun hc => ?_) (fun hc => ?_) <;> (try simp [-getElem?_pos, -getElem?_neg] at hc) <;> (try (exfalso; omega)))
   | (with_reducible refine And.intro (by omega) ?_)
   | fail)
theorem ok17_den (x t : List UInt8) (hx : x.length = 32) (ht : t.length = 32) : DenV Tryz.prog 49 [hashM x, hashM t] (.c (bC (okN (hv x) (hv t)))) := by
  refine Den.frame (by simp [hashM, ltB, ltBs]) rfl ?_
  have p1 := of04_den x hx
  have p2 := of04_den t ht
  have p3 := cmp04_den (hv x) (hv t) (hv_lt256 x hx) (hv_lt256 t ht)
  have hk : okN (hv x) (hv t) = decide (cmpN (hv x) (hv t) ≤ 0) := rfl
  have h1 := hash_take x hx
  have h2 := hash_take t ht
  generalize okN (hv x) (hv t) = r at *
  generalize cmpN (hv x) (hv t) = k at *
  generalize bitsC (hv x) = a at *
  generalize bitsC (hv t) = b at *
  refine den_of Tryz.func49 rfl rfl (by simp [Tryz.ntmps49]) (fun X hX hO => ?_)
  rw [Tryz.ntmps49] at hX
  simp only [Tryz.results49]
  repeat' (first 
   | (with_reducible first | refine awp_scope ?_ | refine awp_seq ?_ | refine awp_block ?_)
   | ((with_reducible first | refine awp_label ?_ | refine awp_skip ?_ | refine awp_exit ?_); try simp only [thenA, inBlockA, noGotoA, if_true, Nat.reduceEqDiff, if_false, ↓reduceIte])
   | ((with_reducible first | refine awp_reg 11 hX [2, 3, 4] ?_ | refine awp_drw 11 hX [2, 3, 4] Tab.mixed (by kernel_rfl) ?_ | refine DEv_cut _ _ _ _ _ _ _ _ _ _ _ _ (by kernel_rfl) ?_ | change postOf _ _ _ _ _); simp [-List.reduceReplicate, Nat.add_one_le_iff, -getElem?_pos, -getElem?_neg, iC, bC, hashM, h1, h2, hx, ht, hk])
   | ((first | (with_reducible refine awp_ret ?_; try simp only [thenA, inBlockA, noGotoA]) | (refine (p1 _).det ?_) | (refine ⟨_, _, p1 _, fun _ => rfl, ?_⟩) | (refine (p2 _).det ?_) | (refine ⟨_, _, p2 _, fun _ => rfl, ?_⟩) | (refine (p3 _).det ?_) | (refine ⟨_, _, p3 _, fun _ => rfl, ?_⟩)); try simp [-List.reduceReplicate, Nat.add_one_le_iff, -getElem?_pos, -getElem?_neg, iC, bC, hashM, h1, h2, hx, ht, hk])
   | (with_reducible refine awp_if_b rfl (fun hc => ?_) (fun hc => ?_) <;> (try simp [-getElem?_pos, -getElem?_neg] at hc) <;> (try (exfalso; omega)))
   | (with_reducible refine And.intro (by omega) ?_)
   | fail)
def mayR (a b : Int) : Bool := decide (0 < a) && decide (a < b) && decide (b ≤ 65536)
def mayP (m k a b : Int) : Bool := decide (1 ≤ m) && decide (m ≤ 1024) && decide (1 ≤ k) && decide (k ≤ 1024) && mayR a b
theorem mayR_den (a b : Int) : DenV Tryz.prog 88 [.c (iC a), .c (iC b)] (.c (bC (mayR a b))) := by
  refine Den.frame rfl rfl ?_
  have hr : mayR a b = (decide (0 < a) && decide (a < b) && decide (b ≤ 65536)) := rfl
  generalize mayR a b = r at *
  refine den_of Tryz.func88 rfl rfl (by simp [Tryz.ntmps88]) (fun X hX hO => ?_)
  rw [Tryz.ntmps88] at hX
  simp only [Tryz.results88]
  repeat' (first 
   | (with_reducible first | refine awp_scope ?_ | refine awp_seq ?_ | refine awp_block ?_)
   | ((with_reducible first | refine awp_label ?_ | refine awp_skip ?_ | refine awp_exit ?_); try simp only [thenA, inBlockA, noGotoA, if_true, Nat.reduceEqDiff, if_false, ↓reduceIte])
   | ((with_reducible first | refine awp_reg 16 hX [0, 1, 4] ?_ | change postOf _ _ _ _ _); simp [-List.reduceReplicate, Nat.add_one_le_iff, -getElem?_pos, -getElem?_neg, iC, bC])
   | ((first | (with_reducible refine awp_ret ?_; try simp only [thenA, inBlockA, noGotoA])); try simp [-List.reduceReplicate, Nat.add_one_le_iff, -getElem?_pos, -getElem?_neg, iC, bC])
   | (with_reducible refine awp_if_b rfl (fun hc => ?_) (fun hc => ?_) <;> (try simp [-getElem?_pos, -getElem?_neg] at hc) <;> (try (exfalso; omega)))
   | ((with_reducible first | refine GuardK_b (fun hc => ?_) (fun hc => ?_)) <;> (try simp only [Bool.not_eq_true', Bool.not_eq_false', decide_eq_true_eq, decide_eq_false_iff_not] at hc) <;> (first | (exfalso; omega) | skip) <;> simp [-List.reduceReplicate, Nat.add_one_le_iff, -getElem?_pos, -getElem?_neg, iC, bC, hc])
   | (with_reducible refine And.intro (by omega) ?_)
   | fail)
  all_goals simp_all
theorem may06_den (a b : Int) : DenV Tryz.prog 95 [.c (iC a), .c (iC b)] (.c (bC (mayR a b))) := by
  refine Den.frame rfl rfl ?_
  have hr : mayR a b = (decide (0 < a) && decide (a < b) && decide (b ≤ 65536)) := rfl
  generalize mayR a b = r at *
  refine den_of Tryz.func95 rfl rfl (by simp [Tryz.ntmps95]) (fun X hX hO => ?_)
  rw [Tryz.ntmps95] at hX
  simp only [Tryz.results95]
  repeat' (first 
   | (with_reducible first | refine awp_scope ?_ | refine awp_seq ?_ | refine awp_block ?_)
   | ((with_reducible first | refine awp_label ?_ | refine awp_skip ?_ | refine awp_exit ?_); try simp only [thenA, inBlockA, noGotoA, if_true, Nat.reduceEqDiff, if_false, ↓reduceIte])
   | ((with_reducible first | refine awp_reg 16 hX [0, 1, 4] ?_ | change postOf _ _ _ _ _); simp [-List.reduceReplicate, Nat.add_one_le_iff, -getElem?_pos, -getElem?_neg, iC, bC])
   | ((first | (with_reducible refine awp_ret ?_; try simp only [thenA, inBlockA, noGotoA])); try simp [-List.reduceReplicate, Nat.add_one_le_iff, -getElem?_pos, -getElem?_neg, iC, bC])
   | (with_reducible refine awp_if_b rfl (fun hc => ?_) (fun hc => ?_) <;> (try simp [-getElem?_pos, -getElem?_neg] at hc) <;> (try (exfalso; omega)))
   | ((with_reducible first | refine GuardK_b (fun hc => ?_) (fun hc => ?_)) <;> (try simp only [Bool.not_eq_true', Bool.not_eq_false', decide_eq_true_eq, decide_eq_false_iff_not] at hc) <;> (first | (exfalso; omega) | skip) <;> simp [-List.reduceReplicate, Nat.add_one_le_iff, -getElem?_pos, -getElem?_neg, iC, bC, hc])
   | (with_reducible refine And.intro (by omega) ?_)
   | fail)
  all_goals simp_all
theorem mayP_den (m k a b : Int) : DenV Tryz.prog 47 [.c (iC m), .c (iC k), .c (iC a), .c (iC b)] (.c (bC (mayP m k a b))) := by
  refine Den.frame rfl rfl ?_
  have p1 := mayR_den a b
  have hr : mayP m k a b = (decide (1 ≤ m) && decide (m ≤ 1024) && decide (1 ≤ k) && decide (k ≤ 1024) && mayR a b) := rfl
  generalize mayP m k a b = r at *
  generalize mayR a b = r2 at *
  refine den_of Tryz.func47 rfl rfl (by simp [Tryz.ntmps47]) (fun X hX hO => ?_)
  rw [Tryz.ntmps47] at hX
  simp only [Tryz.results47]
  repeat' (first 
   | (with_reducible first | refine awp_scope ?_ | refine awp_seq ?_ | refine awp_block ?_)
   | ((with_reducible first | refine awp_label ?_ | refine awp_skip ?_ | refine awp_exit ?_); try simp only [thenA, inBlockA, noGotoA, if_true, Nat.reduceEqDiff, if_false, ↓reduceIte])
   | ((with_reducible first | refine awp_reg 28 hX [0, 1, 2, 3, 8] ?_ | change postOf _ _ _ _ _); simp [-List.reduceReplicate, Nat.add_one_le_iff, -getElem?_pos, -getElem?_neg, iC, bC])
   | ((first | (with_reducible refine awp_ret ?_; try simp only [thenA, inBlockA, noGotoA]) | (refine (p1 _).det ?_)); try simp [-List.reduceReplicate, Nat.add_one_le_iff, -getElem?_pos, -getElem?_neg, iC, bC])
   | (with_reducible refine awp_if_b rfl (fun hc => ?_) (fun hc => ?_) <;> (try simp [-getElem?_pos, -getElem?_neg] at hc) <;> (try (exfalso; omega)))
   | ((with_reducible first | refine GuardK_b (fun hc => ?_) (fun hc => ?_)) <;> (try simp only [Bool.not_eq_true', Bool.not_eq_false', decide_eq_true_eq, decide_eq_false_iff_not] at hc) <;> (first | (exfalso; omega) | skip) <;> simp [-List.reduceReplicate, Nat.add_one_le_iff, -getElem?_pos, -getElem?_neg, iC, bC, hc])
   | (with_reducible refine And.intro (by omega) ?_)
   | fail)
  all_goals simp_all
theorem may47_den (m k a b : Int) : DenV Tryz.prog 51 [.c (iC m), .c (iC k), .c (iC a), .c (iC b)] (.c (bC (mayP m k a b))) := by
  refine Den.frame rfl rfl ?_
  have p1 := may06_den a b
  have hr : mayP m k a b = (decide (1 ≤ m) && decide (m ≤ 1024) && decide (1 ≤ k) && decide (k ≤ 1024) && mayR a b) := rfl
  generalize mayP m k a b = r at *
  generalize mayR a b = r2 at *
  refine den_of Tryz.func51 rfl rfl (by simp [Tryz.ntmps51]) (fun X hX hO => ?_)
  rw [Tryz.ntmps51] at hX
  simp only [Tryz.results51]
  repeat' (first 
   | (with_reducible first | refine awp_scope ?_ | refine awp_seq ?_ | refine awp_block ?_)
   | ((with_reducible first | refine awp_label ?_ | refine awp_skip ?_ | refine awp_exit ?_); try simp only [thenA, inBlockA, noGotoA, if_true, Nat.reduceEqDiff, if_false, ↓reduceIte])
   | ((with_reducible first | refine awp_reg 28 hX [0, 1, 2, 3, 8] ?_ | change postOf _ _ _ _ _); simp [-List.reduceReplicate, Nat.add_one_le_iff, -getElem?_pos, -getElem?_neg, iC, bC])
   | ((first | (with_reducible refine awp_ret ?_; try simp only [thenA, inBlockA, noGotoA]) | (refine (p1 _).det ?_)); try simp [-List.reduceReplicate, Nat.add_one_le_iff, -getElem?_pos, -getElem?_neg, iC, bC])
   | (with_reducible refine awp_if_b rfl (fun hc => ?_) (fun hc => ?_) <;> (try simp [-getElem?_pos, -getElem?_neg] at hc) <;> (try (exfalso; omega)))
   | ((with_reducible first | refine GuardK_b (fun hc => ?_) (fun hc => ?_)) <;> (try simp only [Bool.not_eq_true', Bool.not_eq_false', decide_eq_true_eq, decide_eq_false_iff_not] at hc) <;> (first | (exfalso; omega) | skip) <;> simp [-List.reduceReplicate, Nat.add_one_le_iff, -getElem?_pos, -getElem?_neg, iC, bC, hc])
   | (with_reducible refine And.intro (by omega) ?_)
   | fail)
  all_goals simp_all
end Go.Av

set_option exponentiation.threshold 1000
set_option linter.unusedVariables false
set_option linter.unusedSimpArgs false
set_option maxRecDepth 100000
set_option maxHeartbeats 4000000
namespace Go.Av
open Go Go.Proofs Go.Proofs.YtpcnacknlgmmlaaGreat Go.RowKit
attribute [local simp] List.getElem?_cons_zero List.getElem?_cons_succ
/-! ### config.Check, milepostref52.CheckConfig -/
attribute [local simp] Tryz.underlying9 Tryz.underlying3 Tryz.underlying4 Tryz.underlying30 Tryz.underlying24 Tryz.underlying27 Tryz.underlying29
def anchC (c : CF) : Bool := decide (c.g.v ≠ 0) || decide (c.g.a.1 ≠ rootNil) || !okN (hv (idL c.g)) (hv c.t.1)
def rangeC (c : CF) : Bool := decide (c.mb < 1) || decide (1024 < c.mb) || decide (c.mp < 1) || decide (64 < c.mp)
def checkC (c : CF) : Int := if anchC c then 7 else if !mayP c.m c.k c.a c.b then 13 else if rangeC c then 3 else 0
theorem cfC_len (c : CF) : (cfC c).length = 104 := by simp [cfC, hdC, c.g.a.2, c.g.b.2, c.t.2]
theorem cfC_g (c : CF) : (cfC c).take 66 = hdC c.g := by
  have : (hdC c.g).length = 66 := by simp [hdC, c.g.a.2, c.g.b.2]
  rw [cfC, List.take_left' this]
theorem cfC_t (c : CF) : ((cfC c).drop 66).take 32 = c.t.1.map bC8 := by
  have : (hdC c.g).length = 66 := by simp [hdC, c.g.a.2, c.g.b.2]
  rw [cfC, List.drop_left' this, List.take_left' (by simp [c.t.2])]
theorem cfC_n (c : CF) (j : Nat) : (cfC c)[98 + j]? = [iC c.m, iC c.k, iC c.a, iC c.b, iC c.mb, iC c.mp][j]? := by
  have : (hdC c.g).length = 66 := by simp [hdC, c.g.a.2, c.g.b.2]
  rw [cfC, List.getElem?_append_right (by omega), this, List.getElem?_append_right (by simp [c.t.2]; omega)]
  simp [c.t.2]
  congr 1
  omega
theorem check_den (c : CF) (hok : HDok c.g) : DenV Tryz.prog 11 [cfM c] (.c (iC (checkC c))) := by
  refine Den.frame (by simp [cfM, ltB, ltBs]) rfl ?_
  have p1 := linkRootNil_den
  have p2 := identId_den c.g hok
  have p3 := ok_den (idL c.g) c.t.1 (by simp [idL, shaL_len]) c.t.2
  have p4 := mayP_den c.m c.k c.a c.b
  have he := eq_hash c.g.a.1 rootNil c.g.a.2 rootNil_len
  have hrl := rootNil_len
  have hck : checkC c = if anchC c then 7 else if !mayP c.m c.k c.a c.b then 13 else if rangeC c then 3 else 0 := rfl
  have han : anchC c = (decide (c.g.v ≠ 0) || decide (c.g.a.1 ≠ rootNil) || !okN (hv (idL c.g)) (hv c.t.1)) := rfl
  have hra : rangeC c = (decide (c.mb < 1) || decide (1024 < c.mb) || decide (c.mp < 1) || decide (64 < c.mp)) := rfl
  have kl := cfC_len c
  have kg := cfC_g c
  have kt := cfC_t c
  have k0 := cfC_n c 0
  have k1 := cfC_n c 1
  have k2 := cfC_n c 2
  have k3 := cfC_n c 3
  have k4 := cfC_n c 4
  have k5 := cfC_n c 5
  have hl : (hdC c.g).length = 66 := by simp [hdC, c.g.a.2, c.g.b.2]
  have ht : (hdC c.g).take 66 = hdC c.g := List.take_of_length_le (by omega)
  have h0 : (hdC c.g)[0]? = some (.v (.int .u32 (c.g.v : Int))) := rfl
  have ha : ((hdC c.g).drop 1).take 32 = c.g.a.1.map bC8 := by rw [hdC, List.drop_succ_cons, List.drop_zero, List.take_left' (by simp [c.g.a.2])]
  have kv : (cfC c)[0]? = some (.v (.int .u32 (c.g.v : Int))) := rfl
  have ka : ((cfC c).drop 1).take 32 = c.g.a.1.map bC8 := by
    have : cfC c = u32v c.g.v :: (c.g.a.1.map bC8 ++ ((c.g.b.1.map bC8 ++ [u64C c.g.n]) ++ (c.t.1.map bC8 ++ [iC c.m, iC c.k, iC c.a, iC c.b, iC c.mb, iC c.mp]))) := by simp [cfC, hdC]
    rw [this, List.drop_succ_cons, List.drop_zero, List.take_left' (by simp [c.g.a.2])]
  have ha2 : List.take 32 (up (hdC c.g)).tail = up (c.g.a.1.map bC8) := by rw [← ha]; simp [up, hdC, List.map_take]
  have ka2 : List.take 32 (up (cfC c)).tail = up (c.g.a.1.map bC8) := by rw [← ka]; simp [up, cfC, hdC, List.map_take]
  simp at k0 k1 k2 k3 k4 k5
  unfold cfM
  unfold hdM hashM at *
  obtain ⟨⟨v, ⟨A, hA⟩, B, n⟩, ⟨T, hT⟩, m, k, a, b, mb, mp⟩ := c
  simp only at *
  have hv0 : ((v : Int) = 0) ↔ v = 0 := by omega
  generalize checkC ⟨⟨v, ⟨A, hA⟩, B, n⟩, ⟨T, hT⟩, m, k, a, b, mb, mp⟩ = r at *
  generalize anchC ⟨⟨v, ⟨A, hA⟩, B, n⟩, ⟨T, hT⟩, m, k, a, b, mb, mp⟩ = ran at *
  generalize rangeC ⟨⟨v, ⟨A, hA⟩, B, n⟩, ⟨T, hT⟩, m, k, a, b, mb, mp⟩ = rra at *
  generalize cfC ⟨⟨v, ⟨A, hA⟩, B, n⟩, ⟨T, hT⟩, m, k, a, b, mb, mp⟩ = K at *
  generalize hdC ⟨v, ⟨A, hA⟩, B, n⟩ = Hc at *
  have hid : (idL ⟨v, ⟨A, hA⟩, B, n⟩).length = 32 := by simp [idL, shaL_len]
  generalize idL ⟨v, ⟨A, hA⟩, B, n⟩ = I at *
  generalize okN (hv I) (hv T) = o at *
  generalize mayP m k a b = my at *
  generalize rootNil = R at *
  generalize hAA : A.map bC8 = AA at *
  generalize hTT : T.map bC8 = TT at *
  generalize hRR : R.map bC8 = RR at *
  generalize hII : I.map bC8 = II at *
  have lA : AA.length = 32 := by rw [← hAA]; simp [hA]
  have lR : RR.length = 32 := by rw [← hRR]; simp [hrl]
  have lT : TT.length = 32 := by rw [← hTT]; simp [hT]
  have lI : II.length = 32 := by rw [← hII]; simp [hid]
  refine den_of Tryz.func11 rfl rfl (by simp [Tryz.ntmps11]) (fun X hX hO => ?_)
  rw [Tryz.ntmps11] at hX
  simp only [Tryz.results11]
  by_cases c1 : v = 0
  · by_cases c2 : A = R
    · cases o with
      | false =>
        simp [c1, c2] at han
        repeat' (first 
         | (with_reducible first | refine awp_scope ?_ | refine awp_seq ?_ | refine awp_block ?_)
         | ((with_reducible first | refine awp_label ?_ | refine awp_skip ?_ | refine awp_exit ?_); try simp only [thenA, inBlockA, noGotoA, if_true, Nat.reduceEqDiff, if_false, ↓reduceIte])
         | ((with_reducible first | refine awp_reg 50 hX [1, 2, 3, 6, 20, 31] ?_ | refine awp_drw 50 hX [1, 2, 3, 6, 20, 31] Tab.mixed (by kernel_rfl) ?_ | refine DEv_cut _ _ _ _ _ _ _ _ _ _ _ _ (by kernel_rfl) ?_ | change postOf _ _ _ _ _); simp [-List.reduceReplicate, Nat.add_one_le_iff, -getElem?_pos, -getElem?_neg, iC, bC, kl, kg, kt, k0, k1, k2, k3, k4, k5, hl, ht, h0, ha, he, c1, c2, kv, ka, ha2, ka2])
         | ((first | (with_reducible refine awp_ret ?_; try simp only [thenA, inBlockA, noGotoA]) | (refine (p1 _).det ?_) | (refine ⟨_, _, p1 _, fun _ => rfl, ?_⟩) | (refine (p2 _).det ?_) | (refine ⟨_, _, p2 _, fun _ => rfl, ?_⟩) | (refine (p3 _).det ?_) | (refine ⟨_, _, p3 _, fun _ => rfl, ?_⟩) | (refine (p4 _).det ?_) | (refine ⟨_, _, p4 _, fun _ => rfl, ?_⟩)); try simp [-List.reduceReplicate, Nat.add_one_le_iff, -getElem?_pos, -getElem?_neg, iC, bC, kl, kg, kt, k0, k1, k2, k3, k4, k5, hl, ht, h0, ha, he, c1, c2, kv, ka, ha2, ka2])
         | (with_reducible refine awp_if_b rfl (fun hc => ?_) (fun hc => ?_) <;> (try simp [-getElem?_pos, -getElem?_neg] at hc) <;> (try (exfalso; omega)))
         | ((with_reducible first | refine GuardK_b (fun hc => ?_) (fun hc => ?_) | refine DGuard_b _ _ _ _ _ _ _ _ _ _ (fun hc => ?_) (fun hc => ?_)) <;> (try simp only [Bool.not_eq_true', Bool.not_eq_false', decide_eq_true_eq, decide_eq_false_iff_not] at hc) <;> (first | (exfalso; omega) | skip) <;> simp [-List.reduceReplicate, Nat.add_one_le_iff, -getElem?_pos, -getElem?_neg, iC, bC, kl, kg, kt, k0, k1, k2, k3, k4, k5, hl, ht, h0, ha, he, c1, c2, kv, ka, ha2, ka2, hc])
         | (with_reducible refine And.intro (by omega) ?_)
         | fail)
        all_goals simp_all
      | true =>
        simp [c1, c2] at han
        cases my with
        | false =>
          repeat' (first 
           | (with_reducible first | refine awp_scope ?_ | refine awp_seq ?_ | refine awp_block ?_)
           | ((with_reducible first | refine awp_label ?_ | refine awp_skip ?_ | refine awp_exit ?_); try simp only [thenA, inBlockA, noGotoA, if_true, Nat.reduceEqDiff, if_false, ↓reduceIte])
           | ((with_reducible first | refine awp_reg 50 hX [1, 2, 3, 6, 20, 31] ?_ | refine awp_drw 50 hX [1, 2, 3, 6, 20, 31] Tab.mixed (by kernel_rfl) ?_ | refine DEv_cut _ _ _ _ _ _ _ _ _ _ _ _ (by kernel_rfl) ?_ | change postOf _ _ _ _ _); simp [-List.reduceReplicate, Nat.add_one_le_iff, -getElem?_pos, -getElem?_neg, iC, bC, kl, kg, kt, k0, k1, k2, k3, k4, k5, hl, ht, h0, ha, he, c1, c2, kv, ka, ha2, ka2])
           | ((first | (with_reducible refine awp_ret ?_; try simp only [thenA, inBlockA, noGotoA]) | (refine (p1 _).det ?_) | (refine ⟨_, _, p1 _, fun _ => rfl, ?_⟩) | (refine (p2 _).det ?_) | (refine ⟨_, _, p2 _, fun _ => rfl, ?_⟩) | (refine (p3 _).det ?_) | (refine ⟨_, _, p3 _, fun _ => rfl, ?_⟩) | (refine (p4 _).det ?_) | (refine ⟨_, _, p4 _, fun _ => rfl, ?_⟩)); try simp [-List.reduceReplicate, Nat.add_one_le_iff, -getElem?_pos, -getElem?_neg, iC, bC, kl, kg, kt, k0, k1, k2, k3, k4, k5, hl, ht, h0, ha, he, c1, c2, kv, ka, ha2, ka2])
           | (with_reducible refine awp_if_b rfl (fun hc => ?_) (fun hc => ?_) <;> (try simp [-getElem?_pos, -getElem?_neg] at hc) <;> (try (exfalso; omega)))
           | ((with_reducible first | refine GuardK_b (fun hc => ?_) (fun hc => ?_) | refine DGuard_b _ _ _ _ _ _ _ _ _ _ (fun hc => ?_) (fun hc => ?_)) <;> (try simp only [Bool.not_eq_true', Bool.not_eq_false', decide_eq_true_eq, decide_eq_false_iff_not] at hc) <;> (first | (exfalso; omega) | skip) <;> simp [-List.reduceReplicate, Nat.add_one_le_iff, -getElem?_pos, -getElem?_neg, iC, bC, kl, kg, kt, k0, k1, k2, k3, k4, k5, hl, ht, h0, ha, he, c1, c2, kv, ka, ha2, ka2, hc])
           | (with_reducible refine And.intro (by omega) ?_)
           | fail)
          all_goals simp_all
        | true =>
          repeat' (first 
           | (with_reducible first | refine awp_scope ?_ | refine awp_seq ?_ | refine awp_block ?_)
           | ((with_reducible first | refine awp_label ?_ | refine awp_skip ?_ | refine awp_exit ?_); try simp only [thenA, inBlockA, noGotoA, if_true, Nat.reduceEqDiff, if_false, ↓reduceIte])
           | ((with_reducible first | refine awp_reg 50 hX [1, 2, 3, 6, 20, 31] ?_ | refine awp_drw 50 hX [1, 2, 3, 6, 20, 31] Tab.mixed (by kernel_rfl) ?_ | refine DEv_cut _ _ _ _ _ _ _ _ _ _ _ _ (by kernel_rfl) ?_ | change postOf _ _ _ _ _); simp [-List.reduceReplicate, Nat.add_one_le_iff, -getElem?_pos, -getElem?_neg, iC, bC, kl, kg, kt, k0, k1, k2, k3, k4, k5, hl, ht, h0, ha, he, c1, c2, kv, ka, ha2, ka2])
           | ((first | (with_reducible refine awp_ret ?_; try simp only [thenA, inBlockA, noGotoA]) | (refine (p1 _).det ?_) | (refine ⟨_, _, p1 _, fun _ => rfl, ?_⟩) | (refine (p2 _).det ?_) | (refine ⟨_, _, p2 _, fun _ => rfl, ?_⟩) | (refine (p3 _).det ?_) | (refine ⟨_, _, p3 _, fun _ => rfl, ?_⟩) | (refine (p4 _).det ?_) | (refine ⟨_, _, p4 _, fun _ => rfl, ?_⟩)); try simp [-List.reduceReplicate, Nat.add_one_le_iff, -getElem?_pos, -getElem?_neg, iC, bC, kl, kg, kt, k0, k1, k2, k3, k4, k5, hl, ht, h0, ha, he, c1, c2, kv, ka, ha2, ka2])
           | (with_reducible refine awp_if_b rfl (fun hc => ?_) (fun hc => ?_) <;> (try simp [-getElem?_pos, -getElem?_neg] at hc) <;> (try (exfalso; omega)))
           | ((with_reducible first | refine GuardK_b (fun hc => ?_) (fun hc => ?_) | refine DGuard_b _ _ _ _ _ _ _ _ _ _ (fun hc => ?_) (fun hc => ?_)) <;> (try simp only [Bool.not_eq_true', Bool.not_eq_false', decide_eq_true_eq, decide_eq_false_iff_not] at hc) <;> (first | (exfalso; omega) | skip) <;> simp [-List.reduceReplicate, Nat.add_one_le_iff, -getElem?_pos, -getElem?_neg, iC, bC, kl, kg, kt, k0, k1, k2, k3, k4, k5, hl, ht, h0, ha, he, c1, c2, kv, ka, ha2, ka2, hc])
           | (with_reducible refine And.intro (by omega) ?_)
           | fail)
          all_goals simp_all
    · simp [c1, c2] at han
      repeat' (first 
       | (with_reducible first | refine awp_scope ?_ | refine awp_seq ?_ | refine awp_block ?_)
       | ((with_reducible first | refine awp_label ?_ | refine awp_skip ?_ | refine awp_exit ?_); try simp only [thenA, inBlockA, noGotoA, if_true, Nat.reduceEqDiff, if_false, ↓reduceIte])
       | ((with_reducible first | refine awp_reg 50 hX [1, 2, 3, 6, 20, 31] ?_ | refine awp_drw 50 hX [1, 2, 3, 6, 20, 31] Tab.mixed (by kernel_rfl) ?_ | refine DEv_cut _ _ _ _ _ _ _ _ _ _ _ _ (by kernel_rfl) ?_ | change postOf _ _ _ _ _); simp [-List.reduceReplicate, Nat.add_one_le_iff, -getElem?_pos, -getElem?_neg, iC, bC, kl, kg, kt, k0, k1, k2, k3, k4, k5, hl, ht, h0, ha, he, c1, c2, kv, ka, ha2, ka2])
       | ((first | (with_reducible refine awp_ret ?_; try simp only [thenA, inBlockA, noGotoA]) | (refine (p1 _).det ?_) | (refine ⟨_, _, p1 _, fun _ => rfl, ?_⟩) | (refine (p2 _).det ?_) | (refine ⟨_, _, p2 _, fun _ => rfl, ?_⟩) | (refine (p3 _).det ?_) | (refine ⟨_, _, p3 _, fun _ => rfl, ?_⟩) | (refine (p4 _).det ?_) | (refine ⟨_, _, p4 _, fun _ => rfl, ?_⟩)); try simp [-List.reduceReplicate, Nat.add_one_le_iff, -getElem?_pos, -getElem?_neg, iC, bC, kl, kg, kt, k0, k1, k2, k3, k4, k5, hl, ht, h0, ha, he, c1, c2, kv, ka, ha2, ka2])
       | (with_reducible refine awp_if_b rfl (fun hc => ?_) (fun hc => ?_) <;> (try simp [-getElem?_pos, -getElem?_neg] at hc) <;> (try (exfalso; omega)))
       | ((with_reducible first | refine GuardK_b (fun hc => ?_) (fun hc => ?_) | refine DGuard_b _ _ _ _ _ _ _ _ _ _ (fun hc => ?_) (fun hc => ?_)) <;> (try simp only [Bool.not_eq_true', Bool.not_eq_false', decide_eq_true_eq, decide_eq_false_iff_not] at hc) <;> (first | (exfalso; omega) | skip) <;> simp [-List.reduceReplicate, Nat.add_one_le_iff, -getElem?_pos, -getElem?_neg, iC, bC, kl, kg, kt, k0, k1, k2, k3, k4, k5, hl, ht, h0, ha, he, c1, c2, kv, ka, ha2, ka2, hc])
       | (with_reducible refine And.intro (by omega) ?_)
       | fail)
      all_goals simp_all
  · simp [c1] at han
    repeat' (first 
     | (with_reducible first | refine awp_scope ?_ | refine awp_seq ?_ | refine awp_block ?_)
     | ((with_reducible first | refine awp_label ?_ | refine awp_skip ?_ | refine awp_exit ?_); try simp only [thenA, inBlockA, noGotoA, if_true, Nat.reduceEqDiff, if_false, ↓reduceIte])
     | ((with_reducible first | refine awp_reg 50 hX [1, 2, 3, 6, 20, 31] ?_ | refine awp_drw 50 hX [1, 2, 3, 6, 20, 31] Tab.mixed (by kernel_rfl) ?_ | refine DEv_cut _ _ _ _ _ _ _ _ _ _ _ _ (by kernel_rfl) ?_ | change postOf _ _ _ _ _); simp [-List.reduceReplicate, Nat.add_one_le_iff, -getElem?_pos, -getElem?_neg, iC, bC, kl, kg, kt, k0, k1, k2, k3, k4, k5, hl, ht, h0, ha, he, c1, kv, ka, ha2, ka2])
     | ((first | (with_reducible refine awp_ret ?_; try simp only [thenA, inBlockA, noGotoA]) | (refine (p1 _).det ?_) | (refine ⟨_, _, p1 _, fun _ => rfl, ?_⟩) | (refine (p2 _).det ?_) | (refine ⟨_, _, p2 _, fun _ => rfl, ?_⟩) | (refine (p3 _).det ?_) | (refine ⟨_, _, p3 _, fun _ => rfl, ?_⟩) | (refine (p4 _).det ?_) | (refine ⟨_, _, p4 _, fun _ => rfl, ?_⟩)); try simp [-List.reduceReplicate, Nat.add_one_le_iff, -getElem?_pos, -getElem?_neg, iC, bC, kl, kg, kt, k0, k1, k2, k3, k4, k5, hl, ht, h0, ha, he, c1, kv, ka, ha2, ka2])
     | (with_reducible refine awp_if_b rfl (fun hc => ?_) (fun hc => ?_) <;> (try simp [-getElem?_pos, -getElem?_neg] at hc) <;> (try (exfalso; omega)))
     | ((with_reducible first | refine GuardK_b (fun hc => ?_) (fun hc => ?_) | refine DGuard_b _ _ _ _ _ _ _ _ _ _ (fun hc => ?_) (fun hc => ?_)) <;> (try simp only [Bool.not_eq_true', Bool.not_eq_false', decide_eq_true_eq, decide_eq_false_iff_not] at hc) <;> (first | (exfalso; omega) | skip) <;> simp [-List.reduceReplicate, Nat.add_one_le_iff, -getElem?_pos, -getElem?_neg, iC, bC, kl, kg, kt, k0, k1, k2, k3, k4, k5, hl, ht, h0, ha, he, c1, kv, ka, ha2, ka2, hc])
     | (with_reducible refine And.intro (by omega) ?_)
     | fail)
    all_goals simp_all
theorem check52_den (c : CF) (hok : HDok c.g) : DenV Tryz.prog 12 [cfM c] (.c (iC (checkC c))) := by
  refine Den.frame (by simp [cfM, ltB, ltBs]) rfl ?_
  have p1 := links17Nil_den
  have p2 := id17_den c.g hok
  have p3 := ok17_den (idL c.g) c.t.1 (by simp [idL, shaL_len]) c.t.2
  have p4 := may47_den c.m c.k c.a c.b
  have he := eq_hash c.g.a.1 rootNil c.g.a.2 rootNil_len
  have hrl := rootNil_len
  have hck : checkC c = if anchC c then 7 else if !mayP c.m c.k c.a c.b then 13 else if rangeC c then 3 else 0 := rfl
  have han : anchC c = (decide (c.g.v ≠ 0) || decide (c.g.a.1 ≠ rootNil) || !okN (hv (idL c.g)) (hv c.t.1)) := rfl
  have hra : rangeC c = (decide (c.mb < 1) || decide (1024 < c.mb) || decide (c.mp < 1) || decide (64 < c.mp)) := rfl
  have kl := cfC_len c
  have kg := cfC_g c
  have kt := cfC_t c
  have k0 := cfC_n c 0
  have k1 := cfC_n c 1
  have k2 := cfC_n c 2
  have k3 := cfC_n c 3
  have k4 := cfC_n c 4
  have k5 := cfC_n c 5
  have hl : (hdC c.g).length = 66 := by simp [hdC, c.g.a.2, c.g.b.2]
  have ht : (hdC c.g).take 66 = hdC c.g := List.take_of_length_le (by omega)
  have h0 : (hdC c.g)[0]? = some (.v (.int .u32 (c.g.v : Int))) := rfl
  have ha : ((hdC c.g).drop 1).take 32 = c.g.a.1.map bC8 := by rw [hdC, List.drop_succ_cons, List.drop_zero, List.take_left' (by simp [c.g.a.2])]
  have kv : (cfC c)[0]? = some (.v (.int .u32 (c.g.v : Int))) := rfl
  have ka : ((cfC c).drop 1).take 32 = c.g.a.1.map bC8 := by
    have : cfC c = u32v c.g.v :: (c.g.a.1.map bC8 ++ ((c.g.b.1.map bC8 ++ [u64C c.g.n]) ++ (c.t.1.map bC8 ++ [iC c.m, iC c.k, iC c.a, iC c.b, iC c.mb, iC c.mp]))) := by simp [cfC, hdC]
    rw [this, List.drop_succ_cons, List.drop_zero, List.take_left' (by simp [c.g.a.2])]
  have ha2 : List.take 32 (up (hdC c.g)).tail = up (c.g.a.1.map bC8) := by rw [← ha]; simp [up, hdC, List.map_take]
  have ka2 : List.take 32 (up (cfC c)).tail = up (c.g.a.1.map bC8) := by rw [← ka]; simp [up, cfC, hdC, List.map_take]
  simp at k0 k1 k2 k3 k4 k5
  unfold cfM
  unfold hdM hashM at *
  obtain ⟨⟨v, ⟨A, hA⟩, B, n⟩, ⟨T, hT⟩, m, k, a, b, mb, mp⟩ := c
  simp only at *
  have hv0 : ((v : Int) = 0) ↔ v = 0 := by omega
  generalize checkC ⟨⟨v, ⟨A, hA⟩, B, n⟩, ⟨T, hT⟩, m, k, a, b, mb, mp⟩ = r at *
  generalize anchC ⟨⟨v, ⟨A, hA⟩, B, n⟩, ⟨T, hT⟩, m, k, a, b, mb, mp⟩ = ran at *
  generalize rangeC ⟨⟨v, ⟨A, hA⟩, B, n⟩, ⟨T, hT⟩, m, k, a, b, mb, mp⟩ = rra at *
  generalize cfC ⟨⟨v, ⟨A, hA⟩, B, n⟩, ⟨T, hT⟩, m, k, a, b, mb, mp⟩ = K at *
  generalize hdC ⟨v, ⟨A, hA⟩, B, n⟩ = Hc at *
  have hid : (idL ⟨v, ⟨A, hA⟩, B, n⟩).length = 32 := by simp [idL, shaL_len]
  generalize idL ⟨v, ⟨A, hA⟩, B, n⟩ = I at *
  generalize okN (hv I) (hv T) = o at *
  generalize mayP m k a b = my at *
  generalize rootNil = R at *
  generalize hAA : A.map bC8 = AA at *
  generalize hTT : T.map bC8 = TT at *
  generalize hRR : R.map bC8 = RR at *
  generalize hII : I.map bC8 = II at *
  have lA : AA.length = 32 := by rw [← hAA]; simp [hA]
  have lR : RR.length = 32 := by rw [← hRR]; simp [hrl]
  have lT : TT.length = 32 := by rw [← hTT]; simp [hT]
  have lI : II.length = 32 := by rw [← hII]; simp [hid]
  refine den_of Tryz.func12 rfl rfl (by simp [Tryz.ntmps12]) (fun X hX hO => ?_)
  rw [Tryz.ntmps12] at hX
  simp only [Tryz.results12]
  by_cases c1 : v = 0
  · by_cases c2 : A = R
    · cases o with
      | false =>
        simp [c1, c2] at han
        repeat' (first 
         | (with_reducible first | refine awp_scope ?_ | refine awp_seq ?_ | refine awp_block ?_)
         | ((with_reducible first | refine awp_label ?_ | refine awp_skip ?_ | refine awp_exit ?_); try simp only [thenA, inBlockA, noGotoA, if_true, Nat.reduceEqDiff, if_false, ↓reduceIte])
         | ((with_reducible first | refine awp_reg 51 hX [1, 2, 22, 32, 50] ?_ | refine awp_drw 51 hX [1, 2, 22, 32, 50] Tab.mixed (by kernel_rfl) ?_ | refine DEv_cut _ _ _ _ _ _ _ _ _ _ _ _ (by kernel_rfl) ?_ | change postOf _ _ _ _ _); simp [-List.reduceReplicate, Nat.add_one_le_iff, -getElem?_pos, -getElem?_neg, iC, bC, kl, kg, kt, k0, k1, k2, k3, k4, k5, hl, ht, h0, ha, he, c1, c2, kv, ka, ha2, ka2])
         | ((first | (with_reducible refine awp_ret ?_; try simp only [thenA, inBlockA, noGotoA]) | (refine (p1 _).det ?_) | (refine ⟨_, _, p1 _, fun _ => rfl, ?_⟩) | (refine (p2 _).det ?_) | (refine ⟨_, _, p2 _, fun _ => rfl, ?_⟩) | (refine (p3 _).det ?_) | (refine ⟨_, _, p3 _, fun _ => rfl, ?_⟩) | (refine (p4 _).det ?_) | (refine ⟨_, _, p4 _, fun _ => rfl, ?_⟩)); try simp [-List.reduceReplicate, Nat.add_one_le_iff, -getElem?_pos, -getElem?_neg, iC, bC, kl, kg, kt, k0, k1, k2, k3, k4, k5, hl, ht, h0, ha, he, c1, c2, kv, ka, ha2, ka2])
         | (with_reducible refine awp_if_b rfl (fun hc => ?_) (fun hc => ?_) <;> (try simp [-getElem?_pos, -getElem?_neg] at hc) <;> (try (exfalso; omega)))
         | ((with_reducible first | refine GuardK_b (fun hc => ?_) (fun hc => ?_) | refine DGuard_b _ _ _ _ _ _ _ _ _ _ (fun hc => ?_) (fun hc => ?_)) <;> (try simp only [Bool.not_eq_true', Bool.not_eq_false', decide_eq_true_eq, decide_eq_false_iff_not] at hc) <;> (first | (exfalso; omega) | skip) <;> simp [-List.reduceReplicate, Nat.add_one_le_iff, -getElem?_pos, -getElem?_neg, iC, bC, kl, kg, kt, k0, k1, k2, k3, k4, k5, hl, ht, h0, ha, he, c1, c2, kv, ka, ha2, ka2, hc])
         | (with_reducible refine And.intro (by omega) ?_)
         | fail)
        all_goals simp_all
      | true =>
        simp [c1, c2] at han
        cases my with
        | false =>
          repeat' (first 
           | (with_reducible first | refine awp_scope ?_ | refine awp_seq ?_ | refine awp_block ?_)
           | ((with_reducible first | refine awp_label ?_ | refine awp_skip ?_ | refine awp_exit ?_); try simp only [thenA, inBlockA, noGotoA, if_true, Nat.reduceEqDiff, if_false, ↓reduceIte])
           | ((with_reducible first | refine awp_reg 51 hX [1, 2, 22, 32, 50] ?_ | refine awp_drw 51 hX [1, 2, 22, 32, 50] Tab.mixed (by kernel_rfl) ?_ | refine DEv_cut _ _ _ _ _ _ _ _ _ _ _ _ (by kernel_rfl) ?_ | change postOf _ _ _ _ _); simp [-List.reduceReplicate, Nat.add_one_le_iff, -getElem?_pos, -getElem?_neg, iC, bC, kl, kg, kt, k0, k1, k2, k3, k4, k5, hl, ht, h0, ha, he, c1, c2, kv, ka, ha2, ka2])
           | ((first | (with_reducible refine awp_ret ?_; try simp only [thenA, inBlockA, noGotoA]) | (refine (p1 _).det ?_) | (refine ⟨_, _, p1 _, fun _ => rfl, ?_⟩) | (refine (p2 _).det ?_) | (refine ⟨_, _, p2 _, fun _ => rfl, ?_⟩) | (refine (p3 _).det ?_) | (refine ⟨_, _, p3 _, fun _ => rfl, ?_⟩) | (refine (p4 _).det ?_) | (refine ⟨_, _, p4 _, fun _ => rfl, ?_⟩)); try simp [-List.reduceReplicate, Nat.add_one_le_iff, -getElem?_pos, -getElem?_neg, iC, bC, kl, kg, kt, k0, k1, k2, k3, k4, k5, hl, ht, h0, ha, he, c1, c2, kv, ka, ha2, ka2])
           | (with_reducible refine awp_if_b rfl (fun hc => ?_) (fun hc => ?_) <;> (try simp [-getElem?_pos, -getElem?_neg] at hc) <;> (try (exfalso; omega)))
           | ((with_reducible first | refine GuardK_b (fun hc => ?_) (fun hc => ?_) | refine DGuard_b _ _ _ _ _ _ _ _ _ _ (fun hc => ?_) (fun hc => ?_)) <;> (try simp only [Bool.not_eq_true', Bool.not_eq_false', decide_eq_true_eq, decide_eq_false_iff_not] at hc) <;> (first | (exfalso; omega) | skip) <;> simp [-List.reduceReplicate, Nat.add_one_le_iff, -getElem?_pos, -getElem?_neg, iC, bC, kl, kg, kt, k0, k1, k2, k3, k4, k5, hl, ht, h0, ha, he, c1, c2, kv, ka, ha2, ka2, hc])
           | (with_reducible refine And.intro (by omega) ?_)
           | fail)
          all_goals simp_all
        | true =>
          repeat' (first 
           | (with_reducible first | refine awp_scope ?_ | refine awp_seq ?_ | refine awp_block ?_)
           | ((with_reducible first | refine awp_label ?_ | refine awp_skip ?_ | refine awp_exit ?_); try simp only [thenA, inBlockA, noGotoA, if_true, Nat.reduceEqDiff, if_false, ↓reduceIte])
           | ((with_reducible first | refine awp_reg 51 hX [1, 2, 22, 32, 50] ?_ | refine awp_drw 51 hX [1, 2, 22, 32, 50] Tab.mixed (by kernel_rfl) ?_ | refine DEv_cut _ _ _ _ _ _ _ _ _ _ _ _ (by kernel_rfl) ?_ | change postOf _ _ _ _ _); simp [-List.reduceReplicate, Nat.add_one_le_iff, -getElem?_pos, -getElem?_neg, iC, bC, kl, kg, kt, k0, k1, k2, k3, k4, k5, hl, ht, h0, ha, he, c1, c2, kv, ka, ha2, ka2])
           | ((first | (with_reducible refine awp_ret ?_; try simp only [thenA, inBlockA, noGotoA]) | (refine (p1 _).det ?_) | (refine ⟨_, _, p1 _, fun _ => rfl, ?_⟩) | (refine (p2 _).det ?_) | (refine ⟨_, _, p2 _, fun _ => rfl, ?_⟩) | (refine (p3 _).det ?_) | (refine ⟨_, _, p3 _, fun _ => rfl, ?_⟩) | (refine (p4 _).det ?_) | (refine ⟨_, _, p4 _, fun _ => rfl, ?_⟩)); try simp [-List.reduceReplicate, Nat.add_one_le_iff, -getElem?_pos, -getElem?_neg, iC, bC, kl, kg, kt, k0, k1, k2, k3, k4, k5, hl, ht, h0, ha, he, c1, c2, kv, ka, ha2, ka2])
           | (with_reducible refine awp_if_b rfl (fun hc => ?_) (fun hc => ?_) <;> (try simp [-getElem?_pos, -getElem?_neg] at hc) <;> (try (exfalso; omega)))
           | ((with_reducible first | refine GuardK_b (fun hc => ?_) (fun hc => ?_) | refine DGuard_b _ _ _ _ _ _ _ _ _ _ (fun hc => ?_) (fun hc => ?_)) <;> (try simp only [Bool.not_eq_true', Bool.not_eq_false', decide_eq_true_eq, decide_eq_false_iff_not] at hc) <;> (first | (exfalso; omega) | skip) <;> simp [-List.reduceReplicate, Nat.add_one_le_iff, -getElem?_pos, -getElem?_neg, iC, bC, kl, kg, kt, k0, k1, k2, k3, k4, k5, hl, ht, h0, ha, he, c1, c2, kv, ka, ha2, ka2, hc])
           | (with_reducible refine And.intro (by omega) ?_)
           | fail)
          all_goals simp_all
    · simp [c1, c2] at han
      repeat' (first 
       | (with_reducible first | refine awp_scope ?_ | refine awp_seq ?_ | refine awp_block ?_)
       | ((with_reducible first | refine awp_label ?_ | refine awp_skip ?_ | refine awp_exit ?_); try simp only [thenA, inBlockA, noGotoA, if_true, Nat.reduceEqDiff, if_false, ↓reduceIte])
       | ((with_reducible first | refine awp_reg 51 hX [1, 2, 22, 32, 50] ?_ | refine awp_drw 51 hX [1, 2, 22, 32, 50] Tab.mixed (by kernel_rfl) ?_ | refine DEv_cut _ _ _ _ _ _ _ _ _ _ _ _ (by kernel_rfl) ?_ | change postOf _ _ _ _ _); simp [-List.reduceReplicate, Nat.add_one_le_iff, -getElem?_pos, -getElem?_neg, iC, bC, kl, kg, kt, k0, k1, k2, k3, k4, k5, hl, ht, h0, ha, he, c1, c2, kv, ka, ha2, ka2])
       | ((first | (with_reducible refine awp_ret ?_; try simp only [thenA, inBlockA, noGotoA]) | (refine (p1 _).det ?_) | (refine ⟨_, _, p1 _, fun _ => rfl, ?_⟩) | (refine (p2 _).det ?_) | (refine ⟨_, _, p2 _, fun _ => rfl, ?_⟩) | (refine (p3 _).det ?_) | (refine ⟨_, _, p3 _, fun _ => rfl, ?_⟩) | (refine (p4 _).det ?_) | (refine ⟨_, _, p4 _, fun _ => rfl, ?_⟩)); try simp [-List.reduceReplicate, Nat.add_one_le_iff, -getElem?_pos, -getElem?_neg, iC, bC, kl, kg, kt, k0, k1, k2, k3, k4, k5, hl, ht, h0, ha, he, c1, c2, kv, ka, ha2, ka2])
       | (with_reducible refine awp_if_b rfl (fun hc => ?_) (fun hc => ?_) <;> (try simp [-getElem?_pos, -getElem?_neg] at hc) <;> (try (exfalso; omega)))
       | ((with_reducible first | refine GuardK_b (fun hc => ?_) (fun hc => ?_) | refine DGuard_b _ _ _ _ _ _ _ _ _ _ (fun hc => ?_) (fun hc => ?_)) <;> (try simp only [Bool.not_eq_true', Bool.not_eq_false', decide_eq_true_eq, decide_eq_false_iff_not] at hc) <;> (first | (exfalso; omega) | skip) <;> simp [-List.reduceReplicate, Nat.add_one_le_iff, -getElem?_pos, -getElem?_neg, iC, bC, kl, kg, kt, k0, k1, k2, k3, k4, k5, hl, ht, h0, ha, he, c1, c2, kv, ka, ha2, ka2, hc])
       | (with_reducible refine And.intro (by omega) ?_)
       | fail)
      all_goals simp_all
  · simp [c1] at han
    repeat' (first 
     | (with_reducible first | refine awp_scope ?_ | refine awp_seq ?_ | refine awp_block ?_)
     | ((with_reducible first | refine awp_label ?_ | refine awp_skip ?_ | refine awp_exit ?_); try simp only [thenA, inBlockA, noGotoA, if_true, Nat.reduceEqDiff, if_false, ↓reduceIte])
     | ((with_reducible first | refine awp_reg 51 hX [1, 2, 22, 32, 50] ?_ | refine awp_drw 51 hX [1, 2, 22, 32, 50] Tab.mixed (by kernel_rfl) ?_ | refine DEv_cut _ _ _ _ _ _ _ _ _ _ _ _ (by kernel_rfl) ?_ | change postOf _ _ _ _ _); simp [-List.reduceReplicate, Nat.add_one_le_iff, -getElem?_pos, -getElem?_neg, iC, bC, kl, kg, kt, k0, k1, k2, k3, k4, k5, hl, ht, h0, ha, he, c1, kv, ka, ha2, ka2])
     | ((first | (with_reducible refine awp_ret ?_; try simp only [thenA, inBlockA, noGotoA]) | (refine (p1 _).det ?_) | (refine ⟨_, _, p1 _, fun _ => rfl, ?_⟩) | (refine (p2 _).det ?_) | (refine ⟨_, _, p2 _, fun _ => rfl, ?_⟩) | (refine (p3 _).det ?_) | (refine ⟨_, _, p3 _, fun _ => rfl, ?_⟩) | (refine (p4 _).det ?_) | (refine ⟨_, _, p4 _, fun _ => rfl, ?_⟩)); try simp [-List.reduceReplicate, Nat.add_one_le_iff, -getElem?_pos, -getElem?_neg, iC, bC, kl, kg, kt, k0, k1, k2, k3, k4, k5, hl, ht, h0, ha, he, c1, kv, ka, ha2, ka2])
     | (with_reducible refine awp_if_b rfl (fun hc => ?_) (fun hc => ?_) <;> (try simp [-getElem?_pos, -getElem?_neg] at hc) <;> (try (exfalso; omega)))
     | ((with_reducible first | refine GuardK_b (fun hc => ?_) (fun hc => ?_) | refine DGuard_b _ _ _ _ _ _ _ _ _ _ (fun hc => ?_) (fun hc => ?_)) <;> (try simp only [Bool.not_eq_true', Bool.not_eq_false', decide_eq_true_eq, decide_eq_false_iff_not] at hc) <;> (first | (exfalso; omega) | skip) <;> simp [-List.reduceReplicate, Nat.add_one_le_iff, -getElem?_pos, -getElem?_neg, iC, bC, kl, kg, kt, k0, k1, k2, k3, k4, k5, hl, ht, h0, ha, he, c1, kv, ka, ha2, ka2, hc])
     | (with_reducible refine And.intro (by omega) ?_)
     | fail)
    all_goals simp_all
end Go.Av

set_option exponentiation.threshold 1000
set_option linter.unusedVariables false
set_option linter.unusedSimpArgs false
set_option maxRecDepth 100000
set_option maxHeartbeats 4000000
namespace Go.Av
open Go Go.Proofs Go.Proofs.YtpcnacknlgmmlaaGreat Go.RowKit
attribute [local simp] List.getElem?_cons_zero List.getElem?_cons_succ
/-! ### config.nums -/
attribute [local simp] Tryz.underlying9 Tryz.underlying3 Tryz.underlying4 Tryz.underlying30 Tryz.underlying24 Tryz.underlying27 Tryz.underlying29 Tryz.underlying61 Tryz.underlying64
def cfO (K : List C) : Ob := ⟨29, 1, false, 0, up K, none⟩
def numsL (i : Nat) : List M := [.mp i 0 98, .mp i 0 99, .mp i 0 100, .mp i 0 101, .mp i 0 102, .mp i 0 103]
theorem numsL_get (i k : Nat) (h : k < 6) : (numsL i)[k]? = some (.mp i 0 (98 + k)) := by
  match k, h with
  | 0, _ | 1, _ | 2, _ | 3, _ | 4, _ | 5, _ => rfl
def numsO (i : Nat) : Ob := ⟨64, 1, false, 0, numsL i, none⟩
theorem nums_den (i : Nat) (K : List C) (hK : K.length = 104) (ob : List Ob) (h : ob[i]? = some (cfO K)) : Den Tryz.prog 28 [.mp i 0 0] ob (fun r ob' => r = .ms ob.length 0 0 6 ∧ ob' = ob ++ [numsO i]) := by
  simp only [cfO] at h
  refine den_of Tryz.func28 rfl rfl (by simp [Tryz.ntmps28]) (fun X hX hO => ?_)
  rw [Tryz.ntmps28] at hX
  simp only [Tryz.results28]
  repeat' (first 
   | (with_reducible first | refine awp_scope ?_ | refine awp_seq ?_ | refine awp_block ?_)
   | ((with_reducible first | refine awp_label ?_ | refine awp_skip ?_ | refine awp_exit ?_); try simp only [thenA, inBlockA, noGotoA, if_true, Nat.reduceEqDiff, if_false, ↓reduceIte])
   | ((with_reducible first | refine awp_reg 22 hX [0, 2] ?_ | refine DEv_cut _ _ _ _ _ _ _ _ _ _ _ _ (by kernel_rfl) ?_ | change postOf _ _ _ _ _); simp [-List.reduceReplicate, Nat.add_one_le_iff, -getElem?_pos, -getElem?_neg, h, hK])
   | ((first | (with_reducible refine awp_ret ?_; try simp only [thenA, inBlockA, noGotoA])); try simp [-List.reduceReplicate, Nat.add_one_le_iff, -getElem?_pos, -getElem?_neg, h, hK])
   | (with_reducible refine awp_if_b rfl (fun hc => ?_) (fun hc => ?_) <;> (try simp [-getElem?_pos, -getElem?_neg] at hc) <;> (try (exfalso; omega)))
   | (with_reducible refine And.intro (by omega) ?_)
   | fail)
  refine awp_drwc (id := 1) 22 hX [0, 2] [18] Tab.mixed (by kernel_rfl) ?_
  simp [-List.reduceReplicate, -getElem?_pos, -getElem?_neg, List.getElem?_cons_zero, List.getElem?_cons_succ, h, hK]
  have hd : downs (((((((up (List.replicate 6 (C.v (Value.pointer none)))).set 0 (M.mp i 0 98)).set 1 (M.mp i 0 99)).set 2 (M.mp i 0 100)).set 3 (M.mp i 0 101)).set 4 (M.mp i 0 102)).set 5 (M.mp i 0 103)) = none := rfl
  rw [hd]
  simp only [rowM, newOb]
  refine DEv_cut _ _ _ _ _ _ _ _ _ _ _ _ (by kernel_rfl) ?_
  simp
  repeat' (first 
   | (with_reducible first | refine awp_scope ?_ | refine awp_seq ?_ | refine awp_block ?_)
   | ((with_reducible first | refine awp_label ?_ | refine awp_skip ?_ | refine awp_exit ?_); try simp only [thenA, inBlockA, noGotoA, if_true, Nat.reduceEqDiff, if_false, ↓reduceIte])
   | ((with_reducible first | refine awp_reg 22 hX [0, 2] ?_ | refine DEv_cut _ _ _ _ _ _ _ _ _ _ _ _ (by kernel_rfl) ?_ | change postOf _ _ _ _ _); simp [-List.reduceReplicate, Nat.add_one_le_iff, -getElem?_pos, -getElem?_neg, numsO, numsL])
   | ((first | (with_reducible refine awp_ret ?_; try simp only [thenA, inBlockA, noGotoA])); try simp [-List.reduceReplicate, Nat.add_one_le_iff, -getElem?_pos, -getElem?_neg, numsO, numsL])
   | (with_reducible refine awp_if_b rfl (fun hc => ?_) (fun hc => ?_) <;> (try simp [-getElem?_pos, -getElem?_neg] at hc) <;> (try (exfalso; omega)))
   | (with_reducible refine And.intro (by omega) ?_)
   | fail)
  all_goals rfl
end Go.Av

set_option exponentiation.threshold 1000
set_option linter.unusedVariables false
set_option linter.unusedSimpArgs false
set_option maxRecDepth 100000
set_option maxHeartbeats 4000000
namespace Go.Av
open Go Go.Proofs Go.Proofs.YtpcnacknlgmmlaaGreat Go.RowKit
attribute [local simp] List.getElem?_cons_zero List.getElem?_cons_succ
/-! ### config.Decode -/
attribute [local simp] Tryz.underlying9 Tryz.underlying3 Tryz.underlying4 Tryz.underlying30 Tryz.underlying24 Tryz.underlying27 Tryz.underlying29 Tryz.underlying61 Tryz.underlying64
def cfK (g : HD) (t : H32) (l : List Int) : List C := hdC g ++ (t.1.map bC8 ++ l.map iC)
theorem cfK_len (g : HD) (t : H32) (l : List Int) (hl : l.length = 6) : (cfK g t l).length = 104 := by simp [cfK, hdC_len, t.2, hl]
theorem cfK_set (g : HD) (t : H32) (l : List Int) (k : Nat) (x : Int) : (cfK g t l).set (98 + k) (iC x) = cfK g t (l.set k x) := by
  unfold cfK
  rw [List.set_append_right _ _ (by rw [hdC_len]; omega), hdC_len, List.set_append_right _ _ (by simp [t.2]; omega)]
  simp only [List.length_map, t.2, List.map_set]
  congr 3
  omega
theorem cfK_lay0 (g g2 : HD) (t : H32) (l : List Int) : lay (up (cfK g t l)) 0 (up (hdC g2)) = up (cfK g2 t l) := by
  rw [lay_app _ _ _ (by simp [up, cfK, hdC_len])]
  simp only [up, cfK, List.take_zero, List.nil_append, List.length_map, hdC_len, Nat.zero_add, List.map_append]
  rw [List.drop_left' (by simp [hdC_len])]
theorem cfK_lay1 (g : HD) (t t2 : H32) (l : List Int) : lay (up (cfK g t l)) 66 (up (t2.1.map bC8)) = up (cfK g t2 l) := by
  rw [lay_app _ _ _ (by simp [up, cfK, hdC_len, t.2, t2.2]; omega)]
  simp only [up, cfK, List.length_map, List.map_append, t2.2]
  rw [List.take_left' (by simp [hdC_len]), ← List.drop_drop, List.drop_left' (by simp [hdC_len]), List.drop_left' (by simp [t.2])]
def numsTo (c : Cu) : Nat → List Int × Cu
  | 0 => ([], c)
  | k + 1 => ((numsTo c k).1 ++ [((numC (numsTo c k).2 65536).1 : Int)], (numC (numsTo c k).2 65536).2)
theorem numsTo_len (c : Cu) (k : Nat) : (numsTo c k).1.length = k := by
  induction k with
  | zero => rfl
  | succ k ih => simp [numsTo, ih]
theorem numC_le (c : Cu) (most : Nat) : (numC c most).1 ≤ most ∧ (numC c most).2.b.size ≤ c.b.size := by
  unfold numC
  split
  · simp
  · split
    · simp [e0]; exact Nat.zero_le _
    · split
      · simp [e0]; exact Nat.zero_le _
      · rename_i h1 h2 h3
        refine ⟨by simp only; omega, ?_⟩
        simp only [ByteArray.size_extract]
        omega
theorem rawC_le (c : Cu) (n : Int) : (rawC c n).2.b.size ≤ c.b.size := by
  unfold rawC
  split
  · unfold failC
    split
    · simp only [e0]; exact Nat.zero_le _
    · exact Nat.le_refl _
  · unfold cutC
    split
    · exact Nat.le_refl _
    · split
      · simp only [e0]; exact Nat.zero_le _
      · simp only [ByteArray.size_extract]; omega
theorem numsTo_le (c : Cu) (k : Nat) : (numsTo c k).2.b.size ≤ c.b.size := by
  induction k with
  | zero => exact Nat.le_refl _
  | succ k ih => exact Nat.le_trans (numC_le _ _).2 ih
def padN (c : Cu) (k : Nat) : List Int := (numsTo c k).1 ++ List.replicate (6 - k) 0
theorem padN_len (c : Cu) (k : Nat) (h : k ≤ 6) : (padN c k).length = 6 := by simp [padN, numsTo_len]; omega
theorem padN_set (c : Cu) (k : Nat) (h : k < 6) : (padN c k).set k ((numC (numsTo c k).2 65536).1 : Int) = padN c (k + 1) := by
  unfold padN
  rw [List.set_append_right _ _ (by rw [numsTo_len]; omega), numsTo_len, Nat.sub_self, show 6 - k = (6 - (k + 1)) + 1 by omega, List.replicate_succ, List.set_cons_zero]
  simp [numsTo]
def cfOf (g : HD) (t : H32) (l : List Int) : CF := ⟨g, t, l.getD 0 0, l.getD 1 0, l.getD 2 0, l.getD 3 0, l.getD 4 0, l.getD 5 0⟩
theorem cfOf_C (g : HD) (t : H32) (l : List Int) (h : l.length = 6) : cfC (cfOf g t l) = cfK g t l := by
  match l, h with
  | [a, b, c, d, e, f], _ => rfl
def zCF : CF := ⟨H0, Z32, 0, 0, 0, 0, 0, 0⟩
/-- The configuration of bytes, and what is wrong first. -/
def decC (b : ByteArray) : CF × Int :=
  let h := headC ⟨b, 0⟩
  let t := hashC h.2
  let e := doneC (numsTo t.2 6).2
  let c := cfOf h.1 t.1 (padN t.2 6)
  if e ≠ 0 then (zCF, e) else if checkC c ≠ 0 then (zCF, checkC c) else (c, 0)
theorem getHD_ok (s : ByteArray) : HDok (getHD s) := ⟨takeN_lt s 0 4, takeN_u64 s 68 8 (by omega)⟩
theorem decode_den (b : ByteArray) (hb : b.size ≤ 9223372036854775807) : DenV Tryz.prog 6 [.c (sC b)] (.tup [cfM (decC b).1, .c (iC (decC b).2)]) := by
  refine Den.frame rfl (by simp [cfM, ltB, ltBs]) ?_
  have z0 : zeroT Tryz.prog 29 = some (up (cfK H0 Z32 [0, 0, 0, 0, 0, 0])) := by kernel_rfl
  have hdc : decC b = (let h := headC ⟨b, 0⟩; let t := hashC h.2; let e := doneC (numsTo t.2 6).2; let c := cfOf h.1 t.1 (padN t.2 6); if e ≠ 0 then (zCF, e) else if checkC c ≠ 0 then (zCF, checkC c) else (c, 0)) := rfl
  have p1 := read_den b [cfO (cfK H0 Z32 [0, 0, 0, 0, 0, 0])]
  have p2 := headGet_den 1 ⟨b, 0⟩ [cfO (cfK H0 Z32 [0, 0, 0, 0, 0, 0]), curO ⟨b, 0⟩] rfl (by simp [okCu, cfO, curO, up, ltB])
  have hok : HDok (headC ⟨b, 0⟩).1 := getHD_ok _
  have hs1 : (headC ⟨b, 0⟩).2.b.size ≤ b.size := rawC_le _ _
  generalize headC ⟨b, 0⟩ = h at *
  obtain ⟨g, c1⟩ := h
  have p3 := chash_den 1 c1 [cfO (cfK H0 Z32 [0, 0, 0, 0, 0, 0]), curO c1] rfl (by simp [okCu, cfO, curO, up, ltB])
  have hs2 : (hashC c1).2.b.size ≤ c1.b.size := rawC_le _ _
  simp only at *
  generalize hashC c1 = q at *
  obtain ⟨t, c2⟩ := q
  simp only at *
  simp only [List.set_cons_succ, List.set_cons_zero] at p2 p3
  have e1 := cfK_lay0 H0 g Z32 [0, 0, 0, 0, 0, 0]
  have e2 := cfK_lay1 g Z32 t [0, 0, 0, 0, 0, 0]
  have el0 := cfK_len H0 Z32 [0, 0, 0, 0, 0, 0] rfl
  have el1 := cfK_len g Z32 [0, 0, 0, 0, 0, 0] rfl
  have el2 := cfK_len g t [0, 0, 0, 0, 0, 0] rfl
  have gl := hdC_len g
  have tl : (t.1.map bC8).length = 32 := by simp [t.2]
  have p4 := nums_den 2 (cfK g t [0, 0, 0, 0, 0, 0]) el2 [cfO (cfK H0 Z32 [0, 0, 0, 0, 0, 0]), curO c2, cfO (cfK g t [0, 0, 0, 0, 0, 0])] rfl
  unfold hdM at p2
  unfold hashM at p3
  simp only [cfO, numsO, List.length_cons, List.length_nil, List.cons_append, List.nil_append] at p1 p2 p3 p4
  generalize hZ : cfK H0 Z32 [0, 0, 0, 0, 0, 0] = Z at *
  have hnl : (numsL 2).length = 6 := rfl
  have hng := numsL_get 2
  generalize numsL 2 = NL at *
  have hp0 : padN c2 0 = [0, 0, 0, 0, 0, 0] := rfl
  refine den_of Tryz.func6 rfl rfl (by simp [Tryz.ntmps6]) (fun X hX hO => ?_)
  rw [Tryz.ntmps6] at hX
  simp only [Tryz.results6]
  repeat' (first 
   | (with_reducible first | refine awp_scope ?_ | refine awp_seq ?_ | refine awp_block ?_)
   | ((with_reducible first | refine awp_label ?_ | refine awp_skip ?_ | refine awp_exit ?_ | refine hother _ _ rfl ?_); try simp only [thenA, inBlockA, noGotoA, if_true, Nat.reduceEqDiff, if_false, ↓reduceIte])
   | ((with_reducible first | refine awp_reg 42 hX [0, 2, 3, 4, 5, 7, 8, 9, 17, 18, 19, 20, 32, 38] ?_ | change postOf _ _ _ _ _); simp [-List.reduceReplicate, Nat.add_one_le_iff, -getElem?_pos, -getElem?_neg, sC, z0, -Tab.zero29, e1, e2, el0, el1, el2, gl, tl, hnl])
   | ((first | (with_reducible refine awp_ret ?_; try simp only [thenA, inBlockA, noGotoA]) | (refine (p1).det ?_) | (refine (p2).det ?_) | (refine (p3).det ?_) | (refine (p4).det ?_)); try simp [-List.reduceReplicate, Nat.add_one_le_iff, -getElem?_pos, -getElem?_neg, sC, z0, -Tab.zero29, e1, e2, el0, el1, el2, gl, tl, hnl])
   | (with_reducible refine awp_if_b rfl (fun hc => ?_) (fun hc => ?_) <;> (try simp [-getElem?_pos, -getElem?_neg] at hc) <;> (try (exfalso; omega)))
   | (with_reducible refine And.intro (by omega) ?_)
   | fail)
  refine awp_forU [2, 4, 5, 17, 18, 19] (fun k (_u : Unit) => [(19, .c (iC k))]) (fun k (_u : Unit) => [⟨29, 1, false, 0, up Z, none⟩, curO (numsTo c2 k).2, ⟨29, 1, false, 0, up (cfK g t (padN c2 k)), none⟩, ⟨64, 1, false, 0, NL, none⟩]) (fun k (_u : Unit) => True) (6) (()) (by first | trivial | (simp; done) | omega | (intros; simp at *; done)) (by simp [-List.reduceReplicate, keep, iC, hp0, numsTo]) (by simp [-List.reduceReplicate, iC, hp0, numsTo]) ?_
  rintro k _u Q1 hi hH next hother
  conv => arg 5; arg 1; simp only [List.cons_append, List.nil_append, keep, get, Nat.reduceEqDiff, if_true, if_false, ↓reduceIte]
  have hwk := wrap_in ((k : Int) + 1) (by omega)
  by_cases hlt : k < 6
  · have hpl := padN_len c2 k (by omega)
    have hps := padN_set c2 k hlt
    have hks := cfK_set g t (padN c2 k) k ((numC (numsTo c2 k).2 65536).1 : Int)
    have hkl := cfK_len g t (padN c2 k) hpl
    rw [hps] at hks
    have hnn : (numsTo c2 (k + 1)).2 = (numC (numsTo c2 k).2 65536).2 := rfl
    have hsz := numsTo_le c2 k
    have hq := Num_den 1 (numsTo c2 k).2 65536 (by omega) [⟨29, 1, false, 0, up Z, none⟩, curO (numsTo c2 k).2, ⟨29, 1, false, 0, up (cfK g t (padN c2 k)), none⟩, ⟨64, 1, false, 0, NL, none⟩] rfl
    simp only [List.set_cons_succ, List.set_cons_zero] at hq
    have hle := (numC_le (numsTo c2 k).2 65536).1
    have hg := hng k hlt
    rw [hnn.symm] at hq
    generalize (numC (numsTo c2 k).2 65536).1 = x at *
    have hwx := wrapI64 (x : Int) (by omega)
    have h3 : (k : Int) < 6 := by omega
    have h4 : 98 + k < 104 := by omega
    have h5 : (k : Int) ≤ 5 := by omega
    have h6 : k ≤ 5 := by omega
    unfold iC at hks
    generalize numsTo c2 (k + 1) = n2 at *
    generalize numsTo c2 k = n1 at *
    repeat' (first 
     | (with_reducible first | refine awp_scope ?_ | refine awp_seq ?_ | refine awp_block ?_)
     | ((with_reducible first | refine awp_label ?_ | refine awp_skip ?_ | refine awp_exit ?_ | refine hother _ _ rfl ?_); try simp only [thenA, inBlockA, noGotoA, if_true, Nat.reduceEqDiff, if_false, ↓reduceIte])
     | ((with_reducible first | refine awp_reg 42 hX [0, 2, 3, 4, 5, 7, 8, 9, 17, 18, 19, 20, 32, 38] ?_ | change postOf _ _ _ _ _); simp [-List.reduceReplicate, Nat.add_one_le_iff, -getElem?_pos, -getElem?_neg, iC, u64C, hlt, h3, h4, h5, h6, hwk, hwx, hnl, hg, hks, hkl])
     | ((first | (with_reducible refine awp_ret ?_; try simp only [thenA, inBlockA, noGotoA]) | (refine (hq).det ?_)); try simp [-List.reduceReplicate, Nat.add_one_le_iff, -getElem?_pos, -getElem?_neg, iC, u64C, hlt, h3, h4, h5, h6, hwk, hwx, hnl, hg, hks, hkl])
     | (with_reducible refine awp_if_b rfl (fun hc => ?_) (fun hc => ?_) <;> (try simp [-getElem?_pos, -getElem?_neg] at hc) <;> (try (exfalso; omega)))
     | (with_reducible refine And.intro (by omega) ?_)
     | fail)
    refine next _ _ (()) (by omega) (by first | trivial | omega | assumption) (by simp [-List.reduceReplicate, keep, iC]) (by simp [-List.reduceReplicate, iC])
  · obtain rfl : k = 6 := by omega
    have hexit := hother; clear next hother
    have hpl := padN_len c2 6 (by omega)
    have hkl := cfK_len g t (padN c2 6) hpl
    have hkc := cfOf_C g t (padN c2 6) hpl
    have q1 := Done_den 1 (numsTo c2 6).2 [⟨29, 1, false, 0, up Z, none⟩, curO (numsTo c2 6).2, ⟨29, 1, false, 0, up (cfK g t (padN c2 6)), none⟩, ⟨64, 1, false, 0, NL, none⟩] rfl
    have q2 := check_den (cfOf g t (padN c2 6)) hok
    have hzt : Z.take 104 = Z := List.take_of_length_le (by omega)
    have hkt : (cfK g t (padN c2 6)).take 104 = cfK g t (padN c2 6) := List.take_of_length_le (by omega)
    have hzc : cfC zCF = Z := by rw [← hZ]; rfl
    unfold cfM at q2 hexit
    rw [hkc] at q2
    rw [hdc] at hexit
    clear hdc
    generalize doneC (numsTo c2 6).2 = e at *
    generalize checkC (cfOf g t (padN c2 6)) = e2 at *
    generalize hcf : cfOf g t (padN c2 6) = cf at *
    generalize cfK g t (padN c2 6) = K at *
    generalize (numsTo c2 6).2 = n1 at *
    repeat' (first 
     | (with_reducible first | refine awp_scope ?_ | refine awp_seq ?_ | refine awp_block ?_)
     | ((with_reducible first | refine awp_label ?_ | refine awp_skip ?_ | refine awp_exit ?_ | refine hother _ _ rfl ?_); try simp only [thenA, inBlockA, noGotoA, if_true, Nat.reduceEqDiff, if_false, ↓reduceIte])
     | ((with_reducible first | refine awp_reg 42 hX [0, 2, 3, 4, 5, 7, 8, 9, 17, 18, 19, 20, 32, 38] ?_ | change postOf _ _ _ _ _); simp [-List.reduceReplicate, Nat.add_one_le_iff, -getElem?_pos, -getElem?_neg, iC])
     | ((first | (with_reducible refine awp_ret ?_; try simp only [thenA, inBlockA, noGotoA])); try simp [-List.reduceReplicate, Nat.add_one_le_iff, -getElem?_pos, -getElem?_neg, iC])
     | (with_reducible refine awp_if_b rfl (fun hc => ?_) (fun hc => ?_) <;> (try simp [-getElem?_pos, -getElem?_neg] at hc) <;> (try (exfalso; omega)))
     | (with_reducible refine And.intro (by omega) ?_)
     | fail)
    refine hexit _ _ rfl ?_
    simp only [inBlockA, thenA, ↓reduceIte]
    clear hexit
    by_cases h1 : e = 0
    · by_cases h2 : e2 = 0
      · repeat' (first 
         | (with_reducible first | refine awp_scope ?_ | refine awp_seq ?_ | refine awp_block ?_)
         | ((with_reducible first | refine awp_label ?_ | refine awp_skip ?_ | refine awp_exit ?_ | refine hother _ _ rfl ?_); try simp only [thenA, inBlockA, noGotoA, if_true, Nat.reduceEqDiff, if_false, ↓reduceIte])
         | ((with_reducible first | refine awp_reg 42 hX [0, 2, 3, 4, 5, 7, 8, 9, 17, 18, 19, 20, 32, 38] ?_ | change postOf _ _ _ _ _); simp [-List.reduceReplicate, Nat.add_one_le_iff, -getElem?_pos, -getElem?_neg, iC, h1, h2, z0, -Tab.zero29, hzt, hkt, hkl, el0])
         | ((first | (with_reducible refine awp_ret ?_; try simp only [thenA, inBlockA, noGotoA]) | (refine (q1).det ?_) | (refine (q2 _).det ?_)); try simp [-List.reduceReplicate, Nat.add_one_le_iff, -getElem?_pos, -getElem?_neg, iC, h1, h2, z0, -Tab.zero29, hzt, hkt, hkl, el0])
         | (with_reducible refine awp_if_b rfl (fun hc => ?_) (fun hc => ?_) <;> (try simp [-getElem?_pos, -getElem?_neg] at hc) <;> (try (exfalso; omega)))
         | (with_reducible refine And.intro (by omega) ?_)
         | fail)
        all_goals simp [h1, h2, hkc]
      · repeat' (first 
         | (with_reducible first | refine awp_scope ?_ | refine awp_seq ?_ | refine awp_block ?_)
         | ((with_reducible first | refine awp_label ?_ | refine awp_skip ?_ | refine awp_exit ?_ | refine hother _ _ rfl ?_); try simp only [thenA, inBlockA, noGotoA, if_true, Nat.reduceEqDiff, if_false, ↓reduceIte])
         | ((with_reducible first | refine awp_reg 42 hX [0, 2, 3, 4, 5, 7, 8, 9, 17, 18, 19, 20, 32, 38] ?_ | change postOf _ _ _ _ _); simp [-List.reduceReplicate, Nat.add_one_le_iff, -getElem?_pos, -getElem?_neg, iC, h1, h2, z0, -Tab.zero29, hzt, hkt, hkl, el0])
         | ((first | (with_reducible refine awp_ret ?_; try simp only [thenA, inBlockA, noGotoA]) | (refine (q1).det ?_) | (refine (q2 _).det ?_)); try simp [-List.reduceReplicate, Nat.add_one_le_iff, -getElem?_pos, -getElem?_neg, iC, h1, h2, z0, -Tab.zero29, hzt, hkt, hkl, el0])
         | (with_reducible refine awp_if_b rfl (fun hc => ?_) (fun hc => ?_) <;> (try simp [-getElem?_pos, -getElem?_neg] at hc) <;> (try (exfalso; omega)))
         | (with_reducible refine And.intro (by omega) ?_)
         | fail)
        all_goals simp [h1, h2, hzc]
    · repeat' (first 
       | (with_reducible first | refine awp_scope ?_ | refine awp_seq ?_ | refine awp_block ?_)
       | ((with_reducible first | refine awp_label ?_ | refine awp_skip ?_ | refine awp_exit ?_ | refine hother _ _ rfl ?_); try simp only [thenA, inBlockA, noGotoA, if_true, Nat.reduceEqDiff, if_false, ↓reduceIte])
       | ((with_reducible first | refine awp_reg 42 hX [0, 2, 3, 4, 5, 7, 8, 9, 17, 18, 19, 20, 32, 38] ?_ | change postOf _ _ _ _ _); simp [-List.reduceReplicate, Nat.add_one_le_iff, -getElem?_pos, -getElem?_neg, iC, h1, z0, -Tab.zero29, hzt, hkt, hkl, el0])
       | ((first | (with_reducible refine awp_ret ?_; try simp only [thenA, inBlockA, noGotoA]) | (refine (q1).det ?_) | (refine (q2 _).det ?_)); try simp [-List.reduceReplicate, Nat.add_one_le_iff, -getElem?_pos, -getElem?_neg, iC, h1, z0, -Tab.zero29, hzt, hkt, hkl, el0])
       | (with_reducible refine awp_if_b rfl (fun hc => ?_) (fun hc => ?_) <;> (try simp [-getElem?_pos, -getElem?_neg] at hc) <;> (try (exfalso; omega)))
       | (with_reducible refine And.intro (by omega) ?_)
       | fail)
      all_goals simp [h1, hzc]
end Go.Av

set_option exponentiation.threshold 1000
set_option linter.unusedVariables false
set_option linter.unusedSimpArgs false
set_option maxRecDepth 100000
set_option maxHeartbeats 4000000
namespace Go.Av
open Go Go.Proofs Go.Proofs.YtpcnacknlgmmlaaGreat Go.RowKit
attribute [local simp] List.getElem?_cons_zero List.getElem?_cons_succ
/-! ### milepostref52.DecodeConfig -/
attribute [local simp] Tryz.underlying9 Tryz.underlying3 Tryz.underlying4 Tryz.underlying30 Tryz.underlying24 Tryz.underlying27 Tryz.underlying29 Tryz.underlying73
def cO8 (c : Cu) : Ob := ⟨68, 2, false, 0, up (cuC c), none⟩
theorem decode52_den (b : ByteArray) (hb : b.size ≤ 9223372036854775807) : DenV Tryz.prog 7 [.c (sC b)] (.tup [cfM (decC b).1, .c (iC (decC b).2)]) := by
  refine Den.frame rfl (by simp [cfM, ltB, ltBs]) ?_
  have z0 : zeroT Tryz.prog 29 = some (up (cfK H0 Z32 [0, 0, 0, 0, 0, 0])) := by kernel_rfl
  have z1 : zeroT Tryz.prog 27 = some (up (hdC H0)) := by kernel_rfl
  have hdc : decC b = (let h := headC ⟨b, 0⟩; let t := hashC h.2; let e := doneC (numsTo t.2 6).2; let c := cfOf h.1 t.1 (padN t.2 6); if e ≠ 0 then (zCF, e) else if checkC c ≠ 0 then (zCF, checkC c) else (c, 0)) := rfl
  have p2 := get17_den ⟨b, 0⟩
  have hok : HDok (headC ⟨b, 0⟩).1 := getHD_ok _
  have hs1 : (headC ⟨b, 0⟩).2.b.size ≤ b.size := rawC_le _ _
  generalize headC ⟨b, 0⟩ = h at *
  obtain ⟨g, c1⟩ := h
  have p3 := hash08_den c1
  have hs2 : (hashC c1).2.b.size ≤ c1.b.size := rawC_le _ _
  simp only at *
  generalize hashC c1 = q at *
  obtain ⟨t, c2⟩ := q
  simp only at *
  have e1 := fun l => cfK_lay0 H0 g Z32 l
  have e2 := fun l => cfK_lay1 g Z32 t l
  have el0 := cfK_len H0 Z32 [0, 0, 0, 0, 0, 0] rfl
  have gl := hdC_len g
  have gt : (hdC g).take 66 = hdC g := List.take_of_length_le (by omega)
  have zl := hdC_len H0
  have tl : (t.1.map bC8).length = 32 := by simp [t.2]
  have tt : (t.1.map bC8).take 32 = t.1.map bC8 := hash_take _ t.2
  unfold hdM at p2
  unfold hashM at p3
  generalize hZ : cfK H0 Z32 [0, 0, 0, 0, 0, 0] = Z at *
  generalize hdC H0 = Zh at *
  generalize hG : hdC g = G at *
  generalize t.1.map bC8 = T at *
  refine den_of Tryz.func7 rfl rfl (by simp [Tryz.ntmps7]) (fun X hX hO => ?_)
  rw [Tryz.ntmps7] at hX
  simp only [Tryz.results7]
  repeat' (first 
   | (with_reducible first | refine awp_scope ?_ | refine awp_seq ?_ | refine awp_block ?_)
   | ((with_reducible first | refine awp_label ?_ | refine awp_skip ?_ | refine awp_exit ?_ | refine hother _ _ rfl ?_); try simp only [thenA, inBlockA, noGotoA, if_true, Nat.reduceEqDiff, if_false, ↓reduceIte])
   | ((with_reducible first | refine awp_reg 74 hX [0, 2, 3, 4, 5, 6, 7, 8, 9, 10, 11, 12, 26, 43, 70] ?_ | refine awp_drw 74 hX [0, 2, 3, 4, 5, 6, 7, 8, 9, 10, 11, 12, 26, 43, 70] Tab.mixed (by kernel_rfl) ?_ | refine DEv_cut _ _ _ _ _ _ _ _ _ _ _ _ (by kernel_rfl) ?_ | change postOf _ _ _ _ _); simp [-List.reduceReplicate, Nat.add_one_le_iff, -getElem?_pos, -getElem?_neg, sC, z0, z1, -Tab.zero29, -Tab.zero27, el0, gl, tl, zl, gt, tt, cuM, cuC, iC])
   | ((first | (with_reducible refine awp_ret ?_; try simp only [thenA, inBlockA, noGotoA]) | (refine (p2 _).det ?_) | (refine ⟨_, _, p2 _, fun _ => rfl, ?_⟩) | (refine (p3 _).det ?_) | (refine ⟨_, _, p3 _, fun _ => rfl, ?_⟩)); try simp [-List.reduceReplicate, Nat.add_one_le_iff, -getElem?_pos, -getElem?_neg, sC, z0, z1, -Tab.zero29, -Tab.zero27, el0, gl, tl, zl, gt, tt, cuM, cuC, iC])
   | (with_reducible refine awp_if_b rfl (fun hc => ?_) (fun hc => ?_) <;> (try simp [-getElem?_pos, -getElem?_neg] at hc) <;> (try (exfalso; omega)))
   | (with_reducible refine And.intro (by omega) ?_)
   | fail)
  have hp0 : (padN c2 0).map iC = List.replicate 6 (C.v (Value.int .i64 0)) := rfl
  have hn0 : (numsTo c2 0).2 = c2 := rfl
  refine awp_forU [2, 4, 5, 6, 7, 8, 9] (fun k (gr : List Ob) => [(9, .c (iC k))]) (fun k (gr : List Ob) => ⟨29, 1, false, 0, up Z, none⟩ :: ⟨29, 1, false, 0, up Z, none⟩ :: ⟨27, 1, false, 0, up G, none⟩ :: cO8 (numsTo c2 k).2 :: ⟨24, 1, false, 0, up T, none⟩ :: ⟨3, 1, false, 0, up ((padN c2 k).map iC), none⟩ :: gr) (fun k (gr : List Ob) => True) (6) ([]) (by first | trivial | (simp; done) | omega | (intros; simp at *; done)) (by simp [-List.reduceReplicate, keep, iC, hp0, hn0, cO8, cuC]) (by simp [-List.reduceReplicate, iC, hp0, hn0, cO8, cuC]) ?_
  rintro k gr Q1 hi hH next hother
  conv => arg 5; arg 1; simp only [List.cons_append, List.nil_append, keep, get, Nat.reduceEqDiff, if_true, if_false, ↓reduceIte]
  have hwk := wrap_in ((k : Int) + 1) (by omega)
  by_cases hlt : k < 6
  · have hpl := padN_len c2 k (by omega)
    have hps := padN_set c2 k hlt
    have hpu : ((padN c2 k).map iC).set k (iC ((numC (numsTo c2 k).2 65536).1 : Int)) = (padN c2 (k + 1)).map iC := by rw [← hps, List.map_set]
    have hml : ((padN c2 k).map iC).length = 6 := by simp [hpl]
    have hnn : (numsTo c2 (k + 1)).2 = (numC (numsTo c2 k).2 65536).2 := rfl
    have hsz := numsTo_le c2 k
    have hq := num08_den (numsTo c2 k).2 65536 (by omega)
    have hle := (numC_le (numsTo c2 k).2 65536).1
    rw [hnn.symm] at hq
    generalize (numC (numsTo c2 k).2 65536).1 = x at *
    have hwx := wrapI64 (x : Int) (by omega)
    have h3 : (k : Int) < 6 := by omega
    have h5 : (k : Int) ≤ 5 := by omega
    have h6 : k ≤ 5 := by omega
    generalize hM1 : (padN c2 (k + 1)).map iC = M1 at *
    generalize hM0 : (padN c2 k).map iC = M0 at *
    unfold iC at hpu
    generalize numsTo c2 (k + 1) = n2 at *
    generalize numsTo c2 k = n1 at *
    repeat' (first 
     | (with_reducible first | refine awp_scope ?_ | refine awp_seq ?_ | refine awp_block ?_)
     | ((with_reducible first | refine awp_label ?_ | refine awp_skip ?_ | refine awp_exit ?_ | refine hother _ _ rfl ?_); try simp only [thenA, inBlockA, noGotoA, if_true, Nat.reduceEqDiff, if_false, ↓reduceIte])
     | ((with_reducible first | refine awp_reg 74 hX [0, 2, 3, 4, 5, 6, 7, 8, 9, 10, 11, 12, 26, 43, 70] ?_ | refine awp_drw 74 hX [0, 2, 3, 4, 5, 6, 7, 8, 9, 10, 11, 12, 26, 43, 70] Tab.mixed (by kernel_rfl) ?_ | refine DEv_cut _ _ _ _ _ _ _ _ _ _ _ _ (by kernel_rfl) ?_ | change postOf _ _ _ _ _); simp [-List.reduceReplicate, Nat.add_one_le_iff, -getElem?_pos, -getElem?_neg, iC, u64C, cuM, cuC, cO8, hlt, h3, h5, h6, hwk, hwx, hml, hpu])
     | ((first | (with_reducible refine awp_ret ?_; try simp only [thenA, inBlockA, noGotoA]) | (refine (hq _).det ?_) | (refine ⟨_, _, hq _, fun _ => rfl, ?_⟩)); try simp [-List.reduceReplicate, Nat.add_one_le_iff, -getElem?_pos, -getElem?_neg, iC, u64C, cuM, cuC, cO8, hlt, h3, h5, h6, hwk, hwx, hml, hpu])
     | (with_reducible refine awp_if_b rfl (fun hc => ?_) (fun hc => ?_) <;> (try simp [-getElem?_pos, -getElem?_neg] at hc) <;> (try (exfalso; omega)))
     | (with_reducible refine And.intro (by omega) ?_)
     | fail)
    refine next _ _ (gr ++ [cO8 n2.2]) (by omega) (by first | trivial | omega | assumption) (by simp [-List.reduceReplicate, keep, iC, cO8, cuC, hpu]) (by simp [-List.reduceReplicate, iC, cO8, cuC, hpu])
  · obtain rfl : k = 6 := by omega
    have hexit := hother; clear next hother
    have hpl := padN_len c2 6 (by omega)
    have hkl := cfK_len g t (padN c2 6) hpl
    have hkc := cfOf_C g t (padN c2 6) hpl
    have q1 := done08_den (numsTo c2 6).2
    have q2 := check52_den (cfOf g t (padN c2 6)) hok
    have hzt : Z.take 104 = Z := List.take_of_length_le (by omega)
    have hkt : (cfK g t (padN c2 6)).take 104 = cfK g t (padN c2 6) := List.take_of_length_le (by omega)
    have hzc : cfC zCF = Z := by rw [← hZ]; rfl
    unfold cfM at q2 hexit
    rw [hkc] at q2
    rw [hdc] at hexit
    clear hdc
    obtain ⟨a0, a1, a2, a3, a4, a5, hL⟩ : ∃ a0 a1 a2 a3 a4 a5, padN c2 6 = [a0, a1, a2, a3, a4, a5] := by
      match hm : padN c2 6, hpl with
      | [a0, a1, a2, a3, a4, a5], _ => exact ⟨_, _, _, _, _, _, rfl⟩
    rw [hL] at hexit hkl hkc q2 hkt ⊢
    have s0 := cfK_set g t [0, 0, 0, 0, 0, 0] 0 a0
    have s1 := cfK_set g t [a0, 0, 0, 0, 0, 0] 1 a1
    have s2 := cfK_set g t [a0, a1, 0, 0, 0, 0] 2 a2
    have s3 := cfK_set g t [a0, a1, a2, 0, 0, 0] 3 a3
    have s4 := cfK_set g t [a0, a1, a2, a3, 0, 0] 4 a4
    have s5 := cfK_set g t [a0, a1, a2, a3, a4, 0] 5 a5
    have l0 := cfK_len g t [0, 0, 0, 0, 0, 0] rfl
    have l1 := cfK_len g t [a0, 0, 0, 0, 0, 0] rfl
    have l2 := cfK_len g t [a0, a1, 0, 0, 0, 0] rfl
    have l3 := cfK_len g t [a0, a1, a2, 0, 0, 0] rfl
    have l4 := cfK_len g t [a0, a1, a2, a3, 0, 0] rfl
    have l5 := cfK_len g t [a0, a1, a2, a3, a4, 0] rfl
    have l6 := cfK_len g Z32 [0, 0, 0, 0, 0, 0] rfl
    have f1 := e1 [0, 0, 0, 0, 0, 0]
    have f2 := e2 [0, 0, 0, 0, 0, 0]
    rw [hZ] at f1
    clear e1 e2
    simp only [List.set_cons_succ, List.set_cons_zero, iC, Nat.reduceAdd] at s0 s1 s2 s3 s4 s5
    generalize doneC (numsTo c2 6).2 = e at *
    generalize checkC (cfOf g t [a0, a1, a2, a3, a4, a5]) = e2 at *
    generalize hcf : cfOf g t [a0, a1, a2, a3, a4, a5] = cf at *
    generalize cfK g t [a0, a1, a2, a3, a4, a5] = K at *
    generalize (numsTo c2 6).2 = n1 at *
    repeat' (first 
     | (with_reducible first | refine awp_scope ?_ | refine awp_seq ?_ | refine awp_block ?_)
     | ((with_reducible first | refine awp_label ?_ | refine awp_skip ?_ | refine awp_exit ?_ | refine hother _ _ rfl ?_); try simp only [thenA, inBlockA, noGotoA, if_true, Nat.reduceEqDiff, if_false, ↓reduceIte])
     | ((with_reducible first | refine awp_reg 74 hX [0, 2, 3, 4, 5, 6, 7, 8, 9, 10, 11, 12, 26, 43, 70] ?_ | refine awp_drw 74 hX [0, 2, 3, 4, 5, 6, 7, 8, 9, 10, 11, 12, 26, 43, 70] Tab.mixed (by kernel_rfl) ?_ | refine DEv_cut _ _ _ _ _ _ _ _ _ _ _ _ (by kernel_rfl) ?_ | change postOf _ _ _ _ _); simp [-List.reduceReplicate, Nat.add_one_le_iff, -getElem?_pos, -getElem?_neg, iC])
     | ((first | (with_reducible refine awp_ret ?_; try simp only [thenA, inBlockA, noGotoA])); try simp [-List.reduceReplicate, Nat.add_one_le_iff, -getElem?_pos, -getElem?_neg, iC])
     | (with_reducible refine awp_if_b rfl (fun hc => ?_) (fun hc => ?_) <;> (try simp [-getElem?_pos, -getElem?_neg] at hc) <;> (try (exfalso; omega)))
     | (with_reducible refine And.intro (by omega) ?_)
     | fail)
    refine hexit _ _ rfl ?_
    simp only [inBlockA, thenA, ↓reduceIte]
    clear hexit
    by_cases h1 : e = 0
    · by_cases h2 : e2 = 0
      · repeat' (first 
         | (with_reducible first | refine awp_scope ?_ | refine awp_seq ?_ | refine awp_block ?_)
         | ((with_reducible first | refine awp_label ?_ | refine awp_skip ?_ | refine awp_exit ?_ | refine hother _ _ rfl ?_); try simp only [thenA, inBlockA, noGotoA, if_true, Nat.reduceEqDiff, if_false, ↓reduceIte])
         | ((with_reducible first | refine awp_reg 74 hX [0, 2, 3, 4, 5, 6, 7, 8, 9, 10, 11, 12, 26, 43, 70] ?_ | refine awp_drw 74 hX [0, 2, 3, 4, 5, 6, 7, 8, 9, 10, 11, 12, 26, 43, 70] Tab.mixed (by kernel_rfl) ?_ | refine DEv_cut _ _ _ _ _ _ _ _ _ _ _ _ (by kernel_rfl) ?_ | change postOf _ _ _ _ _); simp [-List.reduceReplicate, Nat.add_one_le_iff, -getElem?_pos, -getElem?_neg, iC, cO8, cuC, cuM, h1, h2, z0, -Tab.zero29, hzt, hkt, hkl, el0, gl, gt, tl, tt, f1, f2, s0, s1, s2, s3, s4, s5, l0, l1, l2, l3, l4, l5, l6])
         | ((first | (with_reducible refine awp_ret ?_; try simp only [thenA, inBlockA, noGotoA]) | (refine (q1 _).det ?_) | (refine ⟨_, _, q1 _, fun _ => rfl, ?_⟩) | (refine (q2 _).det ?_) | (refine ⟨_, _, q2 _, fun _ => rfl, ?_⟩)); try simp [-List.reduceReplicate, Nat.add_one_le_iff, -getElem?_pos, -getElem?_neg, iC, cO8, cuC, cuM, h1, h2, z0, -Tab.zero29, hzt, hkt, hkl, el0, gl, gt, tl, tt, f1, f2, s0, s1, s2, s3, s4, s5, l0, l1, l2, l3, l4, l5, l6])
         | (with_reducible refine awp_if_b rfl (fun hc => ?_) (fun hc => ?_) <;> (try simp [-getElem?_pos, -getElem?_neg] at hc) <;> (try (exfalso; omega)))
         | (with_reducible refine And.intro (by omega) ?_)
         | fail)
        all_goals (try simp [h1, h2, hkc])
      · repeat' (first 
         | (with_reducible first | refine awp_scope ?_ | refine awp_seq ?_ | refine awp_block ?_)
         | ((with_reducible first | refine awp_label ?_ | refine awp_skip ?_ | refine awp_exit ?_ | refine hother _ _ rfl ?_); try simp only [thenA, inBlockA, noGotoA, if_true, Nat.reduceEqDiff, if_false, ↓reduceIte])
         | ((with_reducible first | refine awp_reg 74 hX [0, 2, 3, 4, 5, 6, 7, 8, 9, 10, 11, 12, 26, 43, 70] ?_ | refine awp_drw 74 hX [0, 2, 3, 4, 5, 6, 7, 8, 9, 10, 11, 12, 26, 43, 70] Tab.mixed (by kernel_rfl) ?_ | refine DEv_cut _ _ _ _ _ _ _ _ _ _ _ _ (by kernel_rfl) ?_ | change postOf _ _ _ _ _); simp [-List.reduceReplicate, Nat.add_one_le_iff, -getElem?_pos, -getElem?_neg, iC, cO8, cuC, cuM, h1, h2, z0, -Tab.zero29, hzt, hkt, hkl, el0, gl, gt, tl, tt, f1, f2, s0, s1, s2, s3, s4, s5, l0, l1, l2, l3, l4, l5, l6])
         | ((first | (with_reducible refine awp_ret ?_; try simp only [thenA, inBlockA, noGotoA]) | (refine (q1 _).det ?_) | (refine ⟨_, _, q1 _, fun _ => rfl, ?_⟩) | (refine (q2 _).det ?_) | (refine ⟨_, _, q2 _, fun _ => rfl, ?_⟩)); try simp [-List.reduceReplicate, Nat.add_one_le_iff, -getElem?_pos, -getElem?_neg, iC, cO8, cuC, cuM, h1, h2, z0, -Tab.zero29, hzt, hkt, hkl, el0, gl, gt, tl, tt, f1, f2, s0, s1, s2, s3, s4, s5, l0, l1, l2, l3, l4, l5, l6])
         | (with_reducible refine awp_if_b rfl (fun hc => ?_) (fun hc => ?_) <;> (try simp [-getElem?_pos, -getElem?_neg] at hc) <;> (try (exfalso; omega)))
         | (with_reducible refine And.intro (by omega) ?_)
         | fail)
        all_goals (try simp [h1, h2, hzc])
    · repeat' (first 
       | (with_reducible first | refine awp_scope ?_ | refine awp_seq ?_ | refine awp_block ?_)
       | ((with_reducible first | refine awp_label ?_ | refine awp_skip ?_ | refine awp_exit ?_ | refine hother _ _ rfl ?_); try simp only [thenA, inBlockA, noGotoA, if_true, Nat.reduceEqDiff, if_false, ↓reduceIte])
       | ((with_reducible first | refine awp_reg 74 hX [0, 2, 3, 4, 5, 6, 7, 8, 9, 10, 11, 12, 26, 43, 70] ?_ | refine awp_drw 74 hX [0, 2, 3, 4, 5, 6, 7, 8, 9, 10, 11, 12, 26, 43, 70] Tab.mixed (by kernel_rfl) ?_ | refine DEv_cut _ _ _ _ _ _ _ _ _ _ _ _ (by kernel_rfl) ?_ | change postOf _ _ _ _ _); simp [-List.reduceReplicate, Nat.add_one_le_iff, -getElem?_pos, -getElem?_neg, iC, cO8, cuC, cuM, h1, z0, -Tab.zero29, hzt, hkt, hkl, el0])
       | ((first | (with_reducible refine awp_ret ?_; try simp only [thenA, inBlockA, noGotoA]) | (refine (q1 _).det ?_) | (refine ⟨_, _, q1 _, fun _ => rfl, ?_⟩) | (refine (q2 _).det ?_) | (refine ⟨_, _, q2 _, fun _ => rfl, ?_⟩)); try simp [-List.reduceReplicate, Nat.add_one_le_iff, -getElem?_pos, -getElem?_neg, iC, cO8, cuC, cuM, h1, z0, -Tab.zero29, hzt, hkt, hkl, el0])
       | (with_reducible refine awp_if_b rfl (fun hc => ?_) (fun hc => ?_) <;> (try simp [-getElem?_pos, -getElem?_neg] at hc) <;> (try (exfalso; omega)))
       | (with_reducible refine And.intro (by omega) ?_)
       | fail)
      all_goals (try simp [h1, hzc])
end Go.Av

set_option exponentiation.threshold 1000
set_option linter.unusedVariables false
set_option linter.unusedSimpArgs false
set_option maxRecDepth 100000
set_option maxHeartbeats 4000000
namespace Go.Av
open Go Go.Proofs Go.Proofs.YtpcnacknlgmmlaaGreat Go.RowKit
attribute [local simp] List.getElem?_cons_zero List.getElem?_cons_succ
/-! ### headers apart -/
theorem eqM_app : ∀ {ks : List Nat} {xs ys : List M} {u v : Bool} {ks' : List Nat} {xs' ys' : List M}, eqM ks xs ys = some u → eqM ks' xs' ys' = some v → eqM (ks ++ ks') (xs ++ xs') (ys ++ ys') = some (u && v)
  | [], [], [], u, v, ks', xs', ys', h, h' => by
    obtain rfl : true = u := by simpa [eqM] using h
    simpa using h'
  | [], [], _ :: _, u, v, ks', xs', ys', h, h' => by simp [eqM] at h
  | [], _ :: _, _, u, v, ks', xs', ys', h, h' => by simp [eqM] at h
  | k :: ks, [], _, u, v, ks', xs', ys', h, h' => by simp [eqM] at h
  | k :: ks, _ :: _, [], u, v, ks', xs', ys', h, h' => by simp [eqM] at h
  | k :: ks, x :: xs, y :: ys, u, v, ks', xs', ys', h, h' => by
    simp only [eqM] at h
    split at h
    · rename_i a b h1 h2
      obtain rfl := Option.some.inj h
      simp only [List.cons_append, eqM, h1, eqM_app h2 h', Bool.and_assoc]
    · simp at h
theorem HD.ext' (a b : HD) : a = b ↔ a.v = b.v ∧ a.a.1 = b.a.1 ∧ a.b.1 = b.b.1 ∧ a.n = b.n := by
  obtain ⟨v, ⟨x, hx⟩, ⟨y, hy⟩, n⟩ := a
  obtain ⟨v', ⟨x', hx'⟩, ⟨y', hy'⟩, n'⟩ := b
  simp
instance : DecidableEq HD := fun a b => decidable_of_iff _ (HD.ext' a b).symm
theorem eq_header (a b : HD) : eqM (List.replicate 66 0) (up (hdC a)) (up (hdC b)) = some (decide (a = b)) := by
  have h1 : eqM [0] [M.c (u32v a.v)] [M.c (u32v b.v)] = some (decide (a.v = b.v)) := by
    simp [eqM, eqLeaf, u32v]; omega
  have h2 := eq_hash a.a.1 b.a.1 a.a.2 b.a.2
  have h3 := eq_hash a.b.1 b.b.1 a.b.2 b.b.2
  have h4 : eqM [0] [M.c (u64C a.n)] [M.c (u64C b.n)] = some (decide (a.n = b.n)) := by
    simp [eqM, eqLeaf, u64C]; omega
  have h := eqM_app h1 (eqM_app h2 (eqM_app h3 h4))
  have e : ∀ x : HD, up (hdC x) = [M.c (u32v x.v)] ++ (up (x.a.1.map bC8) ++ (up (x.b.1.map bC8) ++ [M.c (u64C x.n)])) := fun x => by simp [up, hdC]
  rw [e a, e b, show List.replicate 66 0 = [0] ++ (List.replicate 32 0 ++ (List.replicate 32 0 ++ [0])) by rfl, h]
  congr 1
  have := HD.ext' a b
  by_cases q : a = b
  · subst q; simp
  · rw [decide_eq_false q]
    rw [this] at q
    simp only [not_and] at q
    by_cases q1 : a.v = b.v <;> by_cases q2 : a.a.1 = b.a.1 <;> by_cases q3 : a.b.1 = b.b.1 <;> by_cases q4 : a.n = b.n <;> simp_all
end Go.Av

set_option exponentiation.threshold 1000
set_option linter.unusedVariables false
set_option linter.unusedSimpArgs false
set_option maxRecDepth 100000
set_option maxHeartbeats 4000000
namespace Go.Av
open Go Go.Proofs Go.Proofs.YtpcnacknlgmmlaaGreat Go.RowKit
attribute [local simp] List.getElem?_cons_zero List.getElem?_cons_succ
/-! ### ConfigDecodes -/
attribute [local simp] Tryz.underlying9 Tryz.underlying3 Tryz.underlying4 Tryz.underlying30 Tryz.underlying29
theorem eq_cf_refl (c : CF) : eqM (List.replicate 104 0) (up (cfC c)) (up (cfC c)) = some true := by
  have h1 := eq_header c.g c.g
  have h2 := eq_hash c.t.1 c.t.1 c.t.2 c.t.2
  have h3 := eqM_ints (k := .i64) 6 [c.m, c.k, c.a, c.b, c.mb, c.mp] [c.m, c.k, c.a, c.b, c.mb, c.mp] rfl rfl
  have h := eqM_app h1 (eqM_app h2 h3)
  simp only [decide_true, Bool.and_self] at h
  rw [show (104 : Nat) = 66 + (32 + 6) from rfl, ← List.replicate_append_replicate, ← List.replicate_append_replicate, ← h]
  congr 1 <;> simp [cfC, up, iC]
theorem check_zero : checkC zCF = 7 := by
  have h : zCF.g.a.1 ≠ rootNil := by
    show List.replicate 32 0 ≠ shaL (bsS (rootT 0 z32))
    decide +kernel
  have : anchC zCF = true := by unfold anchC; simp [h]
  simp [checkC, this]
theorem dec_empty : decC e0 = (zCF, 1) := rfl
theorem awake52_den : DenV Tryz.prog 8 [] (.c (bC true)) := by
  refine Den.frame rfl rfl ?_
  have z0 : zeroT Tryz.prog 29 = some (up (cfC zCF)) := by kernel_rfl
  have p1 := decode_den e0 (by simp only [e0]; exact Nat.zero_le _)
  rw [dec_empty] at p1
  have p2 := check_den zCF ⟨by decide, by decide⟩
  rw [check_zero] at p2
  have hl := cfC_len zCF
  unfold cfM at p1 p2
  generalize cfC zCF = Z at *
  refine den_of Tryz.func8 rfl rfl (by simp [Tryz.ntmps8]) (fun X hX hO => ?_)
  rw [Tryz.ntmps8] at hX
  simp only [Tryz.results8]
  repeat' (first 
   | (with_reducible first | refine awp_scope ?_ | refine awp_seq ?_ | refine awp_block ?_)
   | ((with_reducible first | refine awp_label ?_ | refine awp_skip ?_ | refine awp_exit ?_); try simp only [thenA, inBlockA, noGotoA, if_true, Nat.reduceEqDiff, if_false, ↓reduceIte])
   | ((with_reducible first | refine awp_reg 14 hX [0, 2] ?_ | change postOf _ _ _ _ _); simp [-List.reduceReplicate, Nat.add_one_le_iff, -getElem?_pos, -getElem?_neg, iC, bC, sC, z0, -Tab.zero29, hl, mk_e0, mk_e1])
   | ((first | (with_reducible refine awp_ret ?_; try simp only [thenA, inBlockA, noGotoA]) | (refine (p1 _).det ?_) | (refine (p2 _).det ?_)); try simp [-List.reduceReplicate, Nat.add_one_le_iff, -getElem?_pos, -getElem?_neg, iC, bC, sC, z0, -Tab.zero29, hl, mk_e0, mk_e1])
   | (with_reducible refine awp_if_b rfl (fun hc => ?_) (fun hc => ?_) <;> (try simp [-getElem?_pos, -getElem?_neg] at hc) <;> (try (exfalso; omega)))
   | ((with_reducible first | refine GuardK_b (fun hc => ?_) (fun hc => ?_)) <;> (try simp only [Bool.not_eq_true', Bool.not_eq_false', decide_eq_true_eq, decide_eq_false_iff_not] at hc) <;> (first | (exfalso; omega) | skip) <;> simp [-List.reduceReplicate, Nat.add_one_le_iff, -getElem?_pos, -getElem?_neg, iC, bC, sC, z0, -Tab.zero29, hl, mk_e0, mk_e1, hc])
   | (with_reducible refine And.intro (by omega) ?_)
   | fail)
theorem configDecodes_den (b : ByteArray) (hb : b.size ≤ 9223372036854775807) : DenV Tryz.prog 3 [.c (sC b)] (.c (bC true)) := by
  refine Den.frame rfl rfl ?_
  have z0 : zeroT Tryz.prog 29 = some (up (cfC zCF)) := by kernel_rfl
  have p1 := decode_den b hb
  have p2 := decode52_den b hb
  have hl := cfC_len (decC b).1
  have ht : (cfC (decC b).1).take 104 = cfC (decC b).1 := List.take_of_length_le (by omega)
  have he := eq_cf_refl (decC b).1
  have hlz := cfC_len zCF
  have aw := awake52_den
  unfold cfM at p1 p2
  generalize cfC (decC b).1 = K at *
  generalize (decC b).2 = e at *
  generalize cfC zCF = Z at *
  refine den_of Tryz.func3 rfl rfl (by simp [Tryz.ntmps3]) (fun X hX hO => ?_)
  rw [Tryz.ntmps3] at hX
  simp only [Tryz.results3]
  repeat' (first 
   | (with_reducible first | refine awp_scope ?_ | refine awp_seq ?_ | refine awp_block ?_)
   | ((with_reducible first | refine awp_label ?_ | refine awp_skip ?_ | refine awp_exit ?_); try simp only [thenA, inBlockA, noGotoA, if_true, Nat.reduceEqDiff, if_false, ↓reduceIte])
   | ((with_reducible first | refine awp_reg 28 hX [0, 2, 3, 4, 5, 6] ?_ | change postOf _ _ _ _ _); simp [-List.reduceReplicate, Nat.add_one_le_iff, -getElem?_pos, -getElem?_neg, iC, bC, sC, z0, -Tab.zero29, hl, hlz, ht, he])
   | ((first | (with_reducible refine awp_ret ?_; try simp only [thenA, inBlockA, noGotoA]) | (refine (p1 _).det ?_) | (refine (p2 _).det ?_) | (refine (aw _).det ?_)); try simp [-List.reduceReplicate, Nat.add_one_le_iff, -getElem?_pos, -getElem?_neg, iC, bC, sC, z0, -Tab.zero29, hl, hlz, ht, he])
   | (with_reducible refine awp_if_b rfl (fun hc => ?_) (fun hc => ?_) <;> (try simp [-getElem?_pos, -getElem?_neg] at hc) <;> (try (exfalso; omega)))
   | ((with_reducible first | refine GuardK_b (fun hc => ?_) (fun hc => ?_)) <;> (try simp only [Bool.not_eq_true', Bool.not_eq_false', decide_eq_true_eq, decide_eq_false_iff_not] at hc) <;> (first | (exfalso; omega) | skip) <;> simp [-List.reduceReplicate, Nat.add_one_le_iff, -getElem?_pos, -getElem?_neg, iC, bC, sC, z0, -Tab.zero29, hl, hlz, ht, he, hc])
   | (with_reducible refine And.intro (by omega) ?_)
   | fail)
end Go.Av
