/-
 Walks of the functions. Printed by gen.py.
-/
import Derived.Test.YtdcmmhjhffcnhaaGreatWalkA2
set_option linter.unusedVariables false
set_option maxRecDepth 100000
namespace Go.Proofs.YtdcmmhjhffcnhaaGreat
open Go Go.Fk Go.RowKit

theorem ok_spec_l1In (F : Nat) {w : World} {K : KMap} {p0_n : Int} {p1_low : Int} {p2_high : Int} {r : Bool} (hS : SH w K [] w K []) (hr1 : rng64 p0_n) (hr2 : rng64 p1_low) (hr3 : rng64 p2_high) (hm : M.spec_l1In F p0_n p1_low p2_high = some r) :
  Calls Tryz.prog 112 #[.int .i64 p0_n, .int .i64 p1_low, .int .i64 p2_high] w fun e w' => ∃ (K' : KMap), e = .returned (.bool r) ∧ SH w K [] w' K' [] := by
 rw [M.spec_l1In] at hm
 refine calls_in Tryz.func112 rfl Tryz.ntmps112 rfl ?_
 refine sr ?_
 refine wl_val wn rfl (rv_assign (v := .bool false) rfl) ?_
 refine nr ?_
 refine vm rfl rfl ?_
 refine vm rfl rfl ?_
 refine wl_val wn rfl (rv_geq rfl rfl) ?_
 refine vm rfl rfl ?_
 rcases bool_tf (decide (p1_low ≤ p0_n)) with hb4 | hb4
 ·have h5 := cond_t hb4 hm
  refine wl_val (wg rfl rfl hb4) rfl (rv_move rfl) ?_
  refine wl_val (wg rfl rfl hb4) rfl (rv_move rfl) ?_
  refine wl_val (wg rfl rfl hb4) rfl (rv_leq rfl rfl) ?_
  refine wl_val wn rfl (rv_pick_t rfl hb4 rfl) ?_
  refine va rfl rfl ?_
  refine nq ?_
  refine wc_ret ?_
  obtain rfl := oi h5
  exact qe_ret (vs := [_]) Tryz.results112 ⟨rfl, trivial⟩ ⟨K, rfl, hS⟩
 ·have h5 := cond_f hb4 hm
  refine wl_un (ug rfl rfl hb4) rfl ?_
  refine wl_un (ug rfl rfl hb4) rfl ?_
  refine wl_un (ug rfl rfl hb4) rfl ?_
  refine wl_val wn rfl (rv_pick_f (v := .bool false) rfl hb4 rfl) ?_
  refine va rfl rfl ?_
  refine nq ?_
  refine wc_ret ?_
  obtain rfl := oi h5
  exact qe_ret (vs := [_]) Tryz.results112 ⟨rfl, trivial⟩ ⟨K, rfl, hS⟩

set_option maxHeartbeats 2000000 in
theorem ok_spec_l1Fold (F : Nat) {w : World} {K : KMap} {p0_b : UInt8} {r : UInt8} (hS : SH w K [] w K []) (hm : M.spec_l1Fold F p0_b = some r) :
  Calls Tryz.prog 144 #[iv8 p0_b] w fun e w' => ∃ (K' : KMap), e = .returned (iv8 r) ∧ SH w K [] w' K' [] := by
 rw [M.spec_l1Fold] at hm
 refine calls_in Tryz.func144 rfl Tryz.ntmps144 rfl ?_
 refine sr ?_
 refine wl_val wn rfl (rv_assign (v := iv8 0) rfl) ?_
 refine ns ?_
 refine wc_block ?_
 refine wc_seq ?_
 obtain ⟨o1, h2, h3⟩ := ob hm
 refine wc_cutg (fun E' w' => ∃ (K4 : KMap), E' = [(0, iv8 p0_b), (3, .bool o1)] ∧ SH w K [] w' K4 [] ∧ KLe K K4) ?_ ?_
 ·refine wc_region ?_
  refine vm rfl rfl ?_
  refine wl_val wn rfl (rv_bge (b := (65 : UInt8)) rfl rfl) ?_
  refine vm rfl rfl ?_
  rcases bool_tf (decide ((65 : UInt8) ≤ p0_b)) with hb8 | hb8
  ·have h9 := cond_t hb8 h2
   refine wl_val (wg rfl rfl hb8) rfl (rv_move rfl) ?_
   refine wl_val (wg rfl rfl hb8) rfl (rv_ble (b := (90 : UInt8)) rfl rfl) ?_
   refine wl_val wn rfl (rv_pick_t rfl hb8 rfl) ?_
   refine va rfl rfl ?_
   refine wl_nil ?_
   obtain rfl := oi h9
   exact qe_mid' ⟨K, rfl, hS, (KLe.refl _)⟩ ⟨rfl, rfl, trivial⟩
  ·have h9 := cond_f hb8 h2
   refine wl_un (ug rfl rfl hb8) rfl ?_
   refine wl_un (ug rfl rfl hb8) rfl ?_
   refine wl_val wn rfl (rv_pick_f (v := .bool false) rfl hb8 rfl) ?_
   refine va rfl rfl ?_
   refine wl_nil ?_
   obtain rfl := oi h9
   exact qe_mid' ⟨K, rfl, hS, (KLe.refl _)⟩ ⟨rfl, rfl, trivial⟩
 ·rintro _ w6 ⟨K4, rfl, hS7, hl5⟩
  refine qe_seq ?_
  refine wc_cond rfl (fun hb10 => ?_) (fun hb10 => ?_)
  ·have h11 := cond_t hb10 h3
   refine sr ?_
   refine vm rfl rfl ?_
   refine wl_val wn rfl (rv_badd (b := (32 : UInt8)) rfl rfl) ?_
   refine va rfl rfl ?_
   refine nq ?_
   refine wc_ret ?_
   refine qe_block_ret ?_
   refine qe_then_ret ?_
   obtain rfl := oi h11
   exact qe_ret (vs := [_]) Tryz.results144 ⟨rfl, trivial⟩ ⟨K4, rfl, hS7⟩
  ·have h11 := cond_f hb10 h3
   refine wc_seq ?_
   obtain ⟨o12, h13, h14⟩ := ob h11
   refine wc_cutg (fun E' w' => ∃ (K15 : KMap), E' = [(0, iv8 p0_b), (12, .bool o12)] ∧ SH w K [] w' K15 [] ∧ KLe K4 K15) ?_ ?_
   ·refine wc_region ?_
    refine vm rfl rfl ?_
    refine wl_val wn rfl (rv_bge (b := (97 : UInt8)) rfl rfl) ?_
    refine vm rfl rfl ?_
    rcases bool_tf (decide ((97 : UInt8) ≤ p0_b)) with hb19 | hb19
    ·have h20 := cond_t hb19 h13
     refine wl_val (wg rfl rfl hb19) rfl (rv_move rfl) ?_
     refine wl_val (wg rfl rfl hb19) rfl (rv_ble (b := (122 : UInt8)) rfl rfl) ?_
     refine wl_val wn rfl (rv_pick_t rfl hb19 rfl) ?_
     refine vm rfl rfl ?_
     rcases bool_tf (decide (p0_b ≤ (122 : UInt8))) with hb21 | hb21
     ·have h22 := cond_t hb21 h20
      refine wl_un (ug rfl rfl hb21) rfl ?_
      refine wl_un (ug rfl rfl hb21) rfl ?_
      refine wl_un (ug rfl rfl hb21) rfl ?_
      refine wl_un (uu rfl rfl) rfl ?_
      refine wl_un (uu rfl rfl) rfl ?_
      refine wl_un (ug rfl rfl hb21) rfl ?_
      refine wl_val wn rfl (rv_pick_t (v := .bool true) rfl hb21 rfl) ?_
      refine va rfl rfl ?_
      refine wl_nil ?_
      obtain rfl := oi h22
      exact qe_mid' ⟨K4, rfl, hS7, (KLe.refl _)⟩ ⟨rfl, rfl, trivial⟩
     ·have h22 := cond_f hb21 h20
      refine wl_val (wg rfl rfl hb21) rfl (rv_move rfl) ?_
      refine wl_val (wg rfl rfl hb21) rfl (rv_bge (b := (48 : UInt8)) rfl rfl) ?_
      refine wl_val (wg rfl rfl hb21) rfl (rv_move rfl) ?_
      rcases bool_tf (decide ((48 : UInt8) ≤ p0_b)) with hb23 | hb23
      ·have h24 := cond_t hb23 h22
       refine wl_val (wg rfl rfl hb23) rfl (rv_move rfl) ?_
       refine wl_val (wg rfl rfl hb23) rfl (rv_ble (b := (57 : UInt8)) rfl rfl) ?_
       refine wl_val (wg rfl rfl hb21) rfl (rv_pick_t rfl hb23 rfl) ?_
       refine wl_val wn rfl (rv_pick_f rfl hb21 rfl) ?_
       refine va rfl rfl ?_
       refine wl_nil ?_
       obtain rfl := oi h24
       exact qe_mid' ⟨K4, rfl, hS7, (KLe.refl _)⟩ ⟨rfl, rfl, trivial⟩
      ·have h24 := cond_f hb23 h22
       refine wl_un (ug rfl rfl hb23) rfl ?_
       refine wl_un (ug rfl rfl hb23) rfl ?_
       refine wl_val (wg rfl rfl hb21) rfl (rv_pick_f (v := .bool false) rfl hb23 rfl) ?_
       refine wl_val wn rfl (rv_pick_f rfl hb21 rfl) ?_
       refine va rfl rfl ?_
       refine wl_nil ?_
       obtain rfl := oi h24
       exact qe_mid' ⟨K4, rfl, hS7, (KLe.refl _)⟩ ⟨rfl, rfl, trivial⟩
    ·have h20 := cond_f hb19 h13
     refine wl_un (ug rfl rfl hb19) rfl ?_
     refine wl_un (ug rfl rfl hb19) rfl ?_
     refine wl_val wn rfl (rv_pick_f (v := .bool false) rfl hb19 rfl) ?_
     refine vm rfl rfl ?_
     refine wl_val (wg rfl rfl rfl) rfl (rv_move rfl) ?_
     refine wl_val (wg rfl rfl rfl) rfl (rv_bge (b := (48 : UInt8)) rfl rfl) ?_
     refine wl_val (wg rfl rfl rfl) rfl (rv_move rfl) ?_
     rcases bool_tf (decide ((48 : UInt8) ≤ p0_b)) with hb25 | hb25
     ·have h26 := cond_t hb25 h20
      refine wl_val (wg rfl rfl hb25) rfl (rv_move rfl) ?_
      refine wl_val (wg rfl rfl hb25) rfl (rv_ble (b := (57 : UInt8)) rfl rfl) ?_
      refine wl_val (wg rfl rfl rfl) rfl (rv_pick_t rfl hb25 rfl) ?_
      refine wl_val wn rfl (rv_pick_f rfl rfl rfl) ?_
      refine va rfl rfl ?_
      refine wl_nil ?_
      obtain rfl := oi h26
      exact qe_mid' ⟨K4, rfl, hS7, (KLe.refl _)⟩ ⟨rfl, rfl, trivial⟩
     ·have h26 := cond_f hb25 h20
      refine wl_un (ug rfl rfl hb25) rfl ?_
      refine wl_un (ug rfl rfl hb25) rfl ?_
      refine wl_val (wg rfl rfl rfl) rfl (rv_pick_f (v := .bool false) rfl hb25 rfl) ?_
      refine wl_val wn rfl (rv_pick_f rfl rfl rfl) ?_
      refine va rfl rfl ?_
      refine wl_nil ?_
      obtain rfl := oi h26
      exact qe_mid' ⟨K4, rfl, hS7, (KLe.refl _)⟩ ⟨rfl, rfl, trivial⟩
   ·rintro _ w17 ⟨K15, rfl, hS18, hl16⟩
    refine qe_seq ?_
    refine wc_cond rfl (fun hb27 => ?_) (fun hb27 => ?_)
    ·have h28 := cond_t hb27 h14
     refine sr ?_
     refine vm rfl rfl ?_
     refine va rfl rfl ?_
     refine nq ?_
     refine wc_ret ?_
     refine qe_block_ret ?_
     refine qe_then_ret ?_
     obtain rfl := oi h28
     exact qe_ret (vs := [_]) Tryz.results144 ⟨rfl, trivial⟩ ⟨K15, rfl, hS18⟩
    ·have h28 := cond_f hb27 h14
     refine wc_skip ?_
     refine qe_block ?_
     refine qr ?_
     refine wl_val wn rfl (rv_assign (v := iv8 0) rfl) ?_
     refine nq ?_
     refine wc_ret ?_
     obtain rfl := oi h28
     exact qe_ret (vs := [_]) Tryz.results144 ⟨rfl, trivial⟩ ⟨K15, rfl, hS18⟩

theorem ok_spec_l1WordOk (F : Nat) {w : World} {K : KMap} {p0_s : Str} {r : Bool} (hS : SH w K [] w K []) (hl1 : p0_s.length ≤ maxLen) (hm : M.spec_l1WordOk F p0_s = some r) :
  Calls Tryz.prog 109 #[sv p0_s] w fun e w' => ∃ (K' : KMap), e = .returned (.bool r) ∧ SH w K [] w' K' [] := by
 rw [M.spec_l1WordOk] at hm
 refine calls_in Tryz.func109 rfl Tryz.ntmps109 rfl ?_
 refine sr ?_
 refine wl_val wn rfl (rv_assign (v := .bool false) rfl) ?_
 refine nsr ?_
 refine wl_val wn rfl (rv_assign (v := .int .i64 0) rfl) ?_
 refine nq ?_
 obtain ⟨o2, h3, h4⟩ := ob hm
 refine wc_cutg (fun E' w' => ∃ (s5 : Unit) (K6 : KMap), o2 = .inl s5 ∧ E' = [(0, sv p0_s)] ∧ SH w K [] w' K6 [] ∧ KLe K K6) ?_ ?_
 ·refine wc_block ?_
  obtain ⟨r11, h12, h13⟩ := ob h3
  refine wc_while' (fun (s10 : Int) E' w' => ∃ (K14 : KMap), E' = [(0, sv p0_s), (3, .int .i64 s10)] ∧ SH w K [] w' K14 [] ∧ KLe K K14 ∧ rng64 s10) h12 ⟨K, rfl, hS, (KLe.refl _), (by decide : rng64 0)⟩ ⟨rfl, rfl, trivial⟩ ?_
  rintro s10 _ w16 r19 h20 hx21 ⟨K14, rfl, hS17, hl15, hr18⟩
  refine wc_seq ?_
  refine sr ?_
  refine vm rfl rfl ?_
  refine vm rfl rfl ?_
  refine wl_val wn rfl (rv_slen Tryz.underlying9 rfl) ?_
  refine wl_val wn rfl (rv_lss rfl rfl) ?_
  refine nq ?_
  refine wc_cond rfl (fun hb22 => ?_) (fun hb22 => ?_)
  ·have h23 := cond_t hb22 h20
   refine wc_skip ?_
   refine qs ?_
   refine wc_block ?_
   refine wc_seq ?_
   obtain ⟨o24, h25, h26⟩ := ob h23
   refine wc_cutg (fun E' w' => ∃ (K27 : KMap), E' = [(0, sv p0_s), (3, .int .i64 s10), (23, .bool o24)] ∧ SH w K [] w' K27 [] ∧ KLe K14 K27) ?_ ?_
   ·refine wc_quiet mixed (by kernel_rfl) hS17 ?_
    refine qm rfl rfl ?_
    refine qm rfl rfl ?_
    obtain ⟨x31, hx32, h33⟩ := ob h25
    refine wq_val wn rfl (fun _ _ => (rv_sidx Tryz.underlying9 rfl rfl hx32)) ?_
    obtain ⟨r34, hx35, h36⟩ := ob h33
    refine wq_call (v := iv8 r34) wn rfl (fun _ => rt_call (vs := [iv8 x31]) co144 rfl) (fun w39 ⟨K37, hS38, hl40⟩ => ((ok_spec_l1Fold F) hS38.enter0  hx35).mono fun e w' ⟨K', he, hS'⟩ => ⟨he, K', hS38.call0 hS', hl40.trans hS'.le⟩) ?_
    refine qm rfl rfl ?_
    refine qm rfl rfl ?_
    obtain ⟨x41, hx42, h43⟩ := ob h36
    refine wq_val wn rfl (fun _ _ => (rv_sidx Tryz.underlying9 rfl rfl hx42)) ?_
    refine wq_val wn rfl (fun _ _ => (rv_bne rfl rfl)) ?_
    refine qm rfl rfl ?_
    rcases bool_tf ((!(r34 == x41))) with hb44 | hb44
    ·have h45 := cond_t hb44 h43
     refine wq_un (ug rfl rfl hb44) rfl ?_
     refine wq_un (ug rfl rfl hb44) rfl ?_
     refine wq_un (ug rfl rfl hb44) rfl ?_
     refine wq_un (ug rfl rfl hb44) rfl ?_
     refine wq_val wn rfl (fun _ _ => (rv_pick_t (v := .bool true) rfl hb44 rfl)) ?_
     refine wq_nil ?_
     rintro w47 ⟨K46, hS48, hl49⟩
     obtain rfl := oi h45
     exact qe_mid' ⟨K46, rfl, hS48, hl49⟩ ⟨rfl, rfl, rfl, trivial⟩
    ·have h45 := cond_f hb44 h43
     refine wq_val (wg rfl rfl hb44) rfl (fun _ _ => (rv_move rfl)) ?_
     refine wq_val (wg rfl rfl hb44) rfl (fun _ _ => (rv_move rfl)) ?_
     obtain ⟨x50, hx51, h52⟩ := ob h45
     refine wq_val (wg rfl rfl hb44) rfl (fun _ _ => (rv_sidx Tryz.underlying9 rfl rfl hx51)) ?_
     refine wq_val (wg rfl rfl hb44) rfl (fun _ _ => (rv_beq (b := (0 : UInt8)) rfl rfl)) ?_
     refine wq_val wn rfl (fun _ _ => (rv_pick_f rfl hb44 rfl)) ?_
     refine wq_nil ?_
     rintro w54 ⟨K53, hS55, hl56⟩
     obtain rfl := oi h52
     exact qe_mid' ⟨K53, rfl, hS55, hl56⟩ ⟨rfl, rfl, rfl, trivial⟩
   ·rintro _ w29 ⟨K27, rfl, hS30, hl28⟩
    refine qe_seq ?_
    refine wc_cond rfl (fun hb57 => ?_) (fun hb57 => ?_)
    ·have h58 := cond_t hb57 h26
     refine sr ?_
     refine wl_val wn rfl (rv_assign (v := .bool false) rfl) ?_
     refine nq ?_
     refine wc_ret ?_
     refine qe_block_ret ?_
     refine qe_then_ret ?_
     refine qe_then_ret ?_
     obtain rfl := oi h58
     have e59 := hx21 _ rfl
     subst e59
     refine qe_block_ret ?_
     refine qe_then_ret ?_
     obtain rfl := oi h13
     refine qe_then_ret ?_
     obtain rfl := oi h4
     exact qe_ret (vs := [_]) Tryz.results109 ⟨rfl, trivial⟩ ⟨K27, rfl, hS30⟩
    ·have h58 := cond_f hb57 h26
     refine wc_skip ?_
     refine qe_block ?_
     refine qe_seq ?_
     refine wc_region ?_
     refine vm rfl rfl ?_
     refine wl_val wn rfl (rv_add rfl rfl) ?_
     refine va rfl rfl ?_
     refine wl_nil ?_
     obtain rfl := oi h58
     exact qe_mid' ⟨_, rfl, K27, rfl, hS30, (hl15.trans hl28), (w64_rng _)⟩ ⟨rfl, rfl, trivial⟩
  ·have h23 := cond_f hb22 h20
   refine wc_exit ?_
   refine qe_then_exit ?_
   refine qe_then_exit ?_
   obtain rfl := oi h23
   have e60 := hx21 _ rfl
   subst e60
   refine qe_block_eq ?_
   obtain rfl := oi h13
   exact qe_mid' ⟨_, K14, rfl, rfl, hS17, hl15⟩ ⟨rfl, trivial⟩
 ·rintro _ w8 ⟨s5, K6, rfl, rfl, hS9, hl7⟩
  refine qr ?_
  refine vm rfl rfl ?_
  refine wl_val wn rfl (rv_slen Tryz.underlying9 rfl) ?_
  obtain ⟨r63, hx64, h65⟩ := ob h4
  refine wl_call wn rfl (rt_call (vs := [.int .i64 (p0_s.length : Int), .int .i64 1, .int .i64 12]) co112 rfl) ((ok_spec_l1In F) hS9.enter0 (rng_nat hl1) (by decide : rng64 1) (by decide : rng64 12) hx64) ?_
  rintro e69 w67 ⟨K66, rfl, hS68⟩
  refine ⟨_, rfl, ?_⟩
  have hS70 : SH _ _ _ _ _ [] := SH.call0 hS9 hS68
  refine va rfl rfl ?_
  refine nq ?_
  refine wc_ret ?_
  obtain rfl := oi h65
  exact qe_ret (vs := [_]) Tryz.results109 ⟨rfl, trivial⟩ ⟨K66, rfl, hS70⟩

theorem ok_spec_l2Ends (F : Nat) {w : World} {K : KMap} {r : (List Str)} (hS : SH w K [] w K []) (hm : M.spec_l2Ends F  = some r) :
  Calls Tryz.prog 168 #[] w fun e w' => ∃ (a_1 : Option Addr) (n_2 c_3 : Nat) (K' : KMap), e = .returned (.slice a_1 n_2 c_3) ∧ SH w K [] w' K' [tail (.slice a_1 n_2 c_3) 9 1] ∧ SliceAt tStr K' a_1 n_2 c_3 r := by
 rw [M.spec_l2Ends] at hm
 refine calls_in Tryz.func168 rfl Tryz.ntmps168 rfl ?_
 refine sr ?_
 refine wl_val wn rfl (rv_assign (v := .slice none 0 0) rfl) ?_
 refine nr ?_
 refine wl_buildSlice (t := tStr) (n := 5) (pv := [(0, sv [105, 110, 103]), (1, sv [101, 100]), (2, sv [101, 115]), (3, sv [108, 121]), (4, sv [115])]) (cs := [sv [105, 110, 103], sv [101, 100], sv [101, 115], sv [108, 121], sv [115]]) (xs := [([105, 110, 103] : Str), ([101, 100] : Str), ([101, 115] : Str), ([108, 121] : Str), ([115] : Str)]) wn rfl Tryz.underlying23 tf9 rfl rfl rfl (by kernel_rfl) rfl rfl (lit_cons (u := sv [105, 110, 103]) (z := ([105, 110, 103] : Str)) ⟨rfl, (by decide : ([105, 110, 103] : Str).length ≤ maxLen)⟩ (lit_cons (u := sv [101, 100]) (z := ([101, 100] : Str)) ⟨rfl, (by decide : ([101, 100] : Str).length ≤ maxLen)⟩ (lit_cons (u := sv [101, 115]) (z := ([101, 115] : Str)) ⟨rfl, (by decide : ([101, 115] : Str).length ≤ maxLen)⟩ (lit_cons (u := sv [108, 121]) (z := ([108, 121] : Str)) ⟨rfl, (by decide : ([108, 121] : Str).length ≤ maxLen)⟩ (lit_cons (u := sv [115]) (z := ([115] : Str)) ⟨rfl, (by decide : ([115] : Str).length ≤ maxLen)⟩ lit_nil))))) hS ?_
 intro a1 w2 K3 hl4 hs5 hS6
 refine va rfl rfl ?_
 refine nq ?_
 refine wc_ret ?_
 obtain rfl := oi hm
 exact qe_ret (vs := [_]) Tryz.results168 ⟨rfl, trivial⟩ ⟨a1, 5, 5, K3, rfl, hS6, hs5⟩

set_option maxHeartbeats 2000000 in
theorem ok_spec_l2Once (F : Nat) {w : World} {K : KMap} {p0_s : Str} {r : Str} (hS : SH w K [] w K []) (hl1 : p0_s.length ≤ maxLen) (hm : M.spec_l2Once F p0_s = some r) :
  Calls Tryz.prog 145 #[sv p0_s] w fun e w' => ∃ (K' : KMap), e = .returned (sv r) ∧ SH w K [] w' K' [] ∧ r.length ≤ maxLen := by
 rw [M.spec_l2Once] at hm
 refine calls_in Tryz.func145 rfl Tryz.ntmps145 rfl ?_
 refine sr ?_
 refine wl_val wn rfl (rv_assign (v := sv []) rfl) ?_
 refine nsr ?_
 refine wl_val wn rfl (rv_assign (v := .int .i64 0) rfl) ?_
 refine nq ?_
 obtain ⟨o2, h3, h4⟩ := ob hm
 refine wc_cutg (fun E' w' => ∃ (s5 : Unit) (K6 : KMap), o2 = .inl s5 ∧ E' = [(0, sv p0_s)] ∧ SH w K [] w' K6 [] ∧ KLe K K6) ?_ ?_
 ·refine wc_block ?_
  obtain ⟨r11, h12, h13⟩ := ob h3
  refine wc_while' (fun (s10 : Int) E' w' => ∃ (K14 : KMap), E' = [(0, sv p0_s), (3, .int .i64 s10)] ∧ SH w K [] w' K14 [] ∧ KLe K K14 ∧ rng64 s10) h12 ⟨K, rfl, hS, (KLe.refl _), (by decide : rng64 0)⟩ ⟨rfl, rfl, trivial⟩ ?_
  rintro s10 _ w16 r19 h20 hx21 ⟨K14, rfl, hS17, hl15, hr18⟩
  refine wc_seq ?_
  refine sr ?_
  refine vm rfl rfl ?_
  obtain ⟨r22, hx23, h24⟩ := ob h20
  refine wl_call wn rfl (rt_call (vs := []) co168 rfl) ((ok_spec_l2Ends F) hS17.enter0  hx23) ?_
  rintro e32 w26 ⟨a28, n29, c30, K25, rfl, hS27, hs31⟩
  refine ⟨_, rfl, ?_⟩
  have hS33 : SH _ _ _ _ _ [_] := SH.call0 hS17 hS27
  refine wl_val wn rfl (rv_len (t := tStr) Tryz.underlying23 rfl hs31) ?_
  refine wl_val wn rfl (rv_lss rfl rfl) ?_
  refine nq ?_
  refine wc_cond rfl (fun hb34 => ?_) (fun hb34 => ?_)
  ·have h35 := cond_t hb34 h24
   refine wc_skip ?_
   refine qs ?_
   refine wc_block ?_
   refine sr ?_
   obtain ⟨r36, hx37, h38⟩ := ob h35
   refine wl_call wn rfl (rt_call (vs := []) co168 rfl) ((ok_spec_l2Ends F) hS33.enter0  hx37) ?_
   rintro e46 w40 ⟨a42, n43, c44, K39, rfl, hS41, hs45⟩
   refine ⟨_, rfl, ?_⟩
   have hS47 : SH _ _ _ _ _ [_, _] := SH.call0 hS33 hS41
   refine vm rfl rfl ?_
   obtain ⟨x48, hx49, h50⟩ := ob h38
   refine wl_indexAddr (t := tStr) wn rfl Tryz.underlying23 tf9 rfl rfl hs45 hx49 ?_
   intro b51 o52 u53 hu54 ha55
   obtain ⟨rfl, hl56⟩ := hu54
   have ha57 : AtK _ b51 o52 [sv x48] := ha55
   refine wl_val wn rfl (rv_load1 tf9 rfl hS47 (ha57 0 _ rfl)) ?_
   refine va rfl rfl ?_
   refine nr ?_
   refine vm rfl rfl ?_
   refine wl_val wn rfl (rv_slen Tryz.underlying9 rfl) ?_
   refine vm rfl rfl ?_
   refine wl_val wn rfl (rv_slen Tryz.underlying9 rfl) ?_
   refine wl_val wn rfl (rv_sub rfl rfl) ?_
   refine va rfl rfl ?_
   refine ns ?_
   obtain ⟨o58, h59, h60⟩ := ob h50
   refine wc_cutg (fun E' w' => ∃ (K61 : KMap), E' = [(0, sv p0_s), (3, .int .i64 s10), (5, .int .i64 (w64 ((p0_s.length : Int) - (x48.length : Int)))), (29, .bool o58)] ∧ SH w K [] w' K61 [] ∧ KLe K39 K61) ?_ ?_
   ·refine wc_region ?_
    refine vm rfl rfl ?_
    refine wl_val wn rfl (rv_geq rfl rfl) ?_
    refine vm rfl rfl ?_
    rcases bool_tf (decide ((3 : Int) ≤ (w64 ((p0_s.length : Int) - (x48.length : Int))))) with hb65 | hb65
    ·have h66 := cond_t hb65 h59
     refine wl_val (wg rfl rfl hb65) rfl (rv_move rfl) ?_
     refine wl_val (wg rfl rfl hb65) rfl (rv_move rfl) ?_
     obtain ⟨x67, hx68, h69⟩ := ob h66
     refine wl_val (wg rfl rfl hb65) rfl (rv_ssl_l Tryz.underlying9 rfl rfl hx68) ?_
     refine wl_val (wg rfl rfl hb65) rfl (rv_move rfl) ?_
     refine wl_val (wg rfl rfl hb65) rfl (rv_seql rfl rfl) ?_
     refine wl_val wn rfl (rv_pick_t rfl hb65 rfl) ?_
     refine wl_nil ?_
     obtain rfl := oi h69
     have hS70 : SH _ _ _ _ _ [] := SH.sublist hS47 (.cons _ (.cons _ .slnil))
     exact qe_mid' ⟨K39, rfl, hS70, (KLe.refl _)⟩ ⟨rfl, rfl, rfl, rfl, trivial⟩
    ·have h66 := cond_f hb65 h59
     refine wl_un (ug rfl rfl hb65) rfl ?_
     refine wl_un (ug rfl rfl hb65) rfl ?_
     refine wl_un (ug rfl rfl hb65) rfl ?_
     refine wl_un (ug rfl rfl hb65) rfl ?_
     refine wl_un (ug rfl rfl hb65) rfl ?_
     refine wl_val wn rfl (rv_pick_f (v := .bool false) rfl hb65 rfl) ?_
     refine wl_nil ?_
     obtain rfl := oi h66
     have hS71 : SH _ _ _ _ _ [] := SH.sublist hS47 (.cons _ (.cons _ .slnil))
     exact qe_mid' ⟨K39, rfl, hS71, (KLe.refl _)⟩ ⟨rfl, rfl, rfl, rfl, trivial⟩
   ·rintro _ w63 ⟨K61, rfl, hS64, hl62⟩
    refine qe_seq ?_
    refine wc_cond rfl (fun hb72 => ?_) (fun hb72 => ?_)
    ·have h73 := cond_t hb72 h60
     refine sr ?_
     refine vm rfl rfl ?_
     refine vm rfl rfl ?_
     obtain ⟨x74, hx75, h76⟩ := ob h73
     refine wl_val wn rfl (rv_ssl_h Tryz.underlying9 rfl rfl hx75) ?_
     refine va rfl rfl ?_
     refine nq ?_
     refine wc_ret ?_
     refine qe_block_ret ?_
     refine qe_then_ret ?_
     refine qe_then_ret ?_
     obtain rfl := oi h76
     have e77 := hx21 _ rfl
     subst e77
     refine qe_block_ret ?_
     refine qe_then_ret ?_
     obtain rfl := oi h13
     refine qe_then_ret ?_
     obtain rfl := oi h4
     exact qe_ret (vs := [_]) Tryz.results145 ⟨rfl, trivial⟩ ⟨K61, rfl, hS64, (len_sub hl1 hx75)⟩
    ·have h73 := cond_f hb72 h60
     refine wc_skip ?_
     refine qe_block ?_
     refine qe_seq ?_
     refine wc_region ?_
     refine vm rfl rfl ?_
     refine wl_val wn rfl (rv_add rfl rfl) ?_
     refine va rfl rfl ?_
     refine wl_nil ?_
     obtain rfl := oi h73
     exact qe_mid' ⟨_, rfl, K61, rfl, hS64, (((hl15.trans hS27.le).trans hS41.le).trans hl62), (w64_rng _)⟩ ⟨rfl, rfl, trivial⟩
  ·have h35 := cond_f hb34 h24
   refine wc_exit ?_
   refine qe_then_exit ?_
   refine qe_then_exit ?_
   obtain rfl := oi h35
   have e78 := hx21 _ rfl
   subst e78
   refine qe_block_eq ?_
   obtain rfl := oi h13
   have hS79 : SH _ _ _ _ _ [] := SH.sublist hS33 (.cons _ .slnil)
   exact qe_mid' ⟨_, K25, rfl, rfl, hS79, (hl15.trans hS27.le)⟩ ⟨rfl, trivial⟩
 ·rintro _ w8 ⟨s5, K6, rfl, rfl, hS9, hl7⟩
  refine qr ?_
  refine vm rfl rfl ?_
  refine va rfl rfl ?_
  refine nq ?_
  refine wc_ret ?_
  obtain rfl := oi h4
  exact qe_ret (vs := [_]) Tryz.results145 ⟨rfl, trivial⟩ ⟨K6, rfl, hS9, hl1⟩

theorem ok_spec_l2Stem (F : Nat) {w : World} {K : KMap} {p0_s : Str} {r : Str} (hS : SH w K [] w K []) (hl1 : p0_s.length ≤ maxLen) (hm : M.spec_l2Stem F p0_s = some r) :
  Calls Tryz.prog 110 #[sv p0_s] w fun e w' => ∃ (K' : KMap), e = .returned (sv r) ∧ SH w K [] w' K' [] ∧ r.length ≤ maxLen := by
 rw [M.spec_l2Stem] at hm
 refine calls_in Tryz.func110 rfl Tryz.ntmps110 rfl ?_
 refine sr ?_
 refine wl_val wn rfl (rv_assign (v := sv []) rfl) ?_
 refine ns ?_
 obtain ⟨o2, h3, h4⟩ := ob hm
 refine wc_cutg (fun E' w' => ∃ (K5 : KMap), E' = [(0, sv o2)] ∧ SH w K [] w' K5 [] ∧ KLe K K5 ∧ o2.length ≤ maxLen) ?_ ?_
 ·refine wc_block ?_
  obtain ⟨r11, h12, h13⟩ := ob h3
  refine wc_while' (fun (s10 : Str) E' w' => ∃ (K14 : KMap), E' = [(0, sv s10)] ∧ SH w K [] w' K14 [] ∧ KLe K K14 ∧ s10.length ≤ maxLen) h12 ⟨K, rfl, hS, (KLe.refl _), hl1⟩ ⟨rfl, trivial⟩ ?_
  rintro s10 _ w16 r19 h20 hx21 ⟨K14, rfl, hS17, hl15, hl18⟩
  refine wc_seq ?_
  refine sr ?_
  refine vm rfl rfl ?_
  obtain ⟨r22, hx23, h24⟩ := ob h20
  refine wl_call wn rfl (rt_call (vs := [sv s10]) co145 rfl) ((ok_spec_l2Once F) hS17.enter0 hl18 hx23) ?_
  rintro e29 w26 ⟨K25, rfl, hS27, hl28⟩
  refine ⟨_, rfl, ?_⟩
  have hS30 : SH _ _ _ _ _ [] := SH.call0 hS17 hS27
  refine vm rfl rfl ?_
  refine wl_val wn rfl (rv_sneq rfl rfl) ?_
  refine nq ?_
  refine wc_cond rfl (fun hb31 => ?_) (fun hb31 => ?_)
  ·have h32 := cond_t hb31 h24
   refine wc_skip ?_
   refine qe_seq ?_
   refine wc_block ?_
   refine wc_region ?_
   refine vm rfl rfl ?_
   obtain ⟨r33, hx34, h35⟩ := ob h32
   refine wl_call wn rfl (rt_call (vs := [sv s10]) co145 rfl) ((ok_spec_l2Once F) hS30.enter0 hl18 hx34) ?_
   rintro e40 w37 ⟨K36, rfl, hS38, hl39⟩
   refine ⟨_, rfl, ?_⟩
   have hS41 : SH _ _ _ _ _ [] := SH.call0 hS30 hS38
   refine va rfl rfl ?_
   refine nb ?_
   obtain rfl := oi h35
   exact qe_mid' ⟨_, rfl, K36, rfl, hS41, ((hl15.trans hS27.le).trans hS38.le), hl39⟩ ⟨rfl, trivial⟩
  ·have h32 := cond_f hb31 h24
   refine wc_exit ?_
   refine qe_then_exit ?_
   refine qe_then_exit ?_
   obtain rfl := oi h32
   have e42 := hx21 _ rfl
   subst e42
   refine qe_block_eq ?_
   obtain rfl := oi h13
   exact qe_mid' ⟨K25, rfl, hS30, (hl15.trans hS27.le), hl18⟩ ⟨rfl, trivial⟩
 ·rintro _ w7 ⟨K5, rfl, hS8, hl6, hl9⟩
  refine qr ?_
  refine vm rfl rfl ?_
  refine va rfl rfl ?_
  refine nq ?_
  refine wc_ret ?_
  obtain rfl := oi h4
  exact qe_ret (vs := [_]) Tryz.results110 ⟨rfl, trivial⟩ ⟨K5, rfl, hS8, hl9⟩

theorem ok_spec_l2Has (F : Nat) {w : World} {K : KMap} {a1 : Option Addr} {n2 c3 : Nat} {p0_list : List Str} {p1_s : Str} {r : Bool} (hS : SH w K [] w K []) (hs4 : SliceAt tStr K a1 n2 c3 p0_list) (hl5 : p1_s.length ≤ maxLen) (hm : M.spec_l2Has F p0_list p1_s = some r) :
  Calls Tryz.prog 111 #[.slice a1 n2 c3, sv p1_s] w fun e w' => ∃ (K' : KMap), e = .returned (.bool r) ∧ SH w K [] w' K' [] := by
 rw [M.spec_l2Has] at hm
 refine calls_in Tryz.func111 rfl Tryz.ntmps111 rfl ?_
 refine sr ?_
 refine wl_val wn rfl (rv_assign (v := .bool false) rfl) ?_
 refine nsr ?_
 refine wl_val wn rfl (rv_assign (v := .int .i64 0) rfl) ?_
 refine nq ?_
 obtain ⟨o6, h7, h8⟩ := ob hm
 refine wc_cutg (fun E' w' => ∃ (s9 : Unit) (K10 : KMap), o6 = .inl s9 ∧ E' = [] ∧ SH w K [] w' K10 [] ∧ KLe K K10) ?_ ?_
 ·refine wc_block ?_
  obtain ⟨r15, h16, h17⟩ := ob h7
  refine wc_while' (fun (s14 : Int) E' w' => ∃ (K18 : KMap), E' = [(0, .slice a1 n2 c3), (1, sv p1_s), (5, .int .i64 s14)] ∧ SH w K [] w' K18 [] ∧ KLe K K18 ∧ rng64 s14) h16 ⟨K, rfl, hS, (KLe.refl _), (by decide : rng64 0)⟩ ⟨rfl, rfl, rfl, trivial⟩ ?_
  rintro s14 _ w20 r23 h24 hx25 ⟨K18, rfl, hS21, hl19, hr22⟩
  refine wc_seq ?_
  refine sr ?_
  refine vm rfl rfl ?_
  refine vm rfl rfl ?_
  refine wl_val wn rfl (rv_len (t := tStr) Tryz.underlying23 rfl (SliceAt.mono hl19 hs4)) ?_
  refine wl_val wn rfl (rv_lss rfl rfl) ?_
  refine nq ?_
  refine wc_cond rfl (fun hb26 => ?_) (fun hb26 => ?_)
  ·have h27 := cond_t hb26 h24
   refine wc_skip ?_
   refine qs ?_
   refine wc_block ?_
   refine sr ?_
   refine vm rfl rfl ?_
   refine vm rfl rfl ?_
   obtain ⟨x28, hx29, h30⟩ := ob h27
   refine wl_indexAddr (t := tStr) wn rfl Tryz.underlying23 tf9 rfl rfl (SliceAt.mono hl19 hs4) hx29 ?_
   intro b31 o32 u33 hu34 ha35
   obtain ⟨rfl, hl36⟩ := hu34
   have ha37 : AtK _ b31 o32 [sv x28] := ha35
   refine wl_val wn rfl (rv_load1 tf9 rfl hS21 (ha37 0 _ rfl)) ?_
   refine vm rfl rfl ?_
   refine wl_val wn rfl (rv_seql rfl rfl) ?_
   refine nq ?_
   refine wc_cond rfl (fun hb38 => ?_) (fun hb38 => ?_)
   ·have h39 := cond_t hb38 h30
    refine sr ?_
    refine wl_val wn rfl (rv_assign (v := .bool true) rfl) ?_
    refine nq ?_
    refine wc_ret ?_
    refine qe_block_ret ?_
    refine qe_then_ret ?_
    refine qe_then_ret ?_
    obtain rfl := oi h39
    have e40 := hx25 _ rfl
    subst e40
    refine qe_block_ret ?_
    refine qe_then_ret ?_
    obtain rfl := oi h17
    refine qe_then_ret ?_
    obtain rfl := oi h8
    exact qe_ret (vs := [_]) Tryz.results111 ⟨rfl, trivial⟩ ⟨K18, rfl, hS21⟩
   ·have h39 := cond_f hb38 h30
    refine wc_skip ?_
    refine qe_block ?_
    refine qe_seq ?_
    refine wc_region ?_
    refine vm rfl rfl ?_
    refine wl_val wn rfl (rv_add rfl rfl) ?_
    refine va rfl rfl ?_
    refine wl_nil ?_
    obtain rfl := oi h39
    exact qe_mid' ⟨_, rfl, K18, rfl, hS21, hl19, (w64_rng _)⟩ ⟨rfl, rfl, rfl, trivial⟩
  ·have h27 := cond_f hb26 h24
   refine wc_exit ?_
   refine qe_then_exit ?_
   refine qe_then_exit ?_
   obtain rfl := oi h27
   have e41 := hx25 _ rfl
   subst e41
   refine qe_block_eq ?_
   obtain rfl := oi h17
   exact qe_mid' ⟨_, K18, rfl, rfl, hS21, hl19⟩ trivial
 ·rintro _ w12 ⟨s9, K10, rfl, rfl, hS13, hl11⟩
  refine qr ?_
  refine wl_val wn rfl (rv_assign (v := .bool false) rfl) ?_
  refine nq ?_
  refine wc_ret ?_
  obtain rfl := oi h8
  exact qe_ret (vs := [_]) Tryz.results111 ⟨rfl, trivial⟩ ⟨K10, rfl, hS13⟩

set_option maxHeartbeats 2000000 in
theorem ok_spec_l2Ok (F : Nat) {w : World} {K : KMap} {a1 : Option Addr} {n2 c3 : Nat} {a5 : Option Addr} {n6 c7 : Nat} {p0_c : GConf} {r : Bool} (hS : SH w K [] w K []) (hs4 : SliceAt tStr K a1 n2 c3 p0_c.Stops) (hs8 : SliceAt tGSyn K a5 n6 c7 p0_c.Syns) (hm : M.spec_l2Ok F p0_c = some r) :
  Calls Tryz.prog 64 #[.agg #[.slice a1 n2 c3, .slice a5 n6 c7]] w fun e w' => ∃ (K' : KMap), e = .returned (.bool r) ∧ SH w K [] w' K' [] := by
 rw [M.spec_l2Ok] at hm
 refine calls_in Tryz.func64 rfl Tryz.ntmps64 rfl ?_
 refine sr ?_
 refine wl_box wn rfl rfl hS ?_
 intro g9 w10 hS11
 have hS12 : SH _ _ _ _ _ [obj g9 [.slice a1 n2 c3, .slice a5 n6 c7] 26] := hS11
 refine wl_val wn rfl (rv_assign (v := .bool false) rfl) ?_
 refine nsr ?_
 refine wl_val wn rfl (rv_assign (v := .int .i64 0) rfl) ?_
 refine nq ?_
 obtain ⟨o13, h14, h15⟩ := ob hm
 refine wc_cutg (fun E' w' => ∃ (s16 : Unit) (K17 : KMap), o13 = .inl s16 ∧ E' = [(1, .pointer (some ⟨g9, 0, none⟩))] ∧ SH w K [] w' K17 [obj g9 [.slice a1 n2 c3, .slice a5 n6 c7] 26] ∧ KLe K K17) ?_ ?_
 ·refine wc_block ?_
  obtain ⟨r22, h23, h24⟩ := ob h14
  refine wc_while' (fun (s21 : Int) E' w' => ∃ (K25 : KMap), E' = [(1, .pointer (some ⟨g9, 0, none⟩)), (3, .int .i64 s21)] ∧ SH w K [] w' K25 [obj g9 [.slice a1 n2 c3, .slice a5 n6 c7] 26] ∧ KLe K K25 ∧ rng64 s21) h23 ⟨K, rfl, hS12, (KLe.refl _), (by decide : rng64 0)⟩ ⟨rfl, rfl, trivial⟩ ?_
  rintro s21 _ w27 r30 h31 hx32 ⟨K25, rfl, hS28, hl26, hr29⟩
  refine wc_seq ?_
  refine sr ?_
  refine vm rfl rfl ?_
  refine wl_val wn rfl (rv_fieldAddr ff26_0 rfl) ?_
  refine wl_val wn rfl (rv_loadm1 tf23 rfl (.head _) hS28 rfl) ?_
  refine wl_val wn rfl (rv_len (t := tStr) Tryz.underlying23 rfl (SliceAt.mono hl26 hs4)) ?_
  refine wl_val wn rfl (rv_lss rfl rfl) ?_
  refine nq ?_
  refine wc_cond rfl (fun hb33 => ?_) (fun hb33 => ?_)
  ·have h34 := cond_t hb33 h31
   refine wc_skip ?_
   refine qs ?_
   refine wc_block ?_
   refine wc_seq ?_
   obtain ⟨o35, h36, h37⟩ := ob h34
   refine wc_cutg (fun E' w' => ∃ (K38 : KMap), E' = [(1, .pointer (some ⟨g9, 0, none⟩)), (3, .int .i64 s21), (38, .bool o35)] ∧ SH w K [] w' K38 [obj g9 [.slice a1 n2 c3, .slice a5 n6 c7] 26] ∧ KLe K25 K38) ?_ ?_
   ·refine wc_quiet mixed (by kernel_rfl) hS28 ?_
    refine wq_val wn rfl (fun _ _ => (rv_fieldAddr ff26_0 rfl)) ?_
    refine wq_val wn rfl (rq_loadm1 tf23 rfl (.head _) rfl) ?_
    refine qm rfl rfl ?_
    obtain ⟨x42, hx43, h44⟩ := ob h36
    refine wq_indexAddr (t := tStr) wn rfl Tryz.underlying23 tf9 rfl rfl (SliceAt.mono hl26 hs4) hx43 ?_
    intro b45 o46 u47 hu48 ha49
    obtain ⟨rfl, hl50⟩ := hu48
    have ha51 : AtK _ b45 o46 [sv x42] := ha49
    refine wq_val wn rfl (rq_load1 tf9 rfl (ha51 0 _ rfl)) ?_
    obtain ⟨r52, hx53, h54⟩ := ob h44
    refine wq_call (v := .bool r52) wn rfl (fun _ => rt_call (vs := [sv x42]) co109 rfl) (fun w57 ⟨K55, hS56, hl58⟩ => ((ok_spec_l1WordOk F) hS56.enter0 hl50 hx53).mono fun e w' ⟨K', he, hS'⟩ => ⟨he, K', hS56.call0 hS', hl58.trans hS'.le⟩) ?_
    refine wq_val wn rfl (fun _ _ => (rv_not rfl)) ?_
    refine qm rfl rfl ?_
    rcases bool_tf ((!r52)) with hb59 | hb59
    ·have h60 := cond_t hb59 h54
     refine wq_un (ug rfl rfl hb59) rfl ?_
     refine wq_un (ug rfl rfl hb59) rfl ?_
     refine wq_un (ug rfl rfl hb59) rfl ?_
     refine qu rfl rfl rfl ?_
     refine qu rfl rfl rfl ?_
     refine qu rfl rfl rfl ?_
     refine qu rfl rfl rfl ?_
     refine qu rfl rfl rfl ?_
     refine qu rfl rfl rfl ?_
     refine qu rfl rfl rfl ?_
     refine qu rfl rfl rfl ?_
     refine qu rfl rfl rfl ?_
     refine qu rfl rfl rfl ?_
     refine qu rfl rfl rfl ?_
     refine qu rfl rfl rfl ?_
     refine wq_un (ug rfl rfl hb59) rfl ?_
     refine wq_val wn rfl (fun _ _ => (rv_pick_t (v := .bool true) rfl hb59 rfl)) ?_
     refine wq_nil ?_
     rintro w62 ⟨K61, hS63, hl64⟩
     obtain rfl := oi h60
     exact qe_mid' ⟨K61, rfl, hS63, hl64⟩ ⟨rfl, rfl, rfl, trivial⟩
    ·have h60 := cond_f hb59 h54
     refine wq_val (wg rfl rfl hb59) rfl (fun _ _ => (rv_move rfl)) ?_
     refine wq_val (wg rfl rfl hb59) rfl (fun _ _ => (rv_gtr rfl rfl)) ?_
     refine wq_val (wg rfl rfl hb59) rfl (fun _ _ => (rv_move rfl)) ?_
     rcases bool_tf (decide ((0 : Int) < s21)) with hb65 | hb65
     ·have h66 := cond_t hb65 h60
      refine wq_val (wg rfl rfl hb65) rfl (fun _ _ => (rv_fieldAddr ff26_0 rfl)) ?_
      refine wq_val (wg rfl rfl hb65) rfl (rq_loadm1 tf23 rfl (.head _) rfl) ?_
      refine wq_val (wg rfl rfl hb65) rfl (fun _ _ => (rv_move rfl)) ?_
      obtain ⟨x67, hx68, h69⟩ := ob h66
      refine wq_indexAddr (t := tStr) (wg rfl rfl hb65) rfl Tryz.underlying23 tf9 rfl rfl (SliceAt.mono hl26 hs4) hx68 ?_
      intro b70 o71 u72 hu73 ha74
      obtain ⟨rfl, hl75⟩ := hu73
      have ha76 : AtK _ b70 o71 [sv x67] := ha74
      refine wq_val (wg rfl rfl hb65) rfl (rq_load1 tf9 rfl (ha76 0 _ rfl)) ?_
      refine wq_val (wg rfl rfl hb65) rfl (fun _ _ => (rv_fieldAddr ff26_0 rfl)) ?_
      refine wq_val (wg rfl rfl hb65) rfl (rq_loadm1 tf23 rfl (.head _) rfl) ?_
      refine wq_val (wg rfl rfl hb65) rfl (fun _ _ => (rv_move rfl)) ?_
      refine wq_val (wg rfl rfl hb65) rfl (fun _ _ => (rv_sub rfl rfl)) ?_
      obtain ⟨x77, hx78, h79⟩ := ob h69
      refine wq_indexAddr (t := tStr) (wg rfl rfl hb65) rfl Tryz.underlying23 tf9 rfl rfl (SliceAt.mono hl26 hs4) hx78 ?_
      intro b80 o81 u82 hu83 ha84
      obtain ⟨rfl, hl85⟩ := hu83
      have ha86 : AtK _ b80 o81 [sv x77] := ha84
      refine wq_val (wg rfl rfl hb65) rfl (rq_load1 tf9 rfl (ha86 0 _ rfl)) ?_
      refine wq_val (wg rfl rfl hb65) rfl (fun _ _ => (rv_sleq rfl rfl)) ?_
      refine wq_val (wg rfl rfl hb59) rfl (fun _ _ => (rv_pick_t rfl hb65 rfl)) ?_
      refine wq_val wn rfl (fun _ _ => (rv_pick_f rfl hb59 rfl)) ?_
      refine wq_nil ?_
      rintro w88 ⟨K87, hS89, hl90⟩
      obtain rfl := oi h79
      exact qe_mid' ⟨K87, rfl, hS89, hl90⟩ ⟨rfl, rfl, rfl, trivial⟩
     ·have h66 := cond_f hb65 h60
      refine wq_un (ug rfl rfl hb65) rfl ?_
      refine wq_un (ug rfl rfl hb65) rfl ?_
      refine wq_un (ug rfl rfl hb65) rfl ?_
      refine wq_un (ug rfl rfl hb65) rfl ?_
      refine wq_un (ug rfl rfl hb65) rfl ?_
      refine wq_un (ug rfl rfl hb65) rfl ?_
      refine wq_un (ug rfl rfl hb65) rfl ?_
      refine wq_un (ug rfl rfl hb65) rfl ?_
      refine wq_un (ug rfl rfl hb65) rfl ?_
      refine wq_un (ug rfl rfl hb65) rfl ?_
      refine wq_un (ug rfl rfl hb65) rfl ?_
      refine wq_un (ug rfl rfl hb65) rfl ?_
      refine wq_val (wg rfl rfl hb59) rfl (fun _ _ => (rv_pick_f (v := .bool false) rfl hb65 rfl)) ?_
      refine wq_val wn rfl (fun _ _ => (rv_pick_f rfl hb59 rfl)) ?_
      refine wq_nil ?_
      rintro w92 ⟨K91, hS93, hl94⟩
      obtain rfl := oi h66
      exact qe_mid' ⟨K91, rfl, hS93, hl94⟩ ⟨rfl, rfl, rfl, trivial⟩
   ·rintro _ w40 ⟨K38, rfl, hS41, hl39⟩
    refine qe_seq ?_
    refine wc_cond rfl (fun hb95 => ?_) (fun hb95 => ?_)
    ·have h96 := cond_t hb95 h37
     refine sr ?_
     refine wl_val wn rfl (rv_assign (v := .bool false) rfl) ?_
     refine nq ?_
     refine wc_ret ?_
     refine qe_block_ret ?_
     refine qe_then_ret ?_
     refine qe_then_ret ?_
     obtain rfl := oi h96
     have e97 := hx32 _ rfl
     subst e97
     refine qe_block_ret ?_
     refine qe_then_ret ?_
     obtain rfl := oi h24
     refine qe_then_ret ?_
     obtain rfl := oi h15
     have hS98 : SH _ _ _ _ _ [] := SH.sublist hS41 (.cons _ .slnil)
     exact qe_ret (vs := [_]) Tryz.results64 ⟨rfl, trivial⟩ ⟨K38, rfl, hS98⟩
    ·have h96 := cond_f hb95 h37
     refine wc_skip ?_
     refine qe_block ?_
     refine qe_seq ?_
     refine wc_region ?_
     refine vm rfl rfl ?_
     refine wl_val wn rfl (rv_add rfl rfl) ?_
     refine va rfl rfl ?_
     refine wl_nil ?_
     obtain rfl := oi h96
     exact qe_mid' ⟨_, rfl, K38, rfl, hS41, (hl26.trans hl39), (w64_rng _)⟩ ⟨rfl, rfl, trivial⟩
  ·have h34 := cond_f hb33 h31
   refine wc_exit ?_
   refine qe_then_exit ?_
   refine qe_then_exit ?_
   obtain rfl := oi h34
   have e99 := hx32 _ rfl
   subst e99
   refine qe_block_eq ?_
   obtain rfl := oi h24
   exact qe_mid' ⟨_, K25, rfl, rfl, hS28, hl26⟩ ⟨rfl, trivial⟩
 ·rintro _ w19 ⟨s16, K17, rfl, rfl, hS20, hl18⟩
  refine qs ?_
  refine sr ?_
  refine wl_val wn rfl (rv_assign (v := .int .i64 0) rfl) ?_
  refine nq ?_
  obtain ⟨o102, h103, h104⟩ := ob h15
  refine wc_cutg (fun E' w' => ∃ (s105 : Unit) (K106 : KMap), o102 = .inl s105 ∧ E' = [(1, .pointer (some ⟨g9, 0, none⟩))] ∧ SH w K [] w' K106 [obj g9 [.slice a1 n2 c3, .slice a5 n6 c7] 26] ∧ KLe K17 K106) ?_ ?_
  ·refine wc_block ?_
   obtain ⟨r111, h112, h113⟩ := ob h103
   refine wc_while' (fun (s110 : Int) E' w' => ∃ (K114 : KMap), E' = [(1, .pointer (some ⟨g9, 0, none⟩)), (4, .int .i64 s110)] ∧ SH w K [] w' K114 [obj g9 [.slice a1 n2 c3, .slice a5 n6 c7] 26] ∧ KLe K17 K114 ∧ rng64 s110) h112 ⟨K17, rfl, hS20, (KLe.refl _), (by decide : rng64 0)⟩ ⟨rfl, rfl, trivial⟩ ?_
   rintro s110 _ w116 r119 h120 hx121 ⟨K114, rfl, hS117, hl115, hr118⟩
   refine wc_seq ?_
   refine sr ?_
   refine vm rfl rfl ?_
   refine wl_val wn rfl (rv_fieldAddr ff26_1 rfl) ?_
   refine wl_val wn rfl (rv_loadm1 tf24 rfl (.head _) hS117 rfl) ?_
   refine wl_val wn rfl (rv_len (t := tGSyn) Tryz.underlying24 rfl (SliceAt.mono (hl18.trans hl115) hs8)) ?_
   refine wl_val wn rfl (rv_lss rfl rfl) ?_
   refine nq ?_
   refine wc_cond rfl (fun hb122 => ?_) (fun hb122 => ?_)
   ·have h123 := cond_t hb122 h120
    refine wc_skip ?_
    refine qs ?_
    refine wc_block ?_
    refine sr ?_
    refine wl_val wn rfl (rv_fieldAddr ff26_1 rfl) ?_
    refine wl_val wn rfl (rv_loadm1 tf24 rfl (.head _) hS117 rfl) ?_
    refine vm rfl rfl ?_
    obtain ⟨x124, hx125, h126⟩ := ob h123
    refine wl_indexAddr (t := tGSyn) wn rfl Tryz.underlying24 tf106 rfl rfl (SliceAt.mono (hl18.trans hl115) hs8) hx125 ?_
    intro b127 o128 u129 hu130 ha131
    obtain ⟨a132, n133, c134, rfl, hs135, hl136⟩ := hu130
    have ha137 : AtK _ b127 o128 [.slice a132 n133 c134, sv x124.To] := ha131
    refine wl_val wn rfl (rv_loadS (cs := [.slice a132 n133 c134, sv x124.To]) tf106 rfl hS117 ha137 rfl) ?_
    refine wl_alloc wn rfl tf106 hS117 ?_
    intro g138 w139 hS140
    have hS141 : SH _ _ _ _ _ [obj g138 [.slice none 0 0, sv []] 106, _] := hS140
    refine wl_store (cs' := [.slice a132 n133 c134, sv x124.To]) (v := .agg #[.slice a132 n133 c134, sv x124.To]) wn tf106 rfl rfl rfl (by simp [Value.cells, Value.oneCell', sv]) hS141 rfl rfl ?_
    intro w142 hS143
    refine nsr ?_
    refine wl_val wn rfl (rv_assign (v := .int .i64 0) rfl) ?_
    refine nq ?_
    obtain ⟨o144, h145, h146⟩ := ob h126
    refine wc_cutg (fun E' w' => ∃ (s147 : Unit) (K148 : KMap), o144 = .inl s147 ∧ E' = [(1, .pointer (some ⟨g9, 0, none⟩)), (4, .int .i64 s110), (5, .pointer (some ⟨g138, 0, none⟩))] ∧ SH w K [] w' K148 [obj g9 [.slice a1 n2 c3, .slice a5 n6 c7] 26, obj g138 [.slice a132 n133 c134, sv x124.To] 106] ∧ KLe K114 K148) ?_ ?_
    ·refine wc_block ?_
     obtain ⟨r153, h154, h155⟩ := ob h145
     have hS161 : SH _ _ _ _ _ [_, _] := SH.front (p := [_]) hS143
     refine wc_while' (fun (s152 : Int) E' w' => ∃ (K156 : KMap), E' = [(1, .pointer (some ⟨g9, 0, none⟩)), (4, .int .i64 s110), (5, .pointer (some ⟨g138, 0, none⟩)), (6, .int .i64 s152)] ∧ SH w K [] w' K156 [obj g9 [.slice a1 n2 c3, .slice a5 n6 c7] 26, obj g138 [.slice a132 n133 c134, sv x124.To] 106] ∧ KLe K114 K156 ∧ rng64 s152) h154 ⟨K114, rfl, hS161, (KLe.refl _), (by decide : rng64 0)⟩ ⟨rfl, rfl, rfl, rfl, trivial⟩ ?_
     rintro s152 _ w158 r162 h163 hx164 ⟨K156, rfl, hS159, hl157, hr160⟩
     refine wc_seq ?_
     refine sr ?_
     refine vm rfl rfl ?_
     refine wl_val wn rfl (rv_fieldAddr ff106_0 rfl) ?_
     refine wl_val wn rfl (rv_loadm1 tf23 rfl (.tail _ (.head _)) hS159 rfl) ?_
     refine wl_val wn rfl (rv_len (t := tStr) Tryz.underlying23 rfl (SliceAt.mono hl157 hs135)) ?_
     refine wl_val wn rfl (rv_lss rfl rfl) ?_
     refine nq ?_
     refine wc_cond rfl (fun hb165 => ?_) (fun hb165 => ?_)
     ·have h166 := cond_t hb165 h163
      refine wc_skip ?_
      refine qs ?_
      refine wc_block ?_
      refine wc_seq ?_
      obtain ⟨o167, h168, h169⟩ := ob h166
      refine wc_cutg (fun E' w' => ∃ (K170 : KMap), E' = [(1, .pointer (some ⟨g9, 0, none⟩)), (4, .int .i64 s110), (5, .pointer (some ⟨g138, 0, none⟩)), (6, .int .i64 s152), (88, .bool o167)] ∧ SH w K [] w' K170 [obj g9 [.slice a1 n2 c3, .slice a5 n6 c7] 26, obj g138 [.slice a132 n133 c134, sv x124.To] 106] ∧ KLe K156 K170) ?_ ?_
      ·refine wc_quiet mixed (by kernel_rfl) hS159 ?_
       refine wq_val wn rfl (fun _ _ => (rv_fieldAddr ff106_0 rfl)) ?_
       refine wq_val wn rfl (rq_loadm1 tf23 rfl (.tail _ (.head _)) rfl) ?_
       refine qm rfl rfl ?_
       obtain ⟨x174, hx175, h176⟩ := ob h168
       refine wq_indexAddr (t := tStr) wn rfl Tryz.underlying23 tf9 rfl rfl (SliceAt.mono hl157 hs135) hx175 ?_
       intro b177 o178 u179 hu180 ha181
       obtain ⟨rfl, hl182⟩ := hu180
       have ha183 : AtK _ b177 o178 [sv x174] := ha181
       refine wq_val wn rfl (rq_load1 tf9 rfl (ha183 0 _ rfl)) ?_
       obtain ⟨r184, hx185, h186⟩ := ob h176
       refine wq_call (v := .bool r184) wn rfl (fun _ => rt_call (vs := [sv x174]) co109 rfl) (fun w189 ⟨K187, hS188, hl190⟩ => ((ok_spec_l1WordOk F) hS188.enter0 hl182 hx185).mono fun e w' ⟨K', he, hS'⟩ => ⟨he, K', hS188.call0 hS', hl190.trans hS'.le⟩) ?_
       refine wq_val wn rfl (fun _ _ => (rv_not rfl)) ?_
       refine qm rfl rfl ?_
       rcases bool_tf ((!r184)) with hb191 | hb191
       ·have h192 := cond_t hb191 h186
        refine wq_un (ug rfl rfl hb191) rfl ?_
        refine wq_un (ug rfl rfl hb191) rfl ?_
        refine wq_un (ug rfl rfl hb191) rfl ?_
        refine wq_un (ug rfl rfl hb191) rfl ?_
        refine wq_un (ug rfl rfl hb191) rfl ?_
        refine wq_un (ug rfl rfl hb191) rfl ?_
        refine wq_un (ug rfl rfl hb191) rfl ?_
        refine wq_un (ug rfl rfl hb191) rfl ?_
        refine wq_un (ug rfl rfl hb191) rfl ?_
        refine wq_un (ug rfl rfl hb191) rfl ?_
        refine wq_un (ug rfl rfl hb191) rfl ?_
        refine wq_un (ug rfl rfl hb191) rfl ?_
        refine wq_val wn rfl (fun _ _ => (rv_pick_t (v := .bool true) rfl hb191 rfl)) ?_
        refine qm rfl rfl ?_
        refine qv rfl rfl rfl rfl ?_
        refine qv rfl rfl rfl rfl ?_
        refine qv rfl rfl rfl rfl ?_
        refine qv rfl rfl rfl rfl ?_
        refine qv rfl rfl rfl rfl ?_
        refine qv rfl rfl rfl rfl ?_
        refine qv rfl rfl rfl rfl ?_
        refine qv rfl rfl rfl rfl ?_
        refine wq_val wn rfl (fun _ _ => (rv_pick_t (v := .bool true) rfl rfl rfl)) ?_
        refine wq_nil ?_
        rintro w194 ⟨K193, hS195, hl196⟩
        obtain rfl := oi h192
        exact qe_mid' ⟨K193, rfl, hS195, hl196⟩ ⟨rfl, rfl, rfl, rfl, rfl, trivial⟩
       ·have h192 := cond_f hb191 h186
        refine wq_val (wg rfl rfl hb191) rfl (fun _ _ => (rv_fieldAddr ff106_0 rfl)) ?_
        refine wq_val (wg rfl rfl hb191) rfl (rq_loadm1 tf23 rfl (.tail _ (.head _)) rfl) ?_
        refine wq_val (wg rfl rfl hb191) rfl (fun _ _ => (rv_move rfl)) ?_
        obtain ⟨x197, hx198, h199⟩ := ob h192
        refine wq_indexAddr (t := tStr) (wg rfl rfl hb191) rfl Tryz.underlying23 tf9 rfl rfl (SliceAt.mono hl157 hs135) hx198 ?_
        intro b200 o201 u202 hu203 ha204
        obtain ⟨rfl, hl205⟩ := hu203
        have ha206 : AtK _ b200 o201 [sv x197] := ha204
        refine wq_val (wg rfl rfl hb191) rfl (rq_load1 tf9 rfl (ha206 0 _ rfl)) ?_
        obtain ⟨r207, hx208, h209⟩ := ob h199
        refine wq_call (v := sv r207) (wg rfl rfl hb191) rfl (fun _ => rt_call (vs := [sv x197]) co110 rfl) (fun w212 ⟨K210, hS211, hl213⟩ => ((ok_spec_l2Stem F) hS211.enter0 hl205 hx208).mono fun e w' ⟨K', he, hS', _⟩ => ⟨he, K', hS211.call0 hS', hl213.trans hS'.le⟩) ?_
        obtain ⟨_, _, _, ⟨_, _, _, hl214⟩, _⟩ := (ok_spec_l2Stem F) hS159.enter0 hl205 hx208 []
        refine wq_val (wg rfl rfl hb191) rfl (fun _ _ => (rv_fieldAddr ff106_0 rfl)) ?_
        refine wq_val (wg rfl rfl hb191) rfl (rq_loadm1 tf23 rfl (.tail _ (.head _)) rfl) ?_
        refine wq_val (wg rfl rfl hb191) rfl (fun _ _ => (rv_move rfl)) ?_
        obtain ⟨x215, hx216, h217⟩ := ob h209
        refine wq_indexAddr (t := tStr) (wg rfl rfl hb191) rfl Tryz.underlying23 tf9 rfl rfl (SliceAt.mono hl157 hs135) hx216 ?_
        intro b218 o219 u220 hu221 ha222
        obtain ⟨rfl, hl223⟩ := hu221
        have ha224 : AtK _ b218 o219 [sv x215] := ha222
        refine wq_val (wg rfl rfl hb191) rfl (rq_load1 tf9 rfl (ha224 0 _ rfl)) ?_
        refine wq_val (wg rfl rfl hb191) rfl (fun _ _ => (rv_sneq rfl rfl)) ?_
        refine wq_val wn rfl (fun _ _ => (rv_pick_f rfl hb191 rfl)) ?_
        refine qm rfl rfl ?_
        rcases bool_tf ((!(r207 == x215))) with hb225 | hb225
        ·have h226 := cond_t hb225 h217
         refine wq_un (ug rfl rfl hb225) rfl ?_
         refine wq_un (ug rfl rfl hb225) rfl ?_
         refine wq_un (ug rfl rfl hb225) rfl ?_
         refine wq_un (ug rfl rfl hb225) rfl ?_
         refine wq_un (ug rfl rfl hb225) rfl ?_
         refine wq_un (ug rfl rfl hb225) rfl ?_
         refine wq_un (ug rfl rfl hb225) rfl ?_
         refine wq_un (ug rfl rfl hb225) rfl ?_
         refine wq_val wn rfl (fun _ _ => (rv_pick_t (v := .bool true) rfl hb225 rfl)) ?_
         refine wq_nil ?_
         rintro w228 ⟨K227, hS229, hl230⟩
         obtain rfl := oi h226
         exact qe_mid' ⟨K227, rfl, hS229, hl230⟩ ⟨rfl, rfl, rfl, rfl, rfl, trivial⟩
        ·have h226 := cond_f hb225 h217
         refine wq_val (wg rfl rfl hb225) rfl (fun _ _ => (rv_fieldAddr ff26_0 rfl)) ?_
         refine wq_val (wg rfl rfl hb225) rfl (rq_loadm1 tf23 rfl (.head _) rfl) ?_
         refine wq_val (wg rfl rfl hb225) rfl (fun _ _ => (rv_fieldAddr ff106_0 rfl)) ?_
         refine wq_val (wg rfl rfl hb225) rfl (rq_loadm1 tf23 rfl (.tail _ (.head _)) rfl) ?_
         refine wq_val (wg rfl rfl hb225) rfl (fun _ _ => (rv_move rfl)) ?_
         obtain ⟨x231, hx232, h233⟩ := ob h226
         refine wq_indexAddr (t := tStr) (wg rfl rfl hb225) rfl Tryz.underlying23 tf9 rfl rfl (SliceAt.mono hl157 hs135) hx232 ?_
         intro b234 o235 u236 hu237 ha238
         obtain ⟨rfl, hl239⟩ := hu237
         have ha240 : AtK _ b234 o235 [sv x231] := ha238
         refine wq_val (wg rfl rfl hb225) rfl (rq_load1 tf9 rfl (ha240 0 _ rfl)) ?_
         obtain ⟨r241, hx242, h243⟩ := ob h233
         refine wq_call (v := .bool r241) (wg rfl rfl hb225) rfl (fun _ => rt_call (vs := [.slice a1 n2 c3, sv x231]) co111 rfl) (fun w246 ⟨K244, hS245, hl247⟩ => ((ok_spec_l2Has F) hS245.enter0 (SliceAt.mono (((hl18.trans hl115).trans hl157).trans hl247) hs4) hl239 hx242).mono fun e w' ⟨K', he, hS'⟩ => ⟨he, K', hS245.call0 hS', hl247.trans hS'.le⟩) ?_
         refine wq_val wn rfl (fun _ _ => (rv_pick_f rfl hb225 rfl)) ?_
         refine wq_nil ?_
         rintro w249 ⟨K248, hS250, hl251⟩
         obtain rfl := oi h243
         exact qe_mid' ⟨K248, rfl, hS250, hl251⟩ ⟨rfl, rfl, rfl, rfl, rfl, trivial⟩
      ·rintro _ w172 ⟨K170, rfl, hS173, hl171⟩
       refine qe_seq ?_
       refine wc_cond rfl (fun hb252 => ?_) (fun hb252 => ?_)
       ·have h253 := cond_t hb252 h169
        refine sr ?_
        refine wl_val wn rfl (rv_assign (v := .bool false) rfl) ?_
        refine nq ?_
        refine wc_ret ?_
        refine qe_block_ret ?_
        refine qe_then_ret ?_
        refine qe_then_ret ?_
        obtain rfl := oi h253
        have e254 := hx164 _ rfl
        subst e254
        refine qe_block_ret ?_
        refine qe_then_ret ?_
        obtain rfl := oi h155
        refine qe_then_ret ?_
        refine qe_block_ret ?_
        refine qe_then_ret ?_
        refine qe_then_ret ?_
        obtain rfl := oi h146
        have e255 := hx121 _ rfl
        subst e255
        refine qe_block_ret ?_
        refine qe_then_ret ?_
        obtain rfl := oi h113
        refine qe_then_ret ?_
        obtain rfl := oi h104
        have hS256 : SH _ _ _ _ _ [] := SH.sublist hS173 (.cons _ (.cons _ .slnil))
        exact qe_ret (vs := [_]) Tryz.results64 ⟨rfl, trivial⟩ ⟨K170, rfl, hS256⟩
       ·have h253 := cond_f hb252 h169
        refine wc_skip ?_
        refine qe_block ?_
        refine qe_seq ?_
        refine wc_region ?_
        refine vm rfl rfl ?_
        refine wl_val wn rfl (rv_add rfl rfl) ?_
        refine va rfl rfl ?_
        refine wl_nil ?_
        obtain rfl := oi h253
        exact qe_mid' ⟨_, rfl, K170, rfl, hS173, (hl157.trans hl171), (w64_rng _)⟩ ⟨rfl, rfl, rfl, rfl, trivial⟩
     ·have h166 := cond_f hb165 h163
      refine wc_exit ?_
      refine qe_then_exit ?_
      refine qe_then_exit ?_
      obtain rfl := oi h166
      have e257 := hx164 _ rfl
      subst e257
      refine qe_block_eq ?_
      obtain rfl := oi h155
      exact qe_mid' ⟨_, K156, rfl, rfl, hS159, hl157⟩ ⟨rfl, rfl, rfl, trivial⟩
    ·rintro _ w150 ⟨s147, K148, rfl, rfl, hS151, hl149⟩
     refine qs ?_
     obtain ⟨o260, h261, h262⟩ := ob h146
     refine wc_cutg (fun E' w' => ∃ (K263 : KMap), E' = [(1, .pointer (some ⟨g9, 0, none⟩)), (4, .int .i64 s110), (107, .bool o260)] ∧ SH w K [] w' K263 [obj g9 [.slice a1 n2 c3, .slice a5 n6 c7] 26] ∧ KLe K148 K263) ?_ ?_
     ·refine wc_quiet mixed (by kernel_rfl) hS151 ?_
      refine wq_val wn rfl (fun _ _ => (rv_fieldAddr ff106_0 rfl)) ?_
      refine wq_val wn rfl (rq_loadm1 tf23 rfl (.tail _ (.head _)) rfl) ?_
      refine wq_val wn rfl (fun _ _ => (rv_len (t := tStr) Tryz.underlying23 rfl (SliceAt.mono hl149 hs135))) ?_
      obtain ⟨r267, hx268, h269⟩ := ob h261
      refine wq_call (v := .bool r267) wn rfl (fun _ => rt_call (vs := [.int .i64 (x124.From.length : Int), .int .i64 1, .int .i64 3]) co112 rfl) (fun w272 ⟨K270, hS271, hl273⟩ => ((ok_spec_l1In F) hS271.enter0 (rng_nat (SliceAt.max (SliceAt.mono hl149 hs135))) (by decide : rng64 1) (by decide : rng64 3) hx268).mono fun e w' ⟨K', he, hS'⟩ => ⟨he, K', hS271.call0 hS', hl273.trans hS'.le⟩) ?_
      refine wq_val wn rfl (fun _ _ => (rv_not rfl)) ?_
      refine qm rfl rfl ?_
      rcases bool_tf ((!r267)) with hb274 | hb274
      ·have h275 := cond_t hb274 h269
       refine wq_un (ug rfl rfl hb274) rfl ?_
       refine wq_un (ug rfl rfl hb274) rfl ?_
       refine wq_un (ug rfl rfl hb274) rfl ?_
       refine wq_un (ug rfl rfl hb274) rfl ?_
       refine wq_val wn rfl (fun _ _ => (rv_pick_t (v := .bool true) rfl hb274 rfl)) ?_
       refine qm rfl rfl ?_
       refine qv rfl rfl rfl rfl ?_
       refine qv rfl rfl rfl rfl ?_
       refine qv rfl rfl rfl rfl ?_
       refine qv rfl rfl rfl rfl ?_
       refine qv rfl rfl rfl rfl ?_
       refine qv rfl rfl rfl rfl ?_
       refine wq_val wn rfl (fun _ _ => (rv_pick_t (v := .bool true) rfl rfl rfl)) ?_
       refine wq_nil ?_
       rintro w277 ⟨K276, hS278, hl279⟩
       obtain rfl := oi h275
       have hS280 : SH _ _ _ _ _ [_] := SH.sublist hS278 (.cons_cons _ (.cons _ .slnil))
       exact qe_mid' ⟨K276, rfl, hS280, hl279⟩ ⟨rfl, rfl, rfl, trivial⟩
      ·have h275 := cond_f hb274 h269
       refine wq_val (wg rfl rfl hb274) rfl (fun _ _ => (rv_fieldAddr ff106_1 rfl)) ?_
       refine wq_val (wg rfl rfl hb274) rfl (rq_loadm1 tf9 rfl (.tail _ (.head _)) rfl) ?_
       obtain ⟨r281, hx282, h283⟩ := ob h275
       refine wq_call (v := .bool r281) (wg rfl rfl hb274) rfl (fun _ => rt_call (vs := [sv x124.To]) co109 rfl) (fun w286 ⟨K284, hS285, hl287⟩ => ((ok_spec_l1WordOk F) hS285.enter0 hl136 hx282).mono fun e w' ⟨K', he, hS'⟩ => ⟨he, K', hS285.call0 hS', hl287.trans hS'.le⟩) ?_
       refine wq_val (wg rfl rfl hb274) rfl (fun _ _ => (rv_not rfl)) ?_
       refine wq_val wn rfl (fun _ _ => (rv_pick_f rfl hb274 rfl)) ?_
       refine qm rfl rfl ?_
       rcases bool_tf ((!r281)) with hb288 | hb288
       ·have h289 := cond_t hb288 h283
        refine wq_un (ug rfl rfl hb288) rfl ?_
        refine wq_un (ug rfl rfl hb288) rfl ?_
        refine wq_un (ug rfl rfl hb288) rfl ?_
        refine wq_un (ug rfl rfl hb288) rfl ?_
        refine wq_un (ug rfl rfl hb288) rfl ?_
        refine wq_un (ug rfl rfl hb288) rfl ?_
        refine wq_val wn rfl (fun _ _ => (rv_pick_t (v := .bool true) rfl hb288 rfl)) ?_
        refine wq_nil ?_
        rintro w291 ⟨K290, hS292, hl293⟩
        obtain rfl := oi h289
        have hS294 : SH _ _ _ _ _ [_] := SH.sublist hS292 (.cons_cons _ (.cons _ .slnil))
        exact qe_mid' ⟨K290, rfl, hS294, hl293⟩ ⟨rfl, rfl, rfl, trivial⟩
       ·have h289 := cond_f hb288 h283
        refine wq_val (wg rfl rfl hb288) rfl (fun _ _ => (rv_fieldAddr ff106_1 rfl)) ?_
        refine wq_val (wg rfl rfl hb288) rfl (rq_loadm1 tf9 rfl (.tail _ (.head _)) rfl) ?_
        obtain ⟨r295, hx296, h297⟩ := ob h289
        refine wq_call (v := sv r295) (wg rfl rfl hb288) rfl (fun _ => rt_call (vs := [sv x124.To]) co110 rfl) (fun w300 ⟨K298, hS299, hl301⟩ => ((ok_spec_l2Stem F) hS299.enter0 hl136 hx296).mono fun e w' ⟨K', he, hS', _⟩ => ⟨he, K', hS299.call0 hS', hl301.trans hS'.le⟩) ?_
        obtain ⟨_, _, _, ⟨_, _, _, hl302⟩, _⟩ := (ok_spec_l2Stem F) hS151.enter0 hl136 hx296 []
        refine wq_val (wg rfl rfl hb288) rfl (fun _ _ => (rv_fieldAddr ff106_1 rfl)) ?_
        refine wq_val (wg rfl rfl hb288) rfl (rq_loadm1 tf9 rfl (.tail _ (.head _)) rfl) ?_
        refine wq_val (wg rfl rfl hb288) rfl (fun _ _ => (rv_sneq rfl rfl)) ?_
        refine wq_val wn rfl (fun _ _ => (rv_pick_f rfl hb288 rfl)) ?_
        refine wq_nil ?_
        rintro w304 ⟨K303, hS305, hl306⟩
        obtain rfl := oi h297
        have hS307 : SH _ _ _ _ _ [_] := SH.sublist hS305 (.cons_cons _ (.cons _ .slnil))
        exact qe_mid' ⟨K303, rfl, hS307, hl306⟩ ⟨rfl, rfl, rfl, trivial⟩
     ·rintro _ w265 ⟨K263, rfl, hS266, hl264⟩
      refine qe_seq ?_
      refine wc_cond rfl (fun hb308 => ?_) (fun hb308 => ?_)
      ·have h309 := cond_t hb308 h262
       refine sr ?_
       refine wl_val wn rfl (rv_assign (v := .bool false) rfl) ?_
       refine nq ?_
       refine wc_ret ?_
       refine qe_block_ret ?_
       refine qe_then_ret ?_
       refine qe_then_ret ?_
       obtain rfl := oi h309
       have e310 := hx121 _ rfl
       subst e310
       refine qe_block_ret ?_
       refine qe_then_ret ?_
       obtain rfl := oi h113
       refine qe_then_ret ?_
       obtain rfl := oi h104
       have hS311 : SH _ _ _ _ _ [] := SH.sublist hS266 (.cons _ .slnil)
       exact qe_ret (vs := [_]) Tryz.results64 ⟨rfl, trivial⟩ ⟨K263, rfl, hS311⟩
      ·have h309 := cond_f hb308 h262
       refine wc_skip ?_
       refine qe_block ?_
       refine qe_seq ?_
       refine wc_region ?_
       refine vm rfl rfl ?_
       refine wl_val wn rfl (rv_add rfl rfl) ?_
       refine va rfl rfl ?_
       refine wl_nil ?_
       obtain rfl := oi h309
       exact qe_mid' ⟨_, rfl, K263, rfl, hS266, ((hl115.trans hl149).trans hl264), (w64_rng _)⟩ ⟨rfl, rfl, trivial⟩
   ·have h123 := cond_f hb122 h120
    refine wc_exit ?_
    refine qe_then_exit ?_
    refine qe_then_exit ?_
    obtain rfl := oi h123
    have e313 := hx121 _ rfl
    subst e313
    refine qe_block_eq ?_
    obtain rfl := oi h113
    exact qe_mid' ⟨_, K114, rfl, rfl, hS117, hl115⟩ ⟨rfl, trivial⟩
  ·rintro _ w108 ⟨s105, K106, rfl, rfl, hS109, hl107⟩
   refine qr ?_
   refine wl_val wn rfl (rv_fieldAddr ff26_0 rfl) ?_
   refine wl_val wn rfl (rv_loadm1 tf23 rfl (.head _) hS109 rfl) ?_
   refine wl_val wn rfl (rv_len (t := tStr) Tryz.underlying23 rfl (SliceAt.mono (hl18.trans hl107) hs4)) ?_
   refine wl_val wn rfl (rv_leq rfl rfl) ?_
   refine vm rfl rfl ?_
   rcases bool_tf (decide ((p0_c.Stops.length : Int) ≤ (6 : Int))) with hb316 | hb316
   ·have h317 := cond_t hb316 h104
    refine wl_val (wg rfl rfl hb316) rfl (rv_fieldAddr ff26_1 rfl) ?_
    refine wl_val (wg rfl rfl hb316) rfl (rv_loadm1 tf24 rfl (.head _) hS109 rfl) ?_
    refine wl_val (wg rfl rfl hb316) rfl (rv_len (t := tGSyn) Tryz.underlying24 rfl (SliceAt.mono (hl18.trans hl107) hs8)) ?_
    refine wl_val (wg rfl rfl hb316) rfl (rv_leq rfl rfl) ?_
    refine wl_val wn rfl (rv_pick_t rfl hb316 rfl) ?_
    refine va rfl rfl ?_
    refine nq ?_
    refine wc_ret ?_
    obtain rfl := oi h317
    have hS318 : SH _ _ _ _ _ [] := SH.sublist hS109 (.cons _ .slnil)
    exact qe_ret (vs := [_]) Tryz.results64 ⟨rfl, trivial⟩ ⟨K106, rfl, hS318⟩
   ·have h317 := cond_f hb316 h104
    refine wl_un (ug rfl rfl hb316) rfl ?_
    refine wl_un (ug rfl rfl hb316) rfl ?_
    refine wl_un (ug rfl rfl hb316) rfl ?_
    refine wl_un (ug rfl rfl hb316) rfl ?_
    refine wl_val wn rfl (rv_pick_f (v := .bool false) rfl hb316 rfl) ?_
    refine va rfl rfl ?_
    refine nq ?_
    refine wc_ret ?_
    obtain rfl := oi h317
    have hS319 : SH _ _ _ _ _ [] := SH.sublist hS109 (.cons _ .slnil)
    exact qe_ret (vs := [_]) Tryz.results64 ⟨rfl, trivial⟩ ⟨K106, rfl, hS319⟩

theorem ok_spec_l1Text (F : Nat) {w : World} {K : KMap} {p0_s : Str} {r : Bool} (hS : SH w K [] w K []) (hl1 : p0_s.length ≤ maxLen) (hm : M.spec_l1Text F p0_s = some r) :
  Calls Tryz.prog 146 #[sv p0_s] w fun e w' => ∃ (K' : KMap), e = .returned (.bool r) ∧ SH w K [] w' K' [] := by
 rw [M.spec_l1Text] at hm
 refine calls_in Tryz.func146 rfl Tryz.ntmps146 rfl ?_
 refine sr ?_
 refine wl_val wn rfl (rv_assign (v := .bool false) rfl) ?_
 refine nsr ?_
 refine wl_val wn rfl (rv_assign (v := .int .i64 0) rfl) ?_
 refine nq ?_
 obtain ⟨o2, h3, h4⟩ := ob hm
 refine wc_cutg (fun E' w' => ∃ (s5 : Unit) (K6 : KMap), o2 = .inl s5 ∧ E' = [(0, sv p0_s)] ∧ SH w K [] w' K6 [] ∧ KLe K K6) ?_ ?_
 ·refine wc_block ?_
  obtain ⟨r11, h12, h13⟩ := ob h3
  refine wc_while' (fun (s10 : Int) E' w' => ∃ (K14 : KMap), E' = [(0, sv p0_s), (3, .int .i64 s10)] ∧ SH w K [] w' K14 [] ∧ KLe K K14 ∧ rng64 s10) h12 ⟨K, rfl, hS, (KLe.refl _), (by decide : rng64 0)⟩ ⟨rfl, rfl, trivial⟩ ?_
  rintro s10 _ w16 r19 h20 hx21 ⟨K14, rfl, hS17, hl15, hr18⟩
  refine wc_seq ?_
  refine sr ?_
  refine vm rfl rfl ?_
  refine vm rfl rfl ?_
  refine wl_val wn rfl (rv_slen Tryz.underlying9 rfl) ?_
  refine wl_val wn rfl (rv_lss rfl rfl) ?_
  refine nq ?_
  refine wc_cond rfl (fun hb22 => ?_) (fun hb22 => ?_)
  ·have h23 := cond_t hb22 h20
   refine wc_skip ?_
   refine qs ?_
   refine wc_block ?_
   refine wc_seq ?_
   obtain ⟨o24, h25, h26⟩ := ob h23
   refine wc_cutg (fun E' w' => ∃ (K27 : KMap), E' = [(0, sv p0_s), (3, .int .i64 s10), (19, .bool o24)] ∧ SH w K [] w' K27 [] ∧ KLe K14 K27) ?_ ?_
   ·refine wc_region ?_
    refine vm rfl rfl ?_
    refine vm rfl rfl ?_
    obtain ⟨x31, hx32, h33⟩ := ob h25
    refine wl_val wn rfl (rv_sidx Tryz.underlying9 rfl rfl hx32) ?_
    refine wl_val wn rfl (rv_bl (b := (32 : UInt8)) rfl rfl) ?_
    refine vm rfl rfl ?_
    rcases bool_tf (decide (x31 < (32 : UInt8))) with hb34 | hb34
    ·have h35 := cond_t hb34 h33
     refine wl_un (ug rfl rfl hb34) rfl ?_
     refine wl_un (ug rfl rfl hb34) rfl ?_
     refine wl_un (ug rfl rfl hb34) rfl ?_
     refine wl_un (ug rfl rfl hb34) rfl ?_
     refine wl_val wn rfl (rv_pick_t (v := .bool true) rfl hb34 rfl) ?_
     refine wl_nil ?_
     obtain rfl := oi h35
     exact qe_mid' ⟨K14, rfl, hS17, (KLe.refl _)⟩ ⟨rfl, rfl, rfl, trivial⟩
    ·have h35 := cond_f hb34 h33
     refine wl_val (wg rfl rfl hb34) rfl (rv_move rfl) ?_
     refine wl_val (wg rfl rfl hb34) rfl (rv_move rfl) ?_
     obtain ⟨x36, hx37, h38⟩ := ob h35
     refine wl_val (wg rfl rfl hb34) rfl (rv_sidx Tryz.underlying9 rfl rfl hx37) ?_
     refine wl_val (wg rfl rfl hb34) rfl (rv_bg (b := (126 : UInt8)) rfl rfl) ?_
     refine wl_val wn rfl (rv_pick_f rfl hb34 rfl) ?_
     refine wl_nil ?_
     obtain rfl := oi h38
     exact qe_mid' ⟨K14, rfl, hS17, (KLe.refl _)⟩ ⟨rfl, rfl, rfl, trivial⟩
   ·rintro _ w29 ⟨K27, rfl, hS30, hl28⟩
    refine qe_seq ?_
    refine wc_cond rfl (fun hb39 => ?_) (fun hb39 => ?_)
    ·have h40 := cond_t hb39 h26
     refine sr ?_
     refine wl_val wn rfl (rv_assign (v := .bool false) rfl) ?_
     refine nq ?_
     refine wc_ret ?_
     refine qe_block_ret ?_
     refine qe_then_ret ?_
     refine qe_then_ret ?_
     obtain rfl := oi h40
     have e41 := hx21 _ rfl
     subst e41
     refine qe_block_ret ?_
     refine qe_then_ret ?_
     obtain rfl := oi h13
     refine qe_then_ret ?_
     obtain rfl := oi h4
     exact qe_ret (vs := [_]) Tryz.results146 ⟨rfl, trivial⟩ ⟨K27, rfl, hS30⟩
    ·have h40 := cond_f hb39 h26
     refine wc_skip ?_
     refine qe_block ?_
     refine qe_seq ?_
     refine wc_region ?_
     refine vm rfl rfl ?_
     refine wl_val wn rfl (rv_add rfl rfl) ?_
     refine va rfl rfl ?_
     refine wl_nil ?_
     obtain rfl := oi h40
     exact qe_mid' ⟨_, rfl, K27, rfl, hS30, (hl15.trans hl28), (w64_rng _)⟩ ⟨rfl, rfl, trivial⟩
  ·have h23 := cond_f hb22 h20
   refine wc_exit ?_
   refine qe_then_exit ?_
   refine qe_then_exit ?_
   obtain rfl := oi h23
   have e42 := hx21 _ rfl
   subst e42
   refine qe_block_eq ?_
   obtain rfl := oi h13
   exact qe_mid' ⟨_, K14, rfl, rfl, hS17, hl15⟩ ⟨rfl, trivial⟩
 ·rintro _ w8 ⟨s5, K6, rfl, rfl, hS9, hl7⟩
  refine qr ?_
  refine vm rfl rfl ?_
  refine wl_val wn rfl (rv_slen Tryz.underlying9 rfl) ?_
  refine wl_val wn rfl (rv_leq rfl rfl) ?_
  refine va rfl rfl ?_
  refine nq ?_
  refine wc_ret ?_
  obtain rfl := oi h4
  exact qe_ret (vs := [_]) Tryz.results146 ⟨rfl, trivial⟩ ⟨K6, rfl, hS9⟩

set_option maxHeartbeats 2000000 in
theorem ok_spec_l6Ok (F : Nat) {w : World} {K : KMap} {a2 : Option Addr} {n3 c4 : Nat} {a6 : Option Addr} {n7 c8 : Nat} {p0_d : GDoc} {r : Bool} (hS : SH w K [] w K []) (hr1 : rng64 p0_d.Id) (hs5 : SliceAt tGField K a2 n3 c4 p0_d.Fields) (hs9 : SliceAt tGAttr K a6 n7 c8 p0_d.Nums) (hm : M.spec_l6Ok F p0_d = some r) :
  Calls Tryz.prog 113 #[.agg #[.int .i64 p0_d.Id, .slice a2 n3 c4, .slice a6 n7 c8]] w fun e w' => ∃ (K' : KMap), e = .returned (.bool r) ∧ SH w K [] w' K' [] := by
 rw [M.spec_l6Ok] at hm
 refine calls_in Tryz.func113 rfl Tryz.ntmps113 rfl ?_
 refine sr ?_
 refine wl_box wn rfl rfl hS ?_
 intro g10 w11 hS12
 have hS13 : SH _ _ _ _ _ [obj g10 [.int .i64 p0_d.Id, .slice a2 n3 c4, .slice a6 n7 c8] 44] := hS12
 refine wl_val wn rfl (rv_assign (v := .bool false) rfl) ?_
 refine nsr ?_
 refine wl_val wn rfl (rv_assign (v := .int .i64 0) rfl) ?_
 refine nq ?_
 obtain ⟨o14, h15, h16⟩ := ob hm
 refine wc_cutg (fun E' w' => ∃ (s17 : Unit) (K18 : KMap), o14 = .inl s17 ∧ E' = [(1, .pointer (some ⟨g10, 0, none⟩))] ∧ SH w K [] w' K18 [obj g10 [.int .i64 p0_d.Id, .slice a2 n3 c4, .slice a6 n7 c8] 44] ∧ KLe K K18) ?_ ?_
 ·refine wc_block ?_
  obtain ⟨r23, h24, h25⟩ := ob h15
  refine wc_while' (fun (s22 : Int) E' w' => ∃ (K26 : KMap), E' = [(1, .pointer (some ⟨g10, 0, none⟩)), (3, .int .i64 s22)] ∧ SH w K [] w' K26 [obj g10 [.int .i64 p0_d.Id, .slice a2 n3 c4, .slice a6 n7 c8] 44] ∧ KLe K K26 ∧ rng64 s22) h24 ⟨K, rfl, hS13, (KLe.refl _), (by decide : rng64 0)⟩ ⟨rfl, rfl, trivial⟩ ?_
  rintro s22 _ w28 r31 h32 hx33 ⟨K26, rfl, hS29, hl27, hr30⟩
  refine wc_seq ?_
  refine sr ?_
  refine vm rfl rfl ?_
  refine wl_val wn rfl (rv_fieldAddr ff44_1 rfl) ?_
  refine wl_val wn rfl (rv_loadm1 tf41 rfl (.head _) hS29 rfl) ?_
  refine wl_val wn rfl (rv_len (t := tGField) Tryz.underlying41 rfl (SliceAt.mono hl27 hs5)) ?_
  refine wl_val wn rfl (rv_lss rfl rfl) ?_
  refine nq ?_
  refine wc_cond rfl (fun hb34 => ?_) (fun hb34 => ?_)
  ·have h35 := cond_t hb34 h32
   refine wc_skip ?_
   refine qs ?_
   refine wc_block ?_
   refine sr ?_
   refine wl_val wn rfl (rv_fieldAddr ff44_1 rfl) ?_
   refine wl_val wn rfl (rv_loadm1 tf41 rfl (.head _) hS29 rfl) ?_
   refine vm rfl rfl ?_
   obtain ⟨x36, hx37, h38⟩ := ob h35
   refine wl_indexAddr (t := tGField) wn rfl Tryz.underlying41 tf109 rfl rfl (SliceAt.mono hl27 hs5) hx37 ?_
   intro b39 o40 u41 hu42 ha43
   obtain ⟨rfl, hl44, hl45⟩ := hu42
   have ha46 : AtK _ b39 o40 [sv x36.Name, sv x36.Text] := ha43
   refine wl_val wn rfl (rv_loadS (cs := [sv x36.Name, sv x36.Text]) tf109 rfl hS29 ha46 rfl) ?_
   refine wl_alloc wn rfl tf109 hS29 ?_
   intro g47 w48 hS49
   have hS50 : SH _ _ _ _ _ [obj g47 [sv [], sv []] 109, _] := hS49
   refine wl_store (cs' := [sv x36.Name, sv x36.Text]) (v := .agg #[sv x36.Name, sv x36.Text]) wn tf109 rfl rfl rfl (by simp [Value.cells, Value.oneCell', sv]) hS50 rfl rfl ?_
   intro w51 hS52
   refine ns ?_
   obtain ⟨o53, h54, h55⟩ := ob h38
   refine wc_cutg (fun E' w' => ∃ (K56 : KMap), E' = [(1, .pointer (some ⟨g10, 0, none⟩)), (3, .int .i64 s22), (43, .bool o53)] ∧ SH w K [] w' K56 [obj g10 [.int .i64 p0_d.Id, .slice a2 n3 c4, .slice a6 n7 c8] 44] ∧ KLe K26 K56) ?_ ?_
   ·refine wc_quiet mixed (by kernel_rfl) hS52 ?_
    refine wq_val wn rfl (fun _ _ => (rv_fieldAddr ff109_0 rfl)) ?_
    refine wq_val wn rfl (rq_loadm1 tf9 rfl (.head _) rfl) ?_
    obtain ⟨r60, hx61, h62⟩ := ob h54
    refine wq_call (v := .bool r60) wn rfl (fun _ => rt_call (vs := [sv x36.Name]) co109 rfl) (fun w65 ⟨K63, hS64, hl66⟩ => ((ok_spec_l1WordOk F) hS64.enter0 hl44 hx61).mono fun e w' ⟨K', he, hS'⟩ => ⟨he, K', hS64.call0 hS', hl66.trans hS'.le⟩) ?_
    refine wq_val wn rfl (fun _ _ => (rv_not rfl)) ?_
    refine qm rfl rfl ?_
    rcases bool_tf ((!r60)) with hb67 | hb67
    ·have h68 := cond_t hb67 h62
     refine wq_un (ug rfl rfl hb67) rfl ?_
     refine wq_un (ug rfl rfl hb67) rfl ?_
     refine wq_un (ug rfl rfl hb67) rfl ?_
     refine wq_un (ug rfl rfl hb67) rfl ?_
     refine wq_val wn rfl (fun _ _ => (rv_pick_t (v := .bool true) rfl hb67 rfl)) ?_
     refine qm rfl rfl ?_
     refine qv rfl rfl rfl rfl ?_
     refine qv rfl rfl rfl rfl ?_
     refine qv rfl rfl rfl rfl ?_
     refine qu rfl rfl rfl ?_
     refine qu rfl rfl rfl ?_
     refine qu rfl rfl rfl ?_
     refine qu rfl rfl rfl ?_
     refine qu rfl rfl rfl ?_
     refine qu rfl rfl rfl ?_
     refine qu rfl rfl rfl ?_
     refine qu rfl rfl rfl ?_
     refine qu rfl rfl rfl ?_
     refine qu rfl rfl rfl ?_
     refine qv rfl rfl rfl rfl ?_
     refine wq_val wn rfl (fun _ _ => (rv_pick_t (v := .bool true) rfl rfl rfl)) ?_
     refine wq_nil ?_
     rintro w70 ⟨K69, hS71, hl72⟩
     obtain rfl := oi h68
     have hS73 : SH _ _ _ _ _ [_] := SH.sublist hS71 (.cons _ (.cons_cons _ .slnil))
     exact qe_mid' ⟨K69, rfl, hS73, hl72⟩ ⟨rfl, rfl, rfl, trivial⟩
    ·have h68 := cond_f hb67 h62
     refine wq_val (wg rfl rfl hb67) rfl (fun _ _ => (rv_fieldAddr ff109_1 rfl)) ?_
     refine wq_val (wg rfl rfl hb67) rfl (rq_loadm1 tf9 rfl (.head _) rfl) ?_
     obtain ⟨r74, hx75, h76⟩ := ob h68
     refine wq_call (v := .bool r74) (wg rfl rfl hb67) rfl (fun _ => rt_call (vs := [sv x36.Text]) co146 rfl) (fun w79 ⟨K77, hS78, hl80⟩ => ((ok_spec_l1Text F) hS78.enter0 hl45 hx75).mono fun e w' ⟨K', he, hS'⟩ => ⟨he, K', hS78.call0 hS', hl80.trans hS'.le⟩) ?_
     refine wq_val (wg rfl rfl hb67) rfl (fun _ _ => (rv_not rfl)) ?_
     refine wq_val wn rfl (fun _ _ => (rv_pick_f rfl hb67 rfl)) ?_
     refine qm rfl rfl ?_
     rcases bool_tf ((!r74)) with hb81 | hb81
     ·have h82 := cond_t hb81 h76
      refine wq_un (ug rfl rfl hb81) rfl ?_
      refine wq_un (ug rfl rfl hb81) rfl ?_
      refine wq_un (ug rfl rfl hb81) rfl ?_
      refine qu rfl rfl rfl ?_
      refine qu rfl rfl rfl ?_
      refine qu rfl rfl rfl ?_
      refine qu rfl rfl rfl ?_
      refine qu rfl rfl rfl ?_
      refine qu rfl rfl rfl ?_
      refine qu rfl rfl rfl ?_
      refine qu rfl rfl rfl ?_
      refine qu rfl rfl rfl ?_
      refine qu rfl rfl rfl ?_
      refine wq_un (ug rfl rfl hb81) rfl ?_
      refine wq_val wn rfl (fun _ _ => (rv_pick_t (v := .bool true) rfl hb81 rfl)) ?_
      refine wq_nil ?_
      rintro w84 ⟨K83, hS85, hl86⟩
      obtain rfl := oi h82
      have hS87 : SH _ _ _ _ _ [_] := SH.sublist hS85 (.cons _ (.cons_cons _ .slnil))
      exact qe_mid' ⟨K83, rfl, hS87, hl86⟩ ⟨rfl, rfl, rfl, trivial⟩
     ·have h82 := cond_f hb81 h76
      refine wq_val (wg rfl rfl hb81) rfl (fun _ _ => (rv_move rfl)) ?_
      refine wq_val (wg rfl rfl hb81) rfl (fun _ _ => (rv_gtr rfl rfl)) ?_
      refine wq_val (wg rfl rfl hb81) rfl (fun _ _ => (rv_move rfl)) ?_
      rcases bool_tf (decide ((0 : Int) < s22)) with hb88 | hb88
      ·have h89 := cond_t hb88 h82
       refine wq_val (wg rfl rfl hb88) rfl (fun _ _ => (rv_fieldAddr ff109_0 rfl)) ?_
       refine wq_val (wg rfl rfl hb88) rfl (rq_loadm1 tf9 rfl (.head _) rfl) ?_
       refine wq_val (wg rfl rfl hb88) rfl (fun _ _ => (rv_fieldAddr ff44_1 rfl)) ?_
       refine wq_val (wg rfl rfl hb88) rfl (rq_loadm1 tf41 rfl (.tail _ (.head _)) rfl) ?_
       refine wq_val (wg rfl rfl hb88) rfl (fun _ _ => (rv_move rfl)) ?_
       refine wq_val (wg rfl rfl hb88) rfl (fun _ _ => (rv_sub rfl rfl)) ?_
       obtain ⟨x90, hx91, h92⟩ := ob h89
       refine wq_indexAddr (t := tGField) (wg rfl rfl hb88) rfl Tryz.underlying41 tf109 rfl rfl (SliceAt.mono hl27 hs5) hx91 ?_
       intro b93 o94 u95 hu96 ha97
       obtain ⟨rfl, hl98, hl99⟩ := hu96
       have ha100 : AtK _ b93 o94 [sv x90.Name, sv x90.Text] := ha97
       refine wq_val (wg rfl rfl hb88) rfl (fun _ _ => (rv_fieldAddr ff109_0 rfl)) ?_
       refine wq_val (wg rfl rfl hb88) rfl (rq_load1 tf9 rfl (ha100 0 _ rfl)) ?_
       refine wq_val (wg rfl rfl hb88) rfl (fun _ _ => (rv_sleq rfl rfl)) ?_
       refine wq_val (wg rfl rfl hb81) rfl (fun _ _ => (rv_pick_t rfl hb88 rfl)) ?_
       refine wq_val wn rfl (fun _ _ => (rv_pick_f rfl hb81 rfl)) ?_
       refine wq_nil ?_
       rintro w102 ⟨K101, hS103, hl104⟩
       obtain rfl := oi h92
       have hS105 : SH _ _ _ _ _ [_] := SH.sublist hS103 (.cons _ (.cons_cons _ .slnil))
       exact qe_mid' ⟨K101, rfl, hS105, hl104⟩ ⟨rfl, rfl, rfl, trivial⟩
      ·have h89 := cond_f hb88 h82
       refine wq_un (ug rfl rfl hb88) rfl ?_
       refine wq_un (ug rfl rfl hb88) rfl ?_
       refine wq_un (ug rfl rfl hb88) rfl ?_
       refine wq_un (ug rfl rfl hb88) rfl ?_
       refine wq_un (ug rfl rfl hb88) rfl ?_
       refine wq_un (ug rfl rfl hb88) rfl ?_
       refine wq_un (ug rfl rfl hb88) rfl ?_
       refine wq_un (ug rfl rfl hb88) rfl ?_
       refine wq_un (ug rfl rfl hb88) rfl ?_
       refine wq_un (ug rfl rfl hb88) rfl ?_
       refine wq_val (wg rfl rfl hb81) rfl (fun _ _ => (rv_pick_f (v := .bool false) rfl hb88 rfl)) ?_
       refine wq_val wn rfl (fun _ _ => (rv_pick_f rfl hb81 rfl)) ?_
       refine wq_nil ?_
       rintro w107 ⟨K106, hS108, hl109⟩
       obtain rfl := oi h89
       have hS110 : SH _ _ _ _ _ [_] := SH.sublist hS108 (.cons _ (.cons_cons _ .slnil))
       exact qe_mid' ⟨K106, rfl, hS110, hl109⟩ ⟨rfl, rfl, rfl, trivial⟩
   ·rintro _ w58 ⟨K56, rfl, hS59, hl57⟩
    refine qe_seq ?_
    refine wc_cond rfl (fun hb111 => ?_) (fun hb111 => ?_)
    ·have h112 := cond_t hb111 h55
     refine sr ?_
     refine wl_val wn rfl (rv_assign (v := .bool false) rfl) ?_
     refine nq ?_
     refine wc_ret ?_
     refine qe_block_ret ?_
     refine qe_then_ret ?_
     refine qe_then_ret ?_
     obtain rfl := oi h112
     have e113 := hx33 _ rfl
     subst e113
     refine qe_block_ret ?_
     refine qe_then_ret ?_
     obtain rfl := oi h25
     refine qe_then_ret ?_
     obtain rfl := oi h16
     have hS114 : SH _ _ _ _ _ [] := SH.sublist hS59 (.cons _ .slnil)
     exact qe_ret (vs := [_]) Tryz.results113 ⟨rfl, trivial⟩ ⟨K56, rfl, hS114⟩
    ·have h112 := cond_f hb111 h55
     refine wc_skip ?_
     refine qe_block ?_
     refine qe_seq ?_
     refine wc_region ?_
     refine vm rfl rfl ?_
     refine wl_val wn rfl (rv_add rfl rfl) ?_
     refine va rfl rfl ?_
     refine wl_nil ?_
     obtain rfl := oi h112
     exact qe_mid' ⟨_, rfl, K56, rfl, hS59, (hl27.trans hl57), (w64_rng _)⟩ ⟨rfl, rfl, trivial⟩
  ·have h35 := cond_f hb34 h32
   refine wc_exit ?_
   refine qe_then_exit ?_
   refine qe_then_exit ?_
   obtain rfl := oi h35
   have e115 := hx33 _ rfl
   subst e115
   refine qe_block_eq ?_
   obtain rfl := oi h25
   exact qe_mid' ⟨_, K26, rfl, rfl, hS29, hl27⟩ ⟨rfl, trivial⟩
 ·rintro _ w20 ⟨s17, K18, rfl, rfl, hS21, hl19⟩
  refine qs ?_
  refine sr ?_
  refine wl_val wn rfl (rv_assign (v := .int .i64 0) rfl) ?_
  refine nq ?_
  obtain ⟨o118, h119, h120⟩ := ob h16
  refine wc_cutg (fun E' w' => ∃ (s121 : Unit) (K122 : KMap), o118 = .inl s121 ∧ E' = [(1, .pointer (some ⟨g10, 0, none⟩))] ∧ SH w K [] w' K122 [obj g10 [.int .i64 p0_d.Id, .slice a2 n3 c4, .slice a6 n7 c8] 44] ∧ KLe K18 K122) ?_ ?_
  ·refine wc_block ?_
   obtain ⟨r127, h128, h129⟩ := ob h119
   refine wc_while' (fun (s126 : Int) E' w' => ∃ (K130 : KMap), E' = [(1, .pointer (some ⟨g10, 0, none⟩)), (5, .int .i64 s126)] ∧ SH w K [] w' K130 [obj g10 [.int .i64 p0_d.Id, .slice a2 n3 c4, .slice a6 n7 c8] 44] ∧ KLe K18 K130 ∧ rng64 s126) h128 ⟨K18, rfl, hS21, (KLe.refl _), (by decide : rng64 0)⟩ ⟨rfl, rfl, trivial⟩ ?_
   rintro s126 _ w132 r135 h136 hx137 ⟨K130, rfl, hS133, hl131, hr134⟩
   refine wc_seq ?_
   refine sr ?_
   refine vm rfl rfl ?_
   refine wl_val wn rfl (rv_fieldAddr ff44_2 rfl) ?_
   refine wl_val wn rfl (rv_loadm1 tf42 rfl (.head _) hS133 rfl) ?_
   refine wl_val wn rfl (rv_len (t := tGAttr) Tryz.underlying42 rfl (SliceAt.mono (hl19.trans hl131) hs9)) ?_
   refine wl_val wn rfl (rv_lss rfl rfl) ?_
   refine nq ?_
   refine wc_cond rfl (fun hb138 => ?_) (fun hb138 => ?_)
   ·have h139 := cond_t hb138 h136
    refine wc_skip ?_
    refine qs ?_
    refine wc_block ?_
    refine wc_seq ?_
    obtain ⟨o140, h141, h142⟩ := ob h139
    refine wc_cutg (fun E' w' => ∃ (K143 : KMap), E' = [(1, .pointer (some ⟨g10, 0, none⟩)), (5, .int .i64 s126), (88, .bool o140)] ∧ SH w K [] w' K143 [obj g10 [.int .i64 p0_d.Id, .slice a2 n3 c4, .slice a6 n7 c8] 44] ∧ KLe K130 K143) ?_ ?_
    ·refine wc_quiet mixed (by kernel_rfl) hS133 ?_
     refine wq_val wn rfl (fun _ _ => (rv_fieldAddr ff44_2 rfl)) ?_
     refine wq_val wn rfl (rq_loadm1 tf42 rfl (.head _) rfl) ?_
     refine qm rfl rfl ?_
     obtain ⟨x147, hx148, h149⟩ := ob h141
     refine wq_indexAddr (t := tGAttr) wn rfl Tryz.underlying42 tf152 rfl rfl (SliceAt.mono (hl19.trans hl131) hs9) hx148 ?_
     intro b150 o151 u152 hu153 ha154
     obtain ⟨rfl, hl155, hr156⟩ := hu153
     have ha157 : AtK _ b150 o151 [sv x147.Name, .int .i64 x147.Num] := ha154
     refine wq_val wn rfl (fun _ _ => (rv_fieldAddr ff152_0 rfl)) ?_
     refine wq_val wn rfl (rq_load1 tf9 rfl (ha157 0 _ rfl)) ?_
     obtain ⟨r158, hx159, h160⟩ := ob h149
     refine wq_call (v := .bool r158) wn rfl (fun _ => rt_call (vs := [sv x147.Name]) co109 rfl) (fun w163 ⟨K161, hS162, hl164⟩ => ((ok_spec_l1WordOk F) hS162.enter0 hl155 hx159).mono fun e w' ⟨K', he, hS'⟩ => ⟨he, K', hS162.call0 hS', hl164.trans hS'.le⟩) ?_
     refine wq_val wn rfl (fun _ _ => (rv_not rfl)) ?_
     refine qm rfl rfl ?_
     rcases bool_tf ((!r158)) with hb165 | hb165
     ·have h166 := cond_t hb165 h160
      refine wq_un (ug rfl rfl hb165) rfl ?_
      refine wq_un (ug rfl rfl hb165) rfl ?_
      refine wq_un (ug rfl rfl hb165) rfl ?_
      refine wq_un (ug rfl rfl hb165) rfl ?_
      refine wq_un (ug rfl rfl hb165) rfl ?_
      refine wq_un (ug rfl rfl hb165) rfl ?_
      refine wq_un (ug rfl rfl hb165) rfl ?_
      refine wq_un (ug rfl rfl hb165) rfl ?_
      refine wq_val wn rfl (fun _ _ => (rv_pick_t (v := .bool true) rfl hb165 rfl)) ?_
      refine qm rfl rfl ?_
      refine qv rfl rfl rfl rfl ?_
      refine qv rfl rfl rfl rfl ?_
      refine qv rfl rfl rfl rfl ?_
      refine qu rfl rfl rfl ?_
      refine qu rfl rfl rfl ?_
      refine qu rfl rfl rfl ?_
      refine qu rfl rfl rfl ?_
      refine qu rfl rfl rfl ?_
      refine qu rfl rfl rfl ?_
      refine qu rfl rfl rfl ?_
      refine qu rfl rfl rfl ?_
      refine qu rfl rfl rfl ?_
      refine qu rfl rfl rfl ?_
      refine qu rfl rfl rfl ?_
      refine qu rfl rfl rfl ?_
      refine qu rfl rfl rfl ?_
      refine qu rfl rfl rfl ?_
      refine qv rfl rfl rfl rfl ?_
      refine wq_val wn rfl (fun _ _ => (rv_pick_t (v := .bool true) rfl rfl rfl)) ?_
      refine wq_nil ?_
      rintro w168 ⟨K167, hS169, hl170⟩
      obtain rfl := oi h166
      exact qe_mid' ⟨K167, rfl, hS169, hl170⟩ ⟨rfl, rfl, rfl, trivial⟩
     ·have h166 := cond_f hb165 h160
      refine wq_val (wg rfl rfl hb165) rfl (fun _ _ => (rv_fieldAddr ff44_2 rfl)) ?_
      refine wq_val (wg rfl rfl hb165) rfl (rq_loadm1 tf42 rfl (.head _) rfl) ?_
      refine wq_val (wg rfl rfl hb165) rfl (fun _ _ => (rv_move rfl)) ?_
      obtain ⟨x171, hx172, h173⟩ := ob h166
      refine wq_indexAddr (t := tGAttr) (wg rfl rfl hb165) rfl Tryz.underlying42 tf152 rfl rfl (SliceAt.mono (hl19.trans hl131) hs9) hx172 ?_
      intro b174 o175 u176 hu177 ha178
      obtain ⟨rfl, hl179, hr180⟩ := hu177
      have ha181 : AtK _ b174 o175 [sv x171.Name, .int .i64 x171.Num] := ha178
      refine wq_val (wg rfl rfl hb165) rfl (fun _ _ => (rv_fieldAddr ff152_1 rfl)) ?_
      refine wq_val (wg rfl rfl hb165) rfl (rq_load1 tf3 rfl (ha181 1 _ rfl)) ?_
      obtain ⟨r182, hx183, h184⟩ := ob h173
      refine wq_call (v := .bool r182) (wg rfl rfl hb165) rfl (fun _ => rt_call (vs := [.int .i64 x171.Num, .int .i64 0, .int .i64 999999999]) co112 rfl) (fun w187 ⟨K185, hS186, hl188⟩ => ((ok_spec_l1In F) hS186.enter0 hr180 (by decide : rng64 0) (by decide : rng64 999999999) hx183).mono fun e w' ⟨K', he, hS'⟩ => ⟨he, K', hS186.call0 hS', hl188.trans hS'.le⟩) ?_
      refine wq_val (wg rfl rfl hb165) rfl (fun _ _ => (rv_not rfl)) ?_
      refine wq_val wn rfl (fun _ _ => (rv_pick_f rfl hb165 rfl)) ?_
      refine qm rfl rfl ?_
      rcases bool_tf ((!r182)) with hb189 | hb189
      ·have h190 := cond_t hb189 h184
       refine wq_un (ug rfl rfl hb189) rfl ?_
       refine wq_un (ug rfl rfl hb189) rfl ?_
       refine wq_un (ug rfl rfl hb189) rfl ?_
       refine qu rfl rfl rfl ?_
       refine qu rfl rfl rfl ?_
       refine qu rfl rfl rfl ?_
       refine qu rfl rfl rfl ?_
       refine qu rfl rfl rfl ?_
       refine qu rfl rfl rfl ?_
       refine qu rfl rfl rfl ?_
       refine qu rfl rfl rfl ?_
       refine qu rfl rfl rfl ?_
       refine qu rfl rfl rfl ?_
       refine qu rfl rfl rfl ?_
       refine qu rfl rfl rfl ?_
       refine qu rfl rfl rfl ?_
       refine qu rfl rfl rfl ?_
       refine wq_un (ug rfl rfl hb189) rfl ?_
       refine wq_val wn rfl (fun _ _ => (rv_pick_t (v := .bool true) rfl hb189 rfl)) ?_
       refine wq_nil ?_
       rintro w192 ⟨K191, hS193, hl194⟩
       obtain rfl := oi h190
       exact qe_mid' ⟨K191, rfl, hS193, hl194⟩ ⟨rfl, rfl, rfl, trivial⟩
      ·have h190 := cond_f hb189 h184
       refine wq_val (wg rfl rfl hb189) rfl (fun _ _ => (rv_move rfl)) ?_
       refine wq_val (wg rfl rfl hb189) rfl (fun _ _ => (rv_gtr rfl rfl)) ?_
       refine wq_val (wg rfl rfl hb189) rfl (fun _ _ => (rv_move rfl)) ?_
       rcases bool_tf (decide ((0 : Int) < s126)) with hb195 | hb195
       ·have h196 := cond_t hb195 h190
        refine wq_val (wg rfl rfl hb195) rfl (fun _ _ => (rv_fieldAddr ff44_2 rfl)) ?_
        refine wq_val (wg rfl rfl hb195) rfl (rq_loadm1 tf42 rfl (.head _) rfl) ?_
        refine wq_val (wg rfl rfl hb195) rfl (fun _ _ => (rv_move rfl)) ?_
        obtain ⟨x197, hx198, h199⟩ := ob h196
        refine wq_indexAddr (t := tGAttr) (wg rfl rfl hb195) rfl Tryz.underlying42 tf152 rfl rfl (SliceAt.mono (hl19.trans hl131) hs9) hx198 ?_
        intro b200 o201 u202 hu203 ha204
        obtain ⟨rfl, hl205, hr206⟩ := hu203
        have ha207 : AtK _ b200 o201 [sv x197.Name, .int .i64 x197.Num] := ha204
        refine wq_val (wg rfl rfl hb195) rfl (fun _ _ => (rv_fieldAddr ff152_0 rfl)) ?_
        refine wq_val (wg rfl rfl hb195) rfl (rq_load1 tf9 rfl (ha207 0 _ rfl)) ?_
        refine wq_val (wg rfl rfl hb195) rfl (fun _ _ => (rv_fieldAddr ff44_2 rfl)) ?_
        refine wq_val (wg rfl rfl hb195) rfl (rq_loadm1 tf42 rfl (.head _) rfl) ?_
        refine wq_val (wg rfl rfl hb195) rfl (fun _ _ => (rv_move rfl)) ?_
        refine wq_val (wg rfl rfl hb195) rfl (fun _ _ => (rv_sub rfl rfl)) ?_
        obtain ⟨x208, hx209, h210⟩ := ob h199
        refine wq_indexAddr (t := tGAttr) (wg rfl rfl hb195) rfl Tryz.underlying42 tf152 rfl rfl (SliceAt.mono (hl19.trans hl131) hs9) hx209 ?_
        intro b211 o212 u213 hu214 ha215
        obtain ⟨rfl, hl216, hr217⟩ := hu214
        have ha218 : AtK _ b211 o212 [sv x208.Name, .int .i64 x208.Num] := ha215
        refine wq_val (wg rfl rfl hb195) rfl (fun _ _ => (rv_fieldAddr ff152_0 rfl)) ?_
        refine wq_val (wg rfl rfl hb195) rfl (rq_load1 tf9 rfl (ha218 0 _ rfl)) ?_
        refine wq_val (wg rfl rfl hb195) rfl (fun _ _ => (rv_sleq rfl rfl)) ?_
        refine wq_val (wg rfl rfl hb189) rfl (fun _ _ => (rv_pick_t rfl hb195 rfl)) ?_
        refine wq_val wn rfl (fun _ _ => (rv_pick_f rfl hb189 rfl)) ?_
        refine wq_nil ?_
        rintro w220 ⟨K219, hS221, hl222⟩
        obtain rfl := oi h210
        exact qe_mid' ⟨K219, rfl, hS221, hl222⟩ ⟨rfl, rfl, rfl, trivial⟩
       ·have h196 := cond_f hb195 h190
        refine wq_un (ug rfl rfl hb195) rfl ?_
        refine wq_un (ug rfl rfl hb195) rfl ?_
        refine wq_un (ug rfl rfl hb195) rfl ?_
        refine wq_un (ug rfl rfl hb195) rfl ?_
        refine wq_un (ug rfl rfl hb195) rfl ?_
        refine wq_un (ug rfl rfl hb195) rfl ?_
        refine wq_un (ug rfl rfl hb195) rfl ?_
        refine wq_un (ug rfl rfl hb195) rfl ?_
        refine wq_un (ug rfl rfl hb195) rfl ?_
        refine wq_un (ug rfl rfl hb195) rfl ?_
        refine wq_un (ug rfl rfl hb195) rfl ?_
        refine wq_un (ug rfl rfl hb195) rfl ?_
        refine wq_un (ug rfl rfl hb195) rfl ?_
        refine wq_un (ug rfl rfl hb195) rfl ?_
        refine wq_val (wg rfl rfl hb189) rfl (fun _ _ => (rv_pick_f (v := .bool false) rfl hb195 rfl)) ?_
        refine wq_val wn rfl (fun _ _ => (rv_pick_f rfl hb189 rfl)) ?_
        refine wq_nil ?_
        rintro w224 ⟨K223, hS225, hl226⟩
        obtain rfl := oi h196
        exact qe_mid' ⟨K223, rfl, hS225, hl226⟩ ⟨rfl, rfl, rfl, trivial⟩
    ·rintro _ w145 ⟨K143, rfl, hS146, hl144⟩
     refine qe_seq ?_
     refine wc_cond rfl (fun hb227 => ?_) (fun hb227 => ?_)
     ·have h228 := cond_t hb227 h142
      refine sr ?_
      refine wl_val wn rfl (rv_assign (v := .bool false) rfl) ?_
      refine nq ?_
      refine wc_ret ?_
      refine qe_block_ret ?_
      refine qe_then_ret ?_
      refine qe_then_ret ?_
      obtain rfl := oi h228
      have e229 := hx137 _ rfl
      subst e229
      refine qe_block_ret ?_
      refine qe_then_ret ?_
      obtain rfl := oi h129
      refine qe_then_ret ?_
      obtain rfl := oi h120
      have hS230 : SH _ _ _ _ _ [] := SH.sublist hS146 (.cons _ .slnil)
      exact qe_ret (vs := [_]) Tryz.results113 ⟨rfl, trivial⟩ ⟨K143, rfl, hS230⟩
     ·have h228 := cond_f hb227 h142
      refine wc_skip ?_
      refine qe_block ?_
      refine qe_seq ?_
      refine wc_region ?_
      refine vm rfl rfl ?_
      refine wl_val wn rfl (rv_add rfl rfl) ?_
      refine va rfl rfl ?_
      refine wl_nil ?_
      obtain rfl := oi h228
      exact qe_mid' ⟨_, rfl, K143, rfl, hS146, (hl131.trans hl144), (w64_rng _)⟩ ⟨rfl, rfl, trivial⟩
   ·have h139 := cond_f hb138 h136
    refine wc_exit ?_
    refine qe_then_exit ?_
    refine qe_then_exit ?_
    obtain rfl := oi h139
    have e231 := hx137 _ rfl
    subst e231
    refine qe_block_eq ?_
    obtain rfl := oi h129
    exact qe_mid' ⟨_, K130, rfl, rfl, hS133, hl131⟩ ⟨rfl, trivial⟩
  ·rintro _ w124 ⟨s121, K122, rfl, rfl, hS125, hl123⟩
   refine qr ?_
   refine wl_val wn rfl (rv_fieldAddr ff44_0 rfl) ?_
   refine wl_val wn rfl (rv_loadm1 tf3 rfl (.head _) hS125 rfl) ?_
   obtain ⟨r234, hx235, h236⟩ := ob h120
   refine wl_call wn rfl (rt_call (vs := [.int .i64 p0_d.Id, .int .i64 1, .int .i64 9999]) co112 rfl) ((ok_spec_l1In F) hS125.enter0 hr1 (by decide : rng64 1) (by decide : rng64 9999) hx235) ?_
   rintro e240 w238 ⟨K237, rfl, hS239⟩
   refine ⟨_, rfl, ?_⟩
   have hS241 : SH _ _ _ _ _ [_] := SH.call0 hS125 hS239
   refine vm rfl rfl ?_
   rcases bool_tf (r234) with hb242 | hb242
   ·have h243 := cond_t hb242 h236
    refine wl_val (wg rfl rfl hb242) rfl (rv_fieldAddr ff44_1 rfl) ?_
    refine wl_val (wg rfl rfl hb242) rfl (rv_loadm1 tf41 rfl (.head _) hS241 rfl) ?_
    refine wl_val (wg rfl rfl hb242) rfl (rv_len (t := tGField) Tryz.underlying41 rfl (SliceAt.mono ((hl19.trans hl123).trans hS239.le) hs5)) ?_
    obtain ⟨r244, hx245, h246⟩ := ob h243
    refine wl_call (wg rfl rfl hb242) rfl (rt_call (vs := [.int .i64 (p0_d.Fields.length : Int), .int .i64 0, .int .i64 3]) co112 rfl) ((ok_spec_l1In F) hS241.enter0 (rng_nat (SliceAt.max (SliceAt.mono ((hl19.trans hl123).trans hS239.le) hs5))) (by decide : rng64 0) (by decide : rng64 3) hx245) ?_
    rintro e250 w248 ⟨K247, rfl, hS249⟩
    refine ⟨_, rfl, ?_⟩
    have hS251 : SH _ _ _ _ _ [_] := SH.call0 hS241 hS249
    refine wl_val wn rfl (rv_pick_t rfl hb242 rfl) ?_
    refine vm rfl rfl ?_
    rcases bool_tf (r244) with hb252 | hb252
    ·have h253 := cond_t hb252 h246
     refine wl_val (wg rfl rfl hb252) rfl (rv_fieldAddr ff44_2 rfl) ?_
     refine wl_val (wg rfl rfl hb252) rfl (rv_loadm1 tf42 rfl (.head _) hS251 rfl) ?_
     refine wl_val (wg rfl rfl hb252) rfl (rv_len (t := tGAttr) Tryz.underlying42 rfl (SliceAt.mono (((hl19.trans hl123).trans hS239.le).trans hS249.le) hs9)) ?_
     refine wl_val (wg rfl rfl hb252) rfl (rv_leq rfl rfl) ?_
     refine wl_val wn rfl (rv_pick_t rfl hb252 rfl) ?_
     refine va rfl rfl ?_
     refine nq ?_
     refine wc_ret ?_
     obtain rfl := oi h253
     have hS254 : SH _ _ _ _ _ [] := SH.sublist hS251 (.cons _ .slnil)
     exact qe_ret (vs := [_]) Tryz.results113 ⟨rfl, trivial⟩ ⟨K247, rfl, hS254⟩
    ·have h253 := cond_f hb252 h246
     refine wl_un (ug rfl rfl hb252) rfl ?_
     refine wl_un (ug rfl rfl hb252) rfl ?_
     refine wl_un (ug rfl rfl hb252) rfl ?_
     refine wl_un (ug rfl rfl hb252) rfl ?_
     refine wl_val wn rfl (rv_pick_f (v := .bool false) rfl hb252 rfl) ?_
     refine va rfl rfl ?_
     refine nq ?_
     refine wc_ret ?_
     obtain rfl := oi h253
     have hS255 : SH _ _ _ _ _ [] := SH.sublist hS251 (.cons _ .slnil)
     exact qe_ret (vs := [_]) Tryz.results113 ⟨rfl, trivial⟩ ⟨K247, rfl, hS255⟩
   ·have h243 := cond_f hb242 h236
    refine wl_un (ug rfl rfl hb242) rfl ?_
    refine wl_un (ug rfl rfl hb242) rfl ?_
    refine wl_un (ug rfl rfl hb242) rfl ?_
    refine wl_un (ug rfl rfl hb242) rfl ?_
    refine wl_val wn rfl (rv_pick_f (v := .bool false) rfl hb242 rfl) ?_
    refine vm rfl rfl ?_
    refine wl_un (ug rfl rfl rfl) rfl ?_
    refine wl_un (ug rfl rfl rfl) rfl ?_
    refine wl_un (ug rfl rfl rfl) rfl ?_
    refine wl_un (ug rfl rfl rfl) rfl ?_
    refine wl_val wn rfl (rv_pick_f (v := .bool false) rfl rfl rfl) ?_
    refine va rfl rfl ?_
    refine nq ?_
    refine wc_ret ?_
    obtain rfl := oi h243
    have hS256 : SH _ _ _ _ _ [] := SH.sublist hS241 (.cons _ .slnil)
    exact qe_ret (vs := [_]) Tryz.results113 ⟨rfl, trivial⟩ ⟨K237, rfl, hS256⟩

set_option maxHeartbeats 2000000 in
theorem ok_spec_l6Docs (F : Nat) {w : World} {K : KMap} {a1 : Option Addr} {n2 c3 : Nat} {p0_list : List GDoc} {r : Bool} (hS : SH w K [] w K []) (hs4 : SliceAt tGDoc K a1 n2 c3 p0_list) (hm : M.spec_l6Docs F p0_list = some r) :
  Calls Tryz.prog 65 #[.slice a1 n2 c3] w fun e w' => ∃ (K' : KMap), e = .returned (.bool r) ∧ SH w K [] w' K' [] := by
 rw [M.spec_l6Docs] at hm
 refine calls_in Tryz.func65 rfl Tryz.ntmps65 rfl ?_
 refine sr ?_
 refine wl_val wn rfl (rv_assign (v := .bool false) rfl) ?_
 refine nsr ?_
 refine wl_val wn rfl (rv_assign (v := .int .i64 0) rfl) ?_
 refine nq ?_
 obtain ⟨o5, h6, h7⟩ := ob hm
 refine wc_cutg (fun E' w' => ∃ (s8 : Unit) (K9 : KMap), o5 = .inl s8 ∧ E' = [(0, .slice a1 n2 c3)] ∧ SH w K [] w' K9 [] ∧ KLe K K9) ?_ ?_
 ·refine wc_block ?_
  obtain ⟨r14, h15, h16⟩ := ob h6
  refine wc_while' (fun (s13 : Int) E' w' => ∃ (K17 : KMap), E' = [(0, .slice a1 n2 c3), (3, .int .i64 s13)] ∧ SH w K [] w' K17 [] ∧ KLe K K17 ∧ rng64 s13) h15 ⟨K, rfl, hS, (KLe.refl _), (by decide : rng64 0)⟩ ⟨rfl, rfl, trivial⟩ ?_
  rintro s13 _ w19 r22 h23 hx24 ⟨K17, rfl, hS20, hl18, hr21⟩
  refine wc_seq ?_
  refine sr ?_
  refine vm rfl rfl ?_
  refine vm rfl rfl ?_
  refine wl_val wn rfl (rv_len (t := tGDoc) Tryz.underlying27 rfl (SliceAt.mono hl18 hs4)) ?_
  refine wl_val wn rfl (rv_lss rfl rfl) ?_
  refine nq ?_
  refine wc_cond rfl (fun hb25 => ?_) (fun hb25 => ?_)
  ·have h26 := cond_t hb25 h23
   refine wc_skip ?_
   refine qs ?_
   refine wc_block ?_
   refine wc_seq ?_
   obtain ⟨o27, h28, h29⟩ := ob h26
   refine wc_cutg (fun E' w' => ∃ (K30 : KMap), E' = [(0, .slice a1 n2 c3), (3, .int .i64 s13), (33, .bool o27)] ∧ SH w K [] w' K30 [] ∧ KLe K17 K30) ?_ ?_
   ·refine wc_quiet mixed (by kernel_rfl) hS20 ?_
    refine qm rfl rfl ?_
    refine qm rfl rfl ?_
    obtain ⟨x34, hx35, h36⟩ := ob h28
    refine wq_indexAddr (t := tGDoc) wn rfl Tryz.underlying27 tf44 rfl rfl (SliceAt.mono hl18 hs4) hx35 ?_
    intro b37 o38 u39 hu40 ha41
    obtain ⟨a43, n44, c45, a47, n48, c49, rfl, hr42, hs46, hs50⟩ := hu40
    have ha51 : AtK _ b37 o38 [.int .i64 x34.Id, .slice a43 n44 c45, .slice a47 n48 c49] := ha41
    refine wq_val wn rfl (rq_loadS (cs := [.int .i64 x34.Id, .slice a43 n44 c45, .slice a47 n48 c49]) tf44 rfl ha51 rfl) ?_
    obtain ⟨r52, hx53, h54⟩ := ob h36
    refine wq_call (v := .bool r52) wn rfl (fun _ => rt_call (vs := [.agg #[.int .i64 x34.Id, .slice a43 n44 c45, .slice a47 n48 c49]]) co113 rfl) (fun w57 ⟨K55, hS56, hl58⟩ => ((ok_spec_l6Ok F) hS56.enter0 hr42 (SliceAt.mono hl58 hs46) (SliceAt.mono hl58 hs50) hx53).mono fun e w' ⟨K', he, hS'⟩ => ⟨he, K', hS56.call0 hS', hl58.trans hS'.le⟩) ?_
    refine wq_val wn rfl (fun _ _ => (rv_not rfl)) ?_
    refine qm rfl rfl ?_
    rcases bool_tf ((!r52)) with hb59 | hb59
    ·have h60 := cond_t hb59 h54
     refine wq_un (ug rfl rfl hb59) rfl ?_
     refine wq_un (ug rfl rfl hb59) rfl ?_
     refine wq_un (ug rfl rfl hb59) rfl ?_
     refine qu rfl rfl rfl ?_
     refine qu rfl rfl rfl ?_
     refine qu rfl rfl rfl ?_
     refine qu rfl rfl rfl ?_
     refine qu rfl rfl rfl ?_
     refine qu rfl rfl rfl ?_
     refine qu rfl rfl rfl ?_
     refine qu rfl rfl rfl ?_
     refine qu rfl rfl rfl ?_
     refine qu rfl rfl rfl ?_
     refine qu rfl rfl rfl ?_
     refine qu rfl rfl rfl ?_
     refine wq_un (ug rfl rfl hb59) rfl ?_
     refine wq_val wn rfl (fun _ _ => (rv_pick_t (v := .bool true) rfl hb59 rfl)) ?_
     refine wq_nil ?_
     rintro w62 ⟨K61, hS63, hl64⟩
     obtain rfl := oi h60
     exact qe_mid' ⟨K61, rfl, hS63, hl64⟩ ⟨rfl, rfl, rfl, trivial⟩
    ·have h60 := cond_f hb59 h54
     refine wq_val (wg rfl rfl hb59) rfl (fun _ _ => (rv_move rfl)) ?_
     refine wq_val (wg rfl rfl hb59) rfl (fun _ _ => (rv_gtr rfl rfl)) ?_
     refine wq_val (wg rfl rfl hb59) rfl (fun _ _ => (rv_move rfl)) ?_
     rcases bool_tf (decide ((0 : Int) < s13)) with hb65 | hb65
     ·have h66 := cond_t hb65 h60
      refine wq_val (wg rfl rfl hb65) rfl (fun _ _ => (rv_move rfl)) ?_
      refine wq_val (wg rfl rfl hb65) rfl (fun _ _ => (rv_move rfl)) ?_
      obtain ⟨x67, hx68, h69⟩ := ob h66
      refine wq_indexAddr (t := tGDoc) (wg rfl rfl hb65) rfl Tryz.underlying27 tf44 rfl rfl (SliceAt.mono hl18 hs4) hx68 ?_
      intro b70 o71 u72 hu73 ha74
      obtain ⟨a76, n77, c78, a80, n81, c82, rfl, hr75, hs79, hs83⟩ := hu73
      have ha84 : AtK _ b70 o71 [.int .i64 x67.Id, .slice a76 n77 c78, .slice a80 n81 c82] := ha74
      refine wq_val (wg rfl rfl hb65) rfl (fun _ _ => (rv_fieldAddr ff44_0 rfl)) ?_
      refine wq_val (wg rfl rfl hb65) rfl (rq_load1 tf3 rfl (ha84 0 _ rfl)) ?_
      refine wq_val (wg rfl rfl hb65) rfl (fun _ _ => (rv_move rfl)) ?_
      refine wq_val (wg rfl rfl hb65) rfl (fun _ _ => (rv_move rfl)) ?_
      refine wq_val (wg rfl rfl hb65) rfl (fun _ _ => (rv_sub rfl rfl)) ?_
      obtain ⟨x85, hx86, h87⟩ := ob h69
      refine wq_indexAddr (t := tGDoc) (wg rfl rfl hb65) rfl Tryz.underlying27 tf44 rfl rfl (SliceAt.mono hl18 hs4) hx86 ?_
      intro b88 o89 u90 hu91 ha92
      obtain ⟨a94, n95, c96, a98, n99, c100, rfl, hr93, hs97, hs101⟩ := hu91
      have ha102 : AtK _ b88 o89 [.int .i64 x85.Id, .slice a94 n95 c96, .slice a98 n99 c100] := ha92
      refine wq_val (wg rfl rfl hb65) rfl (fun _ _ => (rv_fieldAddr ff44_0 rfl)) ?_
      refine wq_val (wg rfl rfl hb65) rfl (rq_load1 tf3 rfl (ha102 0 _ rfl)) ?_
      refine wq_val (wg rfl rfl hb65) rfl (fun _ _ => (rv_leq rfl rfl)) ?_
      refine wq_val (wg rfl rfl hb59) rfl (fun _ _ => (rv_pick_t rfl hb65 rfl)) ?_
      refine wq_val wn rfl (fun _ _ => (rv_pick_f rfl hb59 rfl)) ?_
      refine wq_nil ?_
      rintro w104 ⟨K103, hS105, hl106⟩
      obtain rfl := oi h87
      exact qe_mid' ⟨K103, rfl, hS105, hl106⟩ ⟨rfl, rfl, rfl, trivial⟩
     ·have h66 := cond_f hb65 h60
      refine wq_un (ug rfl rfl hb65) rfl ?_
      refine wq_un (ug rfl rfl hb65) rfl ?_
      refine wq_un (ug rfl rfl hb65) rfl ?_
      refine wq_un (ug rfl rfl hb65) rfl ?_
      refine wq_un (ug rfl rfl hb65) rfl ?_
      refine wq_un (ug rfl rfl hb65) rfl ?_
      refine wq_un (ug rfl rfl hb65) rfl ?_
      refine wq_un (ug rfl rfl hb65) rfl ?_
      refine wq_un (ug rfl rfl hb65) rfl ?_
      refine wq_un (ug rfl rfl hb65) rfl ?_
      refine wq_un (ug rfl rfl hb65) rfl ?_
      refine wq_un (ug rfl rfl hb65) rfl ?_
      refine wq_val (wg rfl rfl hb59) rfl (fun _ _ => (rv_pick_f (v := .bool false) rfl hb65 rfl)) ?_
      refine wq_val wn rfl (fun _ _ => (rv_pick_f rfl hb59 rfl)) ?_
      refine wq_nil ?_
      rintro w108 ⟨K107, hS109, hl110⟩
      obtain rfl := oi h66
      exact qe_mid' ⟨K107, rfl, hS109, hl110⟩ ⟨rfl, rfl, rfl, trivial⟩
   ·rintro _ w32 ⟨K30, rfl, hS33, hl31⟩
    refine qe_seq ?_
    refine wc_cond rfl (fun hb111 => ?_) (fun hb111 => ?_)
    ·have h112 := cond_t hb111 h29
     refine sr ?_
     refine wl_val wn rfl (rv_assign (v := .bool false) rfl) ?_
     refine nq ?_
     refine wc_ret ?_
     refine qe_block_ret ?_
     refine qe_then_ret ?_
     refine qe_then_ret ?_
     obtain rfl := oi h112
     have e113 := hx24 _ rfl
     subst e113
     refine qe_block_ret ?_
     refine qe_then_ret ?_
     obtain rfl := oi h16
     refine qe_then_ret ?_
     obtain rfl := oi h7
     exact qe_ret (vs := [_]) Tryz.results65 ⟨rfl, trivial⟩ ⟨K30, rfl, hS33⟩
    ·have h112 := cond_f hb111 h29
     refine wc_skip ?_
     refine qe_block ?_
     refine qe_seq ?_
     refine wc_region ?_
     refine vm rfl rfl ?_
     refine wl_val wn rfl (rv_add rfl rfl) ?_
     refine va rfl rfl ?_
     refine wl_nil ?_
     obtain rfl := oi h112
     exact qe_mid' ⟨_, rfl, K30, rfl, hS33, (hl18.trans hl31), (w64_rng _)⟩ ⟨rfl, rfl, trivial⟩
  ·have h26 := cond_f hb25 h23
   refine wc_exit ?_
   refine qe_then_exit ?_
   refine qe_then_exit ?_
   obtain rfl := oi h26
   have e114 := hx24 _ rfl
   subst e114
   refine qe_block_eq ?_
   obtain rfl := oi h16
   exact qe_mid' ⟨_, K17, rfl, rfl, hS20, hl18⟩ ⟨rfl, trivial⟩
 ·rintro _ w11 ⟨s8, K9, rfl, rfl, hS12, hl10⟩
  refine qr ?_
  refine vm rfl rfl ?_
  refine wl_val wn rfl (rv_len (t := tGDoc) Tryz.underlying27 rfl (SliceAt.mono hl10 hs4)) ?_
  refine wl_val wn rfl (rv_leq rfl rfl) ?_
  refine va rfl rfl ?_
  refine nq ?_
  refine wc_ret ?_
  obtain rfl := oi h7
  exact qe_ret (vs := [_]) Tryz.results65 ⟨rfl, trivial⟩ ⟨K9, rfl, hS12⟩

set_option maxHeartbeats 2000000 in
theorem ok_spec_l7Put (F : Nat) {w : World} {K : KMap} {a1 : Option Addr} {n2 c3 : Nat} {p0_list : List Str} {p1_s : Str} {r : (List Str)} (hS : SH w K (List.flatMap Item.gs [tail (.slice a1 n2 c3) 9 1]) w K [tail (.slice a1 n2 c3) 9 1]) (hs4 : SliceAt tStr K a1 n2 c3 p0_list) (hl5 : p1_s.length ≤ maxLen) (hm : M.spec_l7Put F p0_list p1_s = some r) :
  Calls Tryz.prog 147 #[.slice a1 n2 c3, sv p1_s] w fun e w' => ∃ (a_1 : Option Addr) (n_2 c_3 : Nat) (K' : KMap), e = .returned (.slice a_1 n_2 c_3) ∧ SH w K (List.flatMap Item.gs [tail (.slice a1 n2 c3) 9 1]) w' K' [tail (.slice a_1 n_2 c_3) 9 1] ∧ SliceAt tStr K' a_1 n_2 c_3 r := by
 rw [M.spec_l7Put] at hm
 refine calls_in Tryz.func147 rfl Tryz.ntmps147 rfl ?_
 refine sr ?_
 refine wl_val wn rfl (rv_assign (v := .slice none 0 0) rfl) ?_
 refine nr ?_
 refine wl_val wn rfl (rv_assign (v := .int .i64 0) rfl) ?_
 refine ns ?_
 obtain ⟨o6, h7, h8⟩ := ob hm
 refine wc_cutg (fun E' w' => ∃ (K9 : KMap), E' = [(0, .slice a1 n2 c3), (1, sv p1_s), (5, .int .i64 o6)] ∧ SH w K (List.flatMap Item.gs [tail (.slice a1 n2 c3) 9 1]) w' K9 [tail (.slice a1 n2 c3) 9 1] ∧ KLe K K9 ∧ rng64 o6) ?_ ?_
 ·refine wc_block ?_
  obtain ⟨r15, h16, h17⟩ := ob h7
  refine wc_while' (fun (s14 : Int) E' w' => ∃ (K18 : KMap), E' = [(0, .slice a1 n2 c3), (1, sv p1_s), (5, .int .i64 s14)] ∧ SH w K (List.flatMap Item.gs [tail (.slice a1 n2 c3) 9 1]) w' K18 [tail (.slice a1 n2 c3) 9 1] ∧ KLe K K18 ∧ rng64 s14) h16 ⟨K, rfl, hS, (KLe.refl _), (by decide : rng64 0)⟩ ⟨rfl, rfl, rfl, trivial⟩ ?_
  rintro s14 _ w20 r23 h24 hx25 ⟨K18, rfl, hS21, hl19, hr22⟩
  refine wc_seq ?_
  refine wc_seq ?_
  obtain ⟨o26, h27, h28⟩ := ob h24
  refine wc_cutg (fun E' w' => ∃ (K29 : KMap), E' = [(0, .slice a1 n2 c3), (1, sv p1_s), (5, .int .i64 s14), (18, .bool o26)] ∧ SH w K (List.flatMap Item.gs [tail (.slice a1 n2 c3) 9 1]) w' K29 [tail (.slice a1 n2 c3) 9 1] ∧ KLe K18 K29) ?_ ?_
  ·refine wc_region ?_
   refine vm rfl rfl ?_
   refine vm rfl rfl ?_
   refine wl_val wn rfl (rv_len (t := tStr) Tryz.underlying23 rfl (SliceAt.mono hl19 hs4)) ?_
   refine wl_val wn rfl (rv_lss rfl rfl) ?_
   refine vm rfl rfl ?_
   rcases bool_tf (decide (s14 < (p0_list.length : Int))) with hb33 | hb33
   ·have h34 := cond_t hb33 h27
    refine wl_val (wg rfl rfl hb33) rfl (rv_move rfl) ?_
    refine wl_val (wg rfl rfl hb33) rfl (rv_move rfl) ?_
    obtain ⟨x35, hx36, h37⟩ := ob h34
    refine wl_indexAddr (t := tStr) (wg rfl rfl hb33) rfl Tryz.underlying23 tf9 rfl rfl (SliceAt.mono hl19 hs4) hx36 ?_
    intro b38 o39 u40 hu41 ha42
    obtain ⟨rfl, hl43⟩ := hu41
    have ha44 : AtK _ b38 o39 [sv x35] := ha42
    refine wl_val (wg rfl rfl hb33) rfl (rv_load1 tf9 rfl hS21 (ha44 0 _ rfl)) ?_
    refine wl_val (wg rfl rfl hb33) rfl (rv_move rfl) ?_
    refine wl_val (wg rfl rfl hb33) rfl (rv_slss rfl rfl) ?_
    refine wl_val wn rfl (rv_pick_t rfl hb33 rfl) ?_
    refine wl_nil ?_
    obtain rfl := oi h37
    exact qe_mid' ⟨K18, rfl, hS21, (KLe.refl _)⟩ ⟨rfl, rfl, rfl, rfl, trivial⟩
   ·have h34 := cond_f hb33 h27
    refine wl_un (ug rfl rfl hb33) rfl ?_
    refine wl_un (ug rfl rfl hb33) rfl ?_
    refine wl_un (ug rfl rfl hb33) rfl ?_
    refine wl_un (ug rfl rfl hb33) rfl ?_
    refine wl_un (ug rfl rfl hb33) rfl ?_
    refine wl_un (ug rfl rfl hb33) rfl ?_
    refine wl_val wn rfl (rv_pick_f (v := .bool false) rfl hb33 rfl) ?_
    refine wl_nil ?_
    obtain rfl := oi h34
    exact qe_mid' ⟨K18, rfl, hS21, (KLe.refl _)⟩ ⟨rfl, rfl, rfl, rfl, trivial⟩
  ·rintro _ w31 ⟨K29, rfl, hS32, hl30⟩
   refine qe_seq ?_
   refine wc_cond rfl (fun hb45 => ?_) (fun hb45 => ?_)
   ·have h46 := cond_t hb45 h28
    refine wc_skip ?_
    refine qe_seq ?_
    refine wc_block ?_
    refine wc_region ?_
    refine vm rfl rfl ?_
    refine wl_val wn rfl (rv_add rfl rfl) ?_
    refine va rfl rfl ?_
    refine nb ?_
    obtain rfl := oi h46
    exact qe_mid' ⟨_, rfl, K29, rfl, hS32, (hl19.trans hl30), (w64_rng _)⟩ ⟨rfl, rfl, rfl, trivial⟩
   ·have h46 := cond_f hb45 h28
    refine wc_exit ?_
    refine qe_then_exit ?_
    refine qe_then_exit ?_
    obtain rfl := oi h46
    have e47 := hx25 _ rfl
    subst e47
    refine qe_block_eq ?_
    obtain rfl := oi h17
    exact qe_mid' ⟨K29, rfl, hS32, (hl19.trans hl30), hr22⟩ ⟨rfl, rfl, rfl, trivial⟩
 ·rintro _ w11 ⟨K9, rfl, hS12, hl10, hr13⟩
  refine qs ?_
  refine wc_seq ?_
  obtain ⟨o48, h49, h50⟩ := ob h8
  refine wc_cutg (fun E' w' => ∃ (K51 : KMap), E' = [(0, .slice a1 n2 c3), (1, sv p1_s), (5, .int .i64 o6), (32, .bool o48)] ∧ SH w K (List.flatMap Item.gs [tail (.slice a1 n2 c3) 9 1]) w' K51 [tail (.slice a1 n2 c3) 9 1] ∧ KLe K9 K51) ?_ ?_
  ·refine wc_region ?_
   refine vm rfl rfl ?_
   refine vm rfl rfl ?_
   refine wl_val wn rfl (rv_len (t := tStr) Tryz.underlying23 rfl (SliceAt.mono hl10 hs4)) ?_
   refine wl_val wn rfl (rv_lss rfl rfl) ?_
   refine vm rfl rfl ?_
   rcases bool_tf (decide (o6 < (p0_list.length : Int))) with hb55 | hb55
   ·have h56 := cond_t hb55 h49
    refine wl_val (wg rfl rfl hb55) rfl (rv_move rfl) ?_
    refine wl_val (wg rfl rfl hb55) rfl (rv_move rfl) ?_
    obtain ⟨x57, hx58, h59⟩ := ob h56
    refine wl_indexAddr (t := tStr) (wg rfl rfl hb55) rfl Tryz.underlying23 tf9 rfl rfl (SliceAt.mono hl10 hs4) hx58 ?_
    intro b60 o61 u62 hu63 ha64
    obtain ⟨rfl, hl65⟩ := hu63
    have ha66 : AtK _ b60 o61 [sv x57] := ha64
    refine wl_val (wg rfl rfl hb55) rfl (rv_load1 tf9 rfl hS12 (ha66 0 _ rfl)) ?_
    refine wl_val (wg rfl rfl hb55) rfl (rv_move rfl) ?_
    refine wl_val (wg rfl rfl hb55) rfl (rv_seql rfl rfl) ?_
    refine wl_val wn rfl (rv_pick_t rfl hb55 rfl) ?_
    refine wl_nil ?_
    obtain rfl := oi h59
    exact qe_mid' ⟨K9, rfl, hS12, (KLe.refl _)⟩ ⟨rfl, rfl, rfl, rfl, trivial⟩
   ·have h56 := cond_f hb55 h49
    refine wl_un (ug rfl rfl hb55) rfl ?_
    refine wl_un (ug rfl rfl hb55) rfl ?_
    refine wl_un (ug rfl rfl hb55) rfl ?_
    refine wl_un (ug rfl rfl hb55) rfl ?_
    refine wl_un (ug rfl rfl hb55) rfl ?_
    refine wl_un (ug rfl rfl hb55) rfl ?_
    refine wl_val wn rfl (rv_pick_f (v := .bool false) rfl hb55 rfl) ?_
    refine wl_nil ?_
    obtain rfl := oi h56
    exact qe_mid' ⟨K9, rfl, hS12, (KLe.refl _)⟩ ⟨rfl, rfl, rfl, rfl, trivial⟩
  ·rintro _ w53 ⟨K51, rfl, hS54, hl52⟩
   refine qe_seq ?_
   refine wc_cond rfl (fun hb67 => ?_) (fun hb67 => ?_)
   ·have h68 := cond_t hb67 h50
    refine sr ?_
    refine vm rfl rfl ?_
    refine va rfl rfl ?_
    refine nq ?_
    refine rr ?_
    obtain rfl := oi h68
    exact qe_ret (vs := [_]) Tryz.results147 ⟨rfl, trivial⟩ ⟨a1, n2, c3, K51, rfl, hS54, (SliceAt.mono (hl10.trans hl52) hs4)⟩
   ·have h68 := cond_f hb67 h50
    refine wc_skip ?_
    refine qr ?_
    refine wl_buildSlice0 tStr wn rfl Tryz.underlying23 tf9 hS54 ?_
    intro a69 w70 K71 hl72 hs73 hS74
    refine vm rfl rfl ?_
    refine vm rfl rfl ?_
    obtain ⟨x75, hx76, h77⟩ := ob h68
    refine wl_sl_h (t := tStr) wn rfl Tryz.underlying23 tf9 rfl rfl (SliceAt.mono ((hl10.trans hl52).trans hl72) hs4) hx76 ?_
    intro a78 n79 c80 hs81
    obtain ⟨x82, hx83, h84⟩ := ob h77
    refine wl_append (t := tStr) wn rfl Tryz.underlying23 tf9 rfl rfl rfl rfl rfl hs73 hs81 hx83 hS74 ?_
    intro a85 n86 c87 w88 K89 hl90 hs91 hS92
    refine va rfl rfl ?_
    refine nr ?_
    refine vm rfl rfl ?_
    refine vm rfl rfl ?_
    refine wl_buildSlice (t := tStr) (n := 1) (pv := [(0, sv p1_s)]) (cs := [sv p1_s]) (xs := [p1_s]) wn rfl Tryz.underlying23 tf9 rfl rfl rfl (by kernel_rfl) rfl rfl (lit_cons (u := sv p1_s) (z := p1_s) ⟨rfl, hl5⟩ lit_nil) hS92 ?_
    intro a93 w94 K95 hl96 hs97 hS98
    have hS99 : SH _ _ _ _ _ [_, _, _] := SH.front (p := [_]) hS98
    obtain ⟨x100, hx101, h102⟩ := ob h84
    refine wl_append (t := tStr) wn rfl Tryz.underlying23 tf9 rfl rfl rfl rfl rfl (SliceAt.mono hl96 hs91) hs97 hx101 hS99 ?_
    intro a103 n104 c105 w106 K107 hl108 hs109 hS110
    refine va rfl rfl ?_
    refine nr ?_
    refine vm rfl rfl ?_
    refine vm rfl rfl ?_
    refine vm rfl rfl ?_
    obtain ⟨x111, hx112, h113⟩ := ob h102
    refine wl_sl_l (t := tStr) wn rfl Tryz.underlying23 tf9 rfl rfl (SliceAt.mono (((((hl10.trans hl52).trans hl72).trans hl90).trans hl96).trans hl108) hs4) hx112 ?_
    intro a114 n115 c116 hs117
    obtain ⟨x118, hx119, h120⟩ := ob h113
    refine wl_append (t := tStr) wn rfl Tryz.underlying23 tf9 rfl rfl rfl rfl rfl hs109 hs117 hx119 hS110 ?_
    intro a121 n122 c123 w124 K125 hl126 hs127 hS128
    refine va rfl rfl ?_
    refine nq ?_
    refine wc_ret ?_
    obtain rfl := oi h120
    have hS129 : SH _ _ _ _ _ [_] := SH.sublist hS128 (.cons_cons _ (.cons _ (.cons _ .slnil)))
    exact qe_ret (vs := [_]) Tryz.results147 ⟨rfl, trivial⟩ ⟨a121, n122, c123, K125, rfl, hS129, hs127⟩

set_option maxHeartbeats 2000000 in
theorem ok_spec_l7Names (F : Nat) {w : World} {K : KMap} {a1 : Option Addr} {n2 c3 : Nat} {p0_docs : List GDoc} {r : (List Str)} (hS : SH w K [] w K []) (hs4 : SliceAt tGDoc K a1 n2 c3 p0_docs) (hm : M.spec_l7Names F p0_docs = some r) :
  Calls Tryz.prog 114 #[.slice a1 n2 c3] w fun e w' => ∃ (a_1 : Option Addr) (n_2 c_3 : Nat) (K' : KMap), e = .returned (.slice a_1 n_2 c_3) ∧ SH w K [] w' K' [tail (.slice a_1 n_2 c_3) 9 1] ∧ SliceAt tStr K' a_1 n_2 c_3 r := by
 rw [M.spec_l7Names] at hm
 refine calls_in Tryz.func114 rfl Tryz.ntmps114 rfl ?_
 refine sr ?_
 refine wl_val wn rfl (rv_assign (v := .slice none 0 0) rfl) ?_
 refine nr ?_
 refine wl_buildSlice0 tStr wn rfl Tryz.underlying23 tf9 hS ?_
 intro a5 w6 K7 hl8 hs9 hS10
 refine va rfl rfl ?_
 refine nsr ?_
 refine wl_val wn rfl (rv_assign (v := .int .i64 0) rfl) ?_
 refine nq ?_
 obtain ⟨o11, h12, h13⟩ := ob hm
 refine wc_cutg (fun E' w' => ∃ (a18 : Option Addr) (n19 c20 : Nat) (K14 : KMap), E' = [(3, .slice a18 n19 c20)] ∧ SH w K [] w' K14 [tail (.slice a18 n19 c20) 9 1] ∧ KLe K7 K14 ∧ SliceAt tStr K14 a18 n19 c20 o11) ?_ ?_
 ·refine wc_block ?_
  obtain ⟨r23, h24, h25⟩ := ob h12
  refine wc_while' (fun (s22 : (List Str) × Int) E' w' => ∃ (a30 : Option Addr) (n31 c32 : Nat) (K26 : KMap), E' = [(0, .slice a1 n2 c3), (3, .slice a30 n31 c32), (4, .int .i64 s22.2)] ∧ SH w K [] w' K26 [tail (.slice a30 n31 c32) 9 1] ∧ KLe K7 K26 ∧ SliceAt tStr K26 a30 n31 c32 s22.1 ∧ rng64 s22.2) h24 ⟨a5, 0, 0, K7, rfl, hS10, (KLe.refl _), hs9, (by decide : rng64 0)⟩ ⟨rfl, rfl, rfl, trivial⟩ ?_
  rintro s22 _ w28 r35 h36 hx37 ⟨a30, n31, c32, K26, rfl, hS29, hl27, hs33, hr34⟩
  refine wc_seq ?_
  refine sr ?_
  refine vm rfl rfl ?_
  refine vm rfl rfl ?_
  refine wl_val wn rfl (rv_len (t := tGDoc) Tryz.underlying27 rfl (SliceAt.mono (hl8.trans hl27) hs4)) ?_
  refine wl_val wn rfl (rv_lss rfl rfl) ?_
  refine nq ?_
  refine wc_cond rfl (fun hb38 => ?_) (fun hb38 => ?_)
  ·have h39 := cond_t hb38 h36
   refine wc_skip ?_
   refine qs ?_
   refine wc_block ?_
   refine sr ?_
   refine wl_val wn rfl (rv_assign (v := .int .i64 0) rfl) ?_
   refine nq ?_
   obtain ⟨o40, h41, h42⟩ := ob h39
   refine wc_cutg (fun E' w' => ∃ (a47 : Option Addr) (n48 c49 : Nat) (K43 : KMap), E' = [(0, .slice a1 n2 c3), (3, .slice a47 n48 c49), (4, .int .i64 s22.2)] ∧ SH w K [] w' K43 [tail (.slice a47 n48 c49) 9 1] ∧ KLe K26 K43 ∧ SliceAt tStr K43 a47 n48 c49 o40) ?_ ?_
   ·refine wc_block ?_
    obtain ⟨r52, h53, h54⟩ := ob h41
    refine wc_while' (fun (s51 : (List Str) × Int) E' w' => ∃ (a59 : Option Addr) (n60 c61 : Nat) (K55 : KMap), E' = [(0, .slice a1 n2 c3), (3, .slice a59 n60 c61), (4, .int .i64 s22.2), (5, .int .i64 s51.2)] ∧ SH w K [] w' K55 [tail (.slice a59 n60 c61) 9 1] ∧ KLe K26 K55 ∧ SliceAt tStr K55 a59 n60 c61 s51.1 ∧ rng64 s51.2) h53 ⟨a30, n31, c32, K26, rfl, hS29, (KLe.refl _), hs33, (by decide : rng64 0)⟩ ⟨rfl, rfl, rfl, rfl, trivial⟩ ?_
    rintro s51 _ w57 r64 h65 hx66 ⟨a59, n60, c61, K55, rfl, hS58, hl56, hs62, hr63⟩
    refine wc_seq ?_
    refine sr ?_
    refine vm rfl rfl ?_
    refine vm rfl rfl ?_
    refine vm rfl rfl ?_
    obtain ⟨x67, hx68, h69⟩ := ob h65
    refine wl_indexAddr (t := tGDoc) wn rfl Tryz.underlying27 tf44 rfl rfl (SliceAt.mono ((hl8.trans hl27).trans hl56) hs4) hx68 ?_
    intro b70 o71 u72 hu73 ha74
    obtain ⟨a76, n77, c78, a80, n81, c82, rfl, hr75, hs79, hs83⟩ := hu73
    have ha84 : AtK _ b70 o71 [.int .i64 x67.Id, .slice a76 n77 c78, .slice a80 n81 c82] := ha74
    refine wl_val wn rfl (rv_fieldAddr ff44_1 rfl) ?_
    refine wl_val wn rfl (rv_load1 tf41 rfl hS58 (ha84 1 _ rfl)) ?_
    refine wl_val wn rfl (rv_len (t := tGField) Tryz.underlying41 rfl hs79) ?_
    refine wl_val wn rfl (rv_lss rfl rfl) ?_
    refine nq ?_
    refine wc_cond rfl (fun hb85 => ?_) (fun hb85 => ?_)
    ·have h86 := cond_t hb85 h69
     refine wc_skip ?_
     refine qs ?_
     refine wc_block ?_
     refine wc_region ?_
     refine vm rfl rfl ?_
     refine vm rfl rfl ?_
     refine vm rfl rfl ?_
     obtain ⟨x87, hx88, h89⟩ := ob h86
     refine wl_indexAddr (t := tGDoc) wn rfl Tryz.underlying27 tf44 rfl rfl (SliceAt.mono ((hl8.trans hl27).trans hl56) hs4) hx88 ?_
     intro b90 o91 u92 hu93 ha94
     obtain ⟨a96, n97, c98, a100, n101, c102, rfl, hr95, hs99, hs103⟩ := hu93
     have ha104 : AtK _ b90 o91 [.int .i64 x87.Id, .slice a96 n97 c98, .slice a100 n101 c102] := ha94
     refine wl_val wn rfl (rv_fieldAddr ff44_1 rfl) ?_
     refine wl_val wn rfl (rv_load1 tf41 rfl hS58 (ha104 1 _ rfl)) ?_
     refine vm rfl rfl ?_
     obtain ⟨x105, hx106, h107⟩ := ob h89
     refine wl_indexAddr (t := tGField) wn rfl Tryz.underlying41 tf109 rfl rfl hs99 hx106 ?_
     intro b108 o109 u110 hu111 ha112
     obtain ⟨rfl, hl113, hl114⟩ := hu111
     have ha115 : AtK _ b108 o109 [sv x105.Name, sv x105.Text] := ha112
     refine wl_val wn rfl (rv_fieldAddr ff109_0 rfl) ?_
     refine wl_val wn rfl (rv_load1 tf9 rfl hS58 (ha115 0 _ rfl)) ?_
     obtain ⟨r116, hx117, h118⟩ := ob h107
     refine wl_call wn rfl (rt_call (vs := [.slice a59 n60 c61, sv x105.Name]) co147 rfl) ((ok_spec_l7Put F) (SH.enter (Lin := [_]) hS58) hs62 hl113 hx117) ?_
     rintro e126 w120 ⟨a122, n123, c124, K119, rfl, hS121, hs125⟩
     refine ⟨_, rfl, ?_⟩
     have hS127 : SH _ _ _ _ _ [_] := SH.call (Lin := [_]) hS58 hS121
     refine va rfl rfl ?_
     refine nb ?_
     refine qe_seq ?_
     refine wc_region ?_
     refine vm rfl rfl ?_
     refine wl_val wn rfl (rv_add rfl rfl) ?_
     refine va rfl rfl ?_
     refine wl_nil ?_
     obtain rfl := oi h118
     exact qe_mid' ⟨_, rfl, a122, n123, c124, K119, rfl, hS127, (hl56.trans hS121.le), hs125, (w64_rng _)⟩ ⟨rfl, rfl, rfl, rfl, trivial⟩
    ·have h86 := cond_f hb85 h69
     refine wc_exit ?_
     refine qe_then_exit ?_
     refine qe_then_exit ?_
     obtain rfl := oi h86
     have e128 := hx66 _ rfl
     subst e128
     refine qe_block_eq ?_
     obtain rfl := oi h54
     exact qe_mid' ⟨a59, n60, c61, K55, rfl, hS58, hl56, hs62⟩ ⟨rfl, rfl, rfl, trivial⟩
   ·rintro _ w45 ⟨a47, n48, c49, K43, rfl, hS46, hl44, hs50⟩
    refine qe_block ?_
    refine qe_seq ?_
    refine wc_region ?_
    refine vm rfl rfl ?_
    refine wl_val wn rfl (rv_add rfl rfl) ?_
    refine va rfl rfl ?_
    refine wl_nil ?_
    obtain rfl := oi h42
    exact qe_mid' ⟨_, rfl, a47, n48, c49, K43, rfl, hS46, (hl27.trans hl44), hs50, (w64_rng _)⟩ ⟨rfl, rfl, rfl, trivial⟩
  ·have h39 := cond_f hb38 h36
   refine wc_exit ?_
   refine qe_then_exit ?_
   refine qe_then_exit ?_
   obtain rfl := oi h39
   have e129 := hx37 _ rfl
   subst e129
   refine qe_block_eq ?_
   obtain rfl := oi h25
   exact qe_mid' ⟨a30, n31, c32, K26, rfl, hS29, hl27, hs33⟩ ⟨rfl, trivial⟩
 ·rintro _ w16 ⟨a18, n19, c20, K14, rfl, hS17, hl15, hs21⟩
  refine qr ?_
  refine vm rfl rfl ?_
  refine va rfl rfl ?_
  refine nq ?_
  refine wc_ret ?_
  obtain rfl := oi h13
  exact qe_ret (vs := [_]) Tryz.results114 ⟨rfl, trivial⟩ ⟨a18, n19, c20, K14, rfl, hS17, hs21⟩

set_option maxHeartbeats 2000000 in
theorem ok_spec_l1Words (F : Nat) {w : World} {K : KMap} {p0_s : Str} {r : (List GWord)} (hS : SH w K [] w K []) (hl1 : p0_s.length ≤ maxLen) (hm : M.spec_l1Words F p0_s = some r) :
  Calls Tryz.prog 179 #[sv p0_s] w fun e w' => ∃ (a_1 : Option Addr) (n_2 c_3 : Nat) (K' : KMap), e = .returned (.slice a_1 n_2 c_3) ∧ SH w K [] w' K' [tail (.slice a_1 n_2 c_3) 100 4] ∧ SliceAt tGWord K' a_1 n_2 c_3 r := by
 rw [M.spec_l1Words] at hm
 refine calls_in Tryz.func179 rfl Tryz.ntmps179 rfl ?_
 refine sr ?_
 refine wl_val wn rfl (rv_assign (v := .slice none 0 0) rfl) ?_
 refine nr ?_
 refine wl_buildSlice0 tGWord wn rfl Tryz.underlying97 tf100 hS ?_
 intro a2 w3 K4 hl5 hs6 hS7
 refine va rfl rfl ?_
 refine nsr ?_
 refine wl_val wn rfl (rv_assign (v := .int .i64 0) rfl) ?_
 refine nq ?_
 obtain ⟨o8, h9, h10⟩ := ob hm
 refine wc_cutg (fun E' w' => ∃ (a15 : Option Addr) (n16 c17 : Nat) (K11 : KMap), E' = [(3, .slice a15 n16 c17)] ∧ SH w K [] w' K11 [tail (.slice a15 n16 c17) 100 4] ∧ KLe K4 K11 ∧ SliceAt tGWord K11 a15 n16 c17 o8) ?_ ?_
 ·refine wc_block ?_
  obtain ⟨r20, h21, h22⟩ := ob h9
  refine wc_while' (fun (s19 : (List GWord) × Int) E' w' => ∃ (a27 : Option Addr) (n28 c29 : Nat) (K23 : KMap), E' = [(0, sv p0_s), (3, .slice a27 n28 c29), (4, .int .i64 s19.2)] ∧ SH w K [] w' K23 [tail (.slice a27 n28 c29) 100 4] ∧ KLe K4 K23 ∧ SliceAt tGWord K23 a27 n28 c29 s19.1 ∧ rng64 s19.2) h21 ⟨a2, 0, 0, K4, rfl, hS7, (KLe.refl _), hs6, (by decide : rng64 0)⟩ ⟨rfl, rfl, rfl, trivial⟩ ?_
  rintro s19 _ w25 r32 h33 hx34 ⟨a27, n28, c29, K23, rfl, hS26, hl24, hs30, hr31⟩
  refine wc_seq ?_
  refine sr ?_
  refine vm rfl rfl ?_
  refine vm rfl rfl ?_
  refine wl_val wn rfl (rv_slen Tryz.underlying9 rfl) ?_
  refine wl_val wn rfl (rv_lss rfl rfl) ?_
  refine nq ?_
  refine wc_cond rfl (fun hb35 => ?_) (fun hb35 => ?_)
  ·have h36 := cond_t hb35 h33
   refine wc_skip ?_
   refine qs ?_
   refine wc_block ?_
   refine sr ?_
   refine wl_buildSlice0 tU8 wn rfl Tryz.underlying22 tf5 hS26 ?_
   intro a37 w38 K39 hl40 hs41 hS42
   refine va rfl rfl ?_
   refine nr ?_
   refine vm rfl rfl ?_
   refine va rfl rfl ?_
   refine ns ?_
   obtain ⟨o43, h44, h45⟩ := ob h36
   refine wc_cutg (fun E' w' => ∃ (a51 : Option Addr) (n52 c53 : Nat) (K46 : KMap), E' = [(0, sv p0_s), (3, .slice a27 n28 c29), (4, .int .i64 o43.1), (5, .slice a51 n52 c53), (6, .int .i64 s19.2)] ∧ SH w K [] w' K46 [tail (.slice a27 n28 c29) 100 4, tail (.slice a51 n52 c53) 5 1] ∧ KLe K39 K46 ∧ rng64 o43.1 ∧ SliceAt tU8 K46 a51 n52 c53 o43.2) ?_ ?_
   ·refine wc_block ?_
    obtain ⟨r56, h57, h58⟩ := ob h44
    have hS68 : SH _ _ _ _ _ [_, _] := SH.front (p := [_]) hS42
    refine wc_while' (fun (s55 : Int × (List UInt8)) E' w' => ∃ (a64 : Option Addr) (n65 c66 : Nat) (K59 : KMap), E' = [(0, sv p0_s), (3, .slice a27 n28 c29), (4, .int .i64 s55.1), (5, .slice a64 n65 c66), (6, .int .i64 s19.2)] ∧ SH w K [] w' K59 [tail (.slice a27 n28 c29) 100 4, tail (.slice a64 n65 c66) 5 1] ∧ KLe K39 K59 ∧ rng64 s55.1 ∧ SliceAt tU8 K59 a64 n65 c66 s55.2) h57 ⟨a37, 0, 0, K39, rfl, hS68, (KLe.refl _), hr31, hs41⟩ ⟨rfl, rfl, rfl, rfl, rfl, trivial⟩ ?_
    rintro s55 _ w61 r69 h70 hx71 ⟨a64, n65, c66, K59, rfl, hS62, hl60, hr63, hs67⟩
    refine wc_seq ?_
    refine wc_seq ?_
    obtain ⟨o72, h73, h74⟩ := ob h70
    refine wc_cutg (fun E' w' => ∃ (K75 : KMap), E' = [(0, sv p0_s), (3, .slice a27 n28 c29), (4, .int .i64 s55.1), (5, .slice a64 n65 c66), (6, .int .i64 s19.2), (26, .bool o72)] ∧ SH w K [] w' K75 [tail (.slice a27 n28 c29) 100 4, tail (.slice a64 n65 c66) 5 1] ∧ KLe K59 K75) ?_ ?_
    ·refine wc_region ?_
     refine vm rfl rfl ?_
     refine vm rfl rfl ?_
     refine wl_val wn rfl (rv_slen Tryz.underlying9 rfl) ?_
     refine wl_val wn rfl (rv_lss rfl rfl) ?_
     refine vm rfl rfl ?_
     rcases bool_tf (decide (s55.1 < (p0_s.length : Int))) with hb79 | hb79
     ·have h80 := cond_t hb79 h73
      refine wl_val (wg rfl rfl hb79) rfl (rv_move rfl) ?_
      refine wl_val (wg rfl rfl hb79) rfl (rv_move rfl) ?_
      obtain ⟨x81, hx82, h83⟩ := ob h80
      refine wl_val (wg rfl rfl hb79) rfl (rv_sidx Tryz.underlying9 rfl rfl hx82) ?_
      obtain ⟨r84, hx85, h86⟩ := ob h83
      refine wl_call (wg rfl rfl hb79) rfl (rt_call (vs := [iv8 x81]) co144 rfl) ((ok_spec_l1Fold F) hS62.enter0  hx85) ?_
      rintro e90 w88 ⟨K87, rfl, hS89⟩
      refine ⟨_, rfl, ?_⟩
      have hS91 : SH _ _ _ _ _ [_, _] := SH.call0 hS62 hS89
      refine wl_val (wg rfl rfl hb79) rfl (rv_bne (b := (0 : UInt8)) rfl rfl) ?_
      refine wl_val wn rfl (rv_pick_t rfl hb79 rfl) ?_
      refine wl_nil ?_
      obtain rfl := oi h86
      exact qe_mid' ⟨K87, rfl, hS91, hS89.le⟩ ⟨rfl, rfl, rfl, rfl, rfl, rfl, trivial⟩
     ·have h80 := cond_f hb79 h73
      refine wl_un (ug rfl rfl hb79) rfl ?_
      refine wl_un (ug rfl rfl hb79) rfl ?_
      refine wl_un (ug rfl rfl hb79) rfl ?_
      refine wl_un (ug rfl rfl hb79) rfl ?_
      refine wl_un (ug rfl rfl hb79) rfl ?_
      refine wl_val wn rfl (rv_pick_f (v := .bool false) rfl hb79 rfl) ?_
      refine wl_nil ?_
      obtain rfl := oi h80
      exact qe_mid' ⟨K59, rfl, hS62, (KLe.refl _)⟩ ⟨rfl, rfl, rfl, rfl, rfl, rfl, trivial⟩
    ·rintro _ w77 ⟨K75, rfl, hS78, hl76⟩
     refine qe_seq ?_
     refine wc_cond rfl (fun hb92 => ?_) (fun hb92 => ?_)
     ·have h93 := cond_t hb92 h74
      refine wc_skip ?_
      refine qe_seq ?_
      refine wc_block ?_
      refine sr ?_
      refine vm rfl rfl ?_
      refine vm rfl rfl ?_
      refine vm rfl rfl ?_
      obtain ⟨x94, hx95, h96⟩ := ob h93
      refine wl_val wn rfl (rv_sidx Tryz.underlying9 rfl rfl hx95) ?_
      obtain ⟨r97, hx98, h99⟩ := ob h96
      refine wl_call wn rfl (rt_call (vs := [iv8 x94]) co144 rfl) ((ok_spec_l1Fold F) hS78.enter0  hx98) ?_
      rintro e103 w101 ⟨K100, rfl, hS102⟩
      refine ⟨_, rfl, ?_⟩
      have hS104 : SH _ _ _ _ _ [_, _] := SH.call0 hS78 hS102
      refine wl_buildSlice (t := tU8) (n := 1) (pv := [(0, iv8 r97)]) (cs := [iv8 r97]) (xs := [r97]) wn rfl Tryz.underlying22 tf5 rfl rfl rfl (by kernel_rfl) rfl rfl (lit_cons (u := iv8 r97) (z := r97) rfl lit_nil) hS104 ?_
      intro a105 w106 K107 hl108 hs109 hS110
      have hS111 : SH _ _ _ _ _ [_, _, _] := SH.front (p := [_, _]) hS110
      obtain ⟨x112, hx113, h114⟩ := ob h99
      refine wl_append (t := tU8) wn rfl Tryz.underlying22 tf5 rfl rfl rfl rfl rfl (SliceAt.mono ((hl76.trans hS102.le).trans hl108) hs67) hs109 hx113 hS111 ?_
      intro a115 n116 c117 w118 K119 hl120 hs121 hS122
      refine va rfl rfl ?_
      refine nq ?_
      refine wc_region ?_
      refine vm rfl rfl ?_
      refine wl_val wn rfl (rv_add rfl rfl) ?_
      refine va rfl rfl ?_
      refine nb ?_
      obtain rfl := oi h114
      have hS123 : SH _ _ _ _ _ [_, _, _] := SH.front (p := [_, _]) hS122
      have hS124 : SH _ _ _ _ _ [_, _] := SH.sublist hS123 (.cons_cons _ (.cons_cons _ (.cons _ .slnil)))
      exact qe_mid' ⟨_, rfl, a115, n116, c117, K119, rfl, hS124, ((((hl60.trans hl76).trans hS102.le).trans hl108).trans hl120), (w64_rng _), hs121⟩ ⟨rfl, rfl, rfl, rfl, rfl, trivial⟩
     ·have h93 := cond_f hb92 h74
      refine wc_exit ?_
      refine qe_then_exit ?_
      refine qe_then_exit ?_
      obtain rfl := oi h93
      have e125 := hx71 _ rfl
      subst e125
      refine qe_block_eq ?_
      obtain rfl := oi h58
      exact qe_mid' ⟨a64, n65, c66, K75, rfl, hS78, (hl60.trans hl76), hr63, (SliceAt.mono hl76 hs67)⟩ ⟨rfl, rfl, rfl, rfl, rfl, trivial⟩
   ·rintro _ w48 ⟨a51, n52, c53, K46, rfl, hS49, hl47, hr50, hs54⟩
    refine qs ?_
    refine sr ?_
    refine vm rfl rfl ?_
    refine wl_val wn rfl (rv_len (t := tU8) Tryz.underlying22 rfl hs54) ?_
    refine wl_val wn rfl (rv_gtr rfl rfl) ?_
    refine nq ?_
    obtain ⟨o126, h127, h128⟩ := ob h45
    refine wc_cutg (fun E' w' => ∃ (a133 : Option Addr) (n134 c135 : Nat) (K129 : KMap), E' = [(0, sv p0_s), (3, .slice a27 n28 c29), (4, .int .i64 o43.1), (5, .slice a133 n134 c135), (6, .int .i64 s19.2)] ∧ SH w K [] w' K129 [tail (.slice a27 n28 c29) 100 4] ∧ KLe K46 K129 ∧ SliceAt tU8 K129 a133 n134 c135 o126) ?_ ?_
    ·refine wc_cond rfl (fun hb137 => ?_) (fun hb137 => ?_)
     ·have h138 := cond_t hb137 h127
      refine wc_region ?_
      refine vm rfl rfl ?_
      obtain ⟨x139, hx140, h141⟩ := ob h138
      refine wl_sl_h (t := tU8) wn rfl Tryz.underlying22 tf5 rfl rfl hs54 hx140 ?_
      intro a142 n143 c144 hs145
      refine va rfl rfl ?_
      refine wl_nil ?_
      obtain rfl := oi h141
      have hS146 : SH _ _ _ _ _ [_] := SH.sublist hS49 (.cons_cons _ (.cons _ .slnil))
      exact qe_mid' ⟨a142, n143, c144, K46, rfl, hS146, (KLe.refl _), hs145⟩ ⟨rfl, rfl, rfl, rfl, rfl, trivial⟩
     ·have h138 := cond_f hb137 h127
      refine wc_skip ?_
      obtain rfl := oi h138
      have hS147 : SH _ _ _ _ _ [_] := SH.sublist hS49 (.cons_cons _ (.cons _ .slnil))
      exact qe_mid' ⟨a51, n52, c53, K46, rfl, hS147, (KLe.refl _), hs54⟩ ⟨rfl, rfl, rfl, rfl, rfl, trivial⟩
    ·rintro _ w131 ⟨a133, n134, c135, K129, rfl, hS132, hl130, hs136⟩
     refine qr ?_
     refine vm rfl rfl ?_
     refine wl_val wn rfl (rv_len (t := tU8) Tryz.underlying22 rfl hs136) ?_
     refine wl_val wn rfl (rv_gtr rfl rfl) ?_
     refine nq ?_
     refine wc_cond rfl (fun hb148 => ?_) (fun hb148 => ?_)
     ·have h149 := cond_t hb148 h128
      refine wc_region ?_
      refine vm rfl rfl ?_
      refine vm rfl rfl ?_
      refine wl_val wn rfl (rv_b2s Tryz.underlying22 Tryz.underlying5 Tryz.underlying9 rfl hs136 hS132) ?_
      refine vm rfl rfl ?_
      refine wl_val wn rfl (rv_len (t := tGWord) Tryz.underlying97 rfl (SliceAt.mono ((hl40.trans hl47).trans hl130) hs30)) ?_
      refine vm rfl rfl ?_
      refine vm rfl rfl ?_
      refine wl_val wn rfl (rv_build (cs := #[sv o126, .int .i64 (s19.1.length : Int), .int .i64 s19.2, .int .i64 o43.1]) sp100 tf100 rfl (by kernel_rfl)) ?_
      refine wl_buildSlice (t := tGWord) (n := 1) (pv := [(0, .agg #[sv o126, .int .i64 (s19.1.length : Int), .int .i64 s19.2, .int .i64 o43.1])]) (cs := [sv o126, .int .i64 (s19.1.length : Int), .int .i64 s19.2, .int .i64 o43.1]) (xs := [(GWord.mk o126 (s19.1.length : Int) s19.2 o43.1)]) wn rfl Tryz.underlying97 tf100 rfl rfl rfl (by kernel_rfl) rfl rfl (lit_cons (u := .agg #[sv o126, .int .i64 (s19.1.length : Int), .int .i64 s19.2, .int .i64 o43.1]) (z := (GWord.mk o126 (s19.1.length : Int) s19.2 o43.1)) ⟨rfl, (SliceAt.max hs136), (rng_nat (SliceAt.max (SliceAt.mono ((hl40.trans hl47).trans hl130) hs30))), hr31, hr50⟩ lit_nil) hS132 ?_
      intro a150 w151 K152 hl153 hs154 hS155
      have hS156 : SH _ _ _ _ _ [_, _] := SH.front (p := [_]) hS155
      obtain ⟨x157, hx158, h159⟩ := ob h149
      refine wl_append (t := tGWord) wn rfl Tryz.underlying97 tf100 rfl rfl rfl rfl rfl (SliceAt.mono (((hl40.trans hl47).trans hl130).trans hl153) hs30) hs154 hx158 hS156 ?_
      intro a160 n161 c162 w163 K164 hl165 hs166 hS167
      refine va rfl rfl ?_
      refine nb ?_
      refine qe_seq ?_
      refine wc_region ?_
      refine vm rfl rfl ?_
      refine wl_val wn rfl (rv_add rfl rfl) ?_
      refine va rfl rfl ?_
      refine wl_nil ?_
      obtain rfl := oi h159
      have hS168 : SH _ _ _ _ _ [_] := SH.sublist hS167 (.cons_cons _ (.cons _ .slnil))
      exact qe_mid' ⟨_, rfl, a160, n161, c162, K164, rfl, hS168, (((((hl24.trans hl40).trans hl47).trans hl130).trans hl153).trans hl165), hs166, (w64_rng _)⟩ ⟨rfl, rfl, rfl, trivial⟩
     ·have h149 := cond_f hb148 h128
      refine wc_skip ?_
      refine qe_block ?_
      refine qe_seq ?_
      refine wc_region ?_
      refine vm rfl rfl ?_
      refine wl_val wn rfl (rv_add rfl rfl) ?_
      refine va rfl rfl ?_
      refine wl_nil ?_
      obtain rfl := oi h149
      exact qe_mid' ⟨_, rfl, a27, n28, c29, K129, rfl, hS132, (((hl24.trans hl40).trans hl47).trans hl130), (SliceAt.mono ((hl40.trans hl47).trans hl130) hs30), (w64_rng _)⟩ ⟨rfl, rfl, rfl, trivial⟩
  ·have h36 := cond_f hb35 h33
   refine wc_exit ?_
   refine qe_then_exit ?_
   refine qe_then_exit ?_
   obtain rfl := oi h36
   have e169 := hx34 _ rfl
   subst e169
   refine qe_block_eq ?_
   obtain rfl := oi h22
   exact qe_mid' ⟨a27, n28, c29, K23, rfl, hS26, hl24, hs30⟩ ⟨rfl, trivial⟩
 ·rintro _ w13 ⟨a15, n16, c17, K11, rfl, hS14, hl12, hs18⟩
  refine qr ?_
  refine vm rfl rfl ?_
  refine va rfl rfl ?_
  refine nq ?_
  refine wc_ret ?_
  obtain rfl := oi h10
  exact qe_ret (vs := [_]) Tryz.results179 ⟨rfl, trivial⟩ ⟨a15, n16, c17, K11, rfl, hS14, hs18⟩

set_option maxHeartbeats 2000000 in
theorem ok_spec_l2Plain (F : Nat) {w : World} {K : KMap} {a1 : Option Addr} {n2 c3 : Nat} {a5 : Option Addr} {n6 c7 : Nat} {p0_c : GConf} {p1_s : Str} {r : (List GTerm)} (hS : SH w K [] w K []) (hs4 : SliceAt tStr K a1 n2 c3 p0_c.Stops) (hs8 : SliceAt tGSyn K a5 n6 c7 p0_c.Syns) (hl9 : p1_s.length ≤ maxLen) (hm : M.spec_l2Plain F p0_c p1_s = some r) :
  Calls Tryz.prog 169 #[.agg #[.slice a1 n2 c3, .slice a5 n6 c7], sv p1_s] w fun e w' => ∃ (a_1 : Option Addr) (n_2 c_3 : Nat) (K' : KMap), e = .returned (.slice a_1 n_2 c_3) ∧ SH w K [] w' K' [tail (.slice a_1 n_2 c_3) 46 2] ∧ SliceAt tGTerm K' a_1 n_2 c_3 r := by
 rw [M.spec_l2Plain] at hm
 refine calls_in Tryz.func169 rfl Tryz.ntmps169 rfl ?_
 refine sr ?_
 refine wl_box wn rfl rfl hS ?_
 intro g10 w11 hS12
 have hS13 : SH _ _ _ _ _ [obj g10 [.slice a1 n2 c3, .slice a5 n6 c7] 26] := hS12
 refine wl_val wn rfl (rv_assign (v := .slice none 0 0) rfl) ?_
 refine nr ?_
 refine wl_buildSlice0 tGTerm wn rfl Tryz.underlying38 tf46 hS13 ?_
 intro a14 w15 K16 hl17 hs18 hS19
 refine va rfl rfl ?_
 refine nr ?_
 refine vm rfl rfl ?_
 obtain ⟨r20, hx21, h22⟩ := ob hm
 refine wl_call wn rfl (rt_call (vs := [sv p1_s]) co179 rfl) ((ok_spec_l1Words F) hS19.enter0 hl9 hx21) ?_
 rintro e30 w24 ⟨a26, n27, c28, K23, rfl, hS25, hs29⟩
 refine ⟨_, rfl, ?_⟩
 have hS31 : SH _ _ _ _ _ [_, _, _] := SH.call0 hS19 hS25
 refine va rfl rfl ?_
 refine nsr ?_
 refine wl_val wn rfl (rv_assign (v := .int .i64 0) rfl) ?_
 refine nq ?_
 obtain ⟨o32, h33, h34⟩ := ob h22
 refine wc_cutg (fun E' w' => ∃ (a39 : Option Addr) (n40 c41 : Nat) (K35 : KMap), E' = [(5, .slice a39 n40 c41)] ∧ SH w K [] w' K35 [tail (.slice a39 n40 c41) 46 2] ∧ KLe K23 K35 ∧ SliceAt tGTerm K35 a39 n40 c41 o32) ?_ ?_
 ·refine wc_block ?_
  obtain ⟨r44, h45, h46⟩ := ob h33
  have hS56 : SH _ _ _ _ _ [_, _, _] := SH.front (p := [_]) hS31
  have hS57 : SH _ _ _ _ _ [_, _, _] := SH.front (p := [_, _]) hS56
  have hS58 : SH _ _ _ _ _ [_, _] := SH.sublist hS57 (.cons_cons _ (.cons_cons _ (.cons _ .slnil)))
  refine wc_while' (fun (s43 : (List GTerm) × Int) E' w' => ∃ (a51 : Option Addr) (n52 c53 : Nat) (K47 : KMap), E' = [(2, .pointer (some ⟨g10, 0, none⟩)), (5, .slice a51 n52 c53), (6, .slice a26 n27 c28), (7, .int .i64 s43.2)] ∧ SH w K [] w' K47 [obj g10 [.slice a1 n2 c3, .slice a5 n6 c7] 26, tail (.slice a51 n52 c53) 46 2] ∧ KLe K23 K47 ∧ SliceAt tGTerm K47 a51 n52 c53 s43.1 ∧ rng64 s43.2) h45 ⟨a14, 0, 0, K23, rfl, hS58, (KLe.refl _), (SliceAt.mono hS25.le hs18), (by decide : rng64 0)⟩ ⟨rfl, rfl, rfl, rfl, trivial⟩ ?_
  rintro s43 _ w49 r59 h60 hx61 ⟨a51, n52, c53, K47, rfl, hS50, hl48, hs54, hr55⟩
  refine wc_seq ?_
  refine sr ?_
  refine vm rfl rfl ?_
  refine vm rfl rfl ?_
  refine wl_val wn rfl (rv_len (t := tGWord) Tryz.underlying97 rfl (SliceAt.mono hl48 hs29)) ?_
  refine wl_val wn rfl (rv_lss rfl rfl) ?_
  refine nq ?_
  refine wc_cond rfl (fun hb62 => ?_) (fun hb62 => ?_)
  ·have h63 := cond_t hb62 h60
   refine wc_skip ?_
   refine qs ?_
   refine wc_block ?_
   refine sr ?_
   refine vm rfl rfl ?_
   refine vm rfl rfl ?_
   obtain ⟨x64, hx65, h66⟩ := ob h63
   refine wl_indexAddr (t := tGWord) wn rfl Tryz.underlying97 tf100 rfl rfl (SliceAt.mono hl48 hs29) hx65 ?_
   intro b67 o68 u69 hu70 ha71
   obtain ⟨rfl, hl72, hr73, hr74, hr75⟩ := hu70
   have ha76 : AtK _ b67 o68 [sv x64.Text, .int .i64 x64.At, .int .i64 x64.From, .int .i64 x64.To] := ha71
   refine wl_val wn rfl (rv_fieldAddr ff100_0 rfl) ?_
   refine wl_val wn rfl (rv_load1 tf9 rfl hS50 (ha76 0 _ rfl)) ?_
   obtain ⟨r77, hx78, h79⟩ := ob h66
   refine wl_call wn rfl (rt_call (vs := [sv x64.Text]) co110 rfl) ((ok_spec_l2Stem F) hS50.enter0 hl72 hx78) ?_
   rintro e84 w81 ⟨K80, rfl, hS82, hl83⟩
   refine ⟨_, rfl, ?_⟩
   have hS85 : SH _ _ _ _ _ [_, _] := SH.call0 hS50 hS82
   refine va rfl rfl ?_
   refine ns ?_
   obtain ⟨o86, h87, h88⟩ := ob h79
   refine wc_cutg (fun E' w' => ∃ (K89 : KMap), E' = [(2, .pointer (some ⟨g10, 0, none⟩)), (5, .slice a51 n52 c53), (6, .slice a26 n27 c28), (7, .int .i64 s43.2), (8, sv r77), (39, .bool o86)] ∧ SH w K [] w' K89 [obj g10 [.slice a1 n2 c3, .slice a5 n6 c7] 26, tail (.slice a51 n52 c53) 46 2] ∧ KLe K80 K89) ?_ ?_
   ·refine wc_quiet mixed (by kernel_rfl) hS85 ?_
    refine wq_val wn rfl (fun _ _ => (rv_fieldAddr ff26_0 rfl)) ?_
    refine wq_val wn rfl (rq_loadm1 tf23 rfl (.head _) rfl) ?_
    refine qm rfl rfl ?_
    refine qm rfl rfl ?_
    obtain ⟨x93, hx94, h95⟩ := ob h87
    refine wq_indexAddr (t := tGWord) wn rfl Tryz.underlying97 tf100 rfl rfl (SliceAt.mono (hl48.trans hS82.le) hs29) hx94 ?_
    intro b96 o97 u98 hu99 ha100
    obtain ⟨rfl, hl101, hr102, hr103, hr104⟩ := hu99
    have ha105 : AtK _ b96 o97 [sv x93.Text, .int .i64 x93.At, .int .i64 x93.From, .int .i64 x93.To] := ha100
    refine wq_val wn rfl (fun _ _ => (rv_fieldAddr ff100_0 rfl)) ?_
    refine wq_val wn rfl (rq_load1 tf9 rfl (ha105 0 _ rfl)) ?_
    obtain ⟨r106, hx107, h108⟩ := ob h95
    refine wq_call (v := .bool r106) wn rfl (fun _ => rt_call (vs := [.slice a1 n2 c3, sv x93.Text]) co111 rfl) (fun w111 ⟨K109, hS110, hl112⟩ => ((ok_spec_l2Has F) hS110.enter0 (SliceAt.mono ((((hl17.trans hS25.le).trans hl48).trans hS82.le).trans hl112) hs4) hl101 hx107).mono fun e w' ⟨K', he, hS'⟩ => ⟨he, K', hS110.call0 hS', hl112.trans hS'.le⟩) ?_
    refine wq_val wn rfl (fun _ _ => (rv_not rfl)) ?_
    refine qm rfl rfl ?_
    rcases bool_tf ((!r106)) with hb113 | hb113
    ·have h114 := cond_t hb113 h108
     refine wq_val (wg rfl rfl hb113) rfl (fun _ _ => (rv_fieldAddr ff26_0 rfl)) ?_
     refine wq_val (wg rfl rfl hb113) rfl (rq_loadm1 tf23 rfl (.head _) rfl) ?_
     refine wq_val (wg rfl rfl hb113) rfl (fun _ _ => (rv_move rfl)) ?_
     obtain ⟨r115, hx116, h117⟩ := ob h114
     refine wq_call (v := .bool r115) (wg rfl rfl hb113) rfl (fun _ => rt_call (vs := [.slice a1 n2 c3, sv r77]) co111 rfl) (fun w120 ⟨K118, hS119, hl121⟩ => ((ok_spec_l2Has F) hS119.enter0 (SliceAt.mono ((((hl17.trans hS25.le).trans hl48).trans hS82.le).trans hl121) hs4) hl83 hx116).mono fun e w' ⟨K', he, hS'⟩ => ⟨he, K', hS119.call0 hS', hl121.trans hS'.le⟩) ?_
     refine wq_val (wg rfl rfl hb113) rfl (fun _ _ => (rv_not rfl)) ?_
     refine wq_val wn rfl (fun _ _ => (rv_pick_t rfl hb113 rfl)) ?_
     refine wq_nil ?_
     rintro w123 ⟨K122, hS124, hl125⟩
     obtain rfl := oi h117
     exact qe_mid' ⟨K122, rfl, hS124, hl125⟩ ⟨rfl, rfl, rfl, rfl, rfl, rfl, trivial⟩
    ·have h114 := cond_f hb113 h108
     refine wq_un (ug rfl rfl hb113) rfl ?_
     refine wq_un (ug rfl rfl hb113) rfl ?_
     refine wq_un (ug rfl rfl hb113) rfl ?_
     refine wq_un (ug rfl rfl hb113) rfl ?_
     refine wq_un (ug rfl rfl hb113) rfl ?_
     refine wq_val wn rfl (fun _ _ => (rv_pick_f (v := .bool false) rfl hb113 rfl)) ?_
     refine wq_nil ?_
     rintro w127 ⟨K126, hS128, hl129⟩
     obtain rfl := oi h114
     exact qe_mid' ⟨K126, rfl, hS128, hl129⟩ ⟨rfl, rfl, rfl, rfl, rfl, rfl, trivial⟩
   ·rintro _ w91 ⟨K89, rfl, hS92, hl90⟩
    refine qe_seq ?_
    refine wc_cond rfl (fun hb130 => ?_) (fun hb130 => ?_)
    ·have h131 := cond_t hb130 h88
     refine wc_region ?_
     refine vm rfl rfl ?_
     refine vm rfl rfl ?_
     refine vm rfl rfl ?_
     refine vm rfl rfl ?_
     obtain ⟨x132, hx133, h134⟩ := ob h131
     refine wl_indexAddr (t := tGWord) wn rfl Tryz.underlying97 tf100 rfl rfl (SliceAt.mono ((hl48.trans hS82.le).trans hl90) hs29) hx133 ?_
     intro b135 o136 u137 hu138 ha139
     obtain ⟨rfl, hl140, hr141, hr142, hr143⟩ := hu138
     have ha144 : AtK _ b135 o136 [sv x132.Text, .int .i64 x132.At, .int .i64 x132.From, .int .i64 x132.To] := ha139
     refine wl_val wn rfl (rv_fieldAddr ff100_1 rfl) ?_
     refine wl_val wn rfl (rv_load1 tf3 rfl hS92 (ha144 1 _ rfl)) ?_
     refine wl_val wn rfl (rv_build (cs := #[sv r77, .int .i64 x132.At]) sp46 tf46 rfl (by kernel_rfl)) ?_
     refine wl_buildSlice (t := tGTerm) (n := 1) (pv := [(0, .agg #[sv r77, .int .i64 x132.At])]) (cs := [sv r77, .int .i64 x132.At]) (xs := [(GTerm.mk r77 x132.At)]) wn rfl Tryz.underlying38 tf46 rfl rfl rfl (by kernel_rfl) rfl rfl (lit_cons (u := .agg #[sv r77, .int .i64 x132.At]) (z := (GTerm.mk r77 x132.At)) ⟨rfl, hl83, hr141⟩ lit_nil) hS92 ?_
     intro a145 w146 K147 hl148 hs149 hS150
     have hS151 : SH _ _ _ _ _ [_, _, _] := SH.front (p := [_, _]) hS150
     obtain ⟨x152, hx153, h154⟩ := ob h134
     refine wl_append (t := tGTerm) wn rfl Tryz.underlying38 tf46 rfl rfl rfl rfl rfl (SliceAt.mono ((hS82.le.trans hl90).trans hl148) hs54) hs149 hx153 hS151 ?_
     intro a155 n156 c157 w158 K159 hl160 hs161 hS162
     refine va rfl rfl ?_
     refine nb ?_
     refine qe_seq ?_
     refine wc_region ?_
     refine vm rfl rfl ?_
     refine wl_val wn rfl (rv_add rfl rfl) ?_
     refine va rfl rfl ?_
     refine wl_nil ?_
     obtain rfl := oi h154
     have hS163 : SH _ _ _ _ _ [_, _, _] := SH.front (p := [_, _]) hS162
     have hS164 : SH _ _ _ _ _ [_, _] := SH.sublist hS163 (.cons_cons _ (.cons_cons _ (.cons _ .slnil)))
     exact qe_mid' ⟨_, rfl, a155, n156, c157, K159, rfl, hS164, ((((hl48.trans hS82.le).trans hl90).trans hl148).trans hl160), hs161, (w64_rng _)⟩ ⟨rfl, rfl, rfl, rfl, trivial⟩
    ·have h131 := cond_f hb130 h88
     refine wc_skip ?_
     refine qe_block ?_
     refine qe_seq ?_
     refine wc_region ?_
     refine vm rfl rfl ?_
     refine wl_val wn rfl (rv_add rfl rfl) ?_
     refine va rfl rfl ?_
     refine wl_nil ?_
     obtain rfl := oi h131
     exact qe_mid' ⟨_, rfl, a51, n52, c53, K89, rfl, hS92, ((hl48.trans hS82.le).trans hl90), (SliceAt.mono (hS82.le.trans hl90) hs54), (w64_rng _)⟩ ⟨rfl, rfl, rfl, rfl, trivial⟩
  ·have h63 := cond_f hb62 h60
   refine wc_exit ?_
   refine qe_then_exit ?_
   refine qe_then_exit ?_
   obtain rfl := oi h63
   have e165 := hx61 _ rfl
   subst e165
   refine qe_block_eq ?_
   obtain rfl := oi h46
   have hS166 : SH _ _ _ _ _ [_] := SH.sublist hS50 (.cons _ (.cons_cons _ .slnil))
   exact qe_mid' ⟨a51, n52, c53, K47, rfl, hS166, hl48, hs54⟩ ⟨rfl, trivial⟩
 ·rintro _ w37 ⟨a39, n40, c41, K35, rfl, hS38, hl36, hs42⟩
  refine qr ?_
  refine vm rfl rfl ?_
  refine va rfl rfl ?_
  refine nq ?_
  refine wc_ret ?_
  obtain rfl := oi h34
  exact qe_ret (vs := [_]) Tryz.results169 ⟨rfl, trivial⟩ ⟨a39, n40, c41, K35, rfl, hS38, hs42⟩

set_option maxHeartbeats 2000000 in
theorem ok_spec_l2Begins (F : Nat) {w : World} {K : KMap} {a1 : Option Addr} {n2 c3 : Nat} {a5 : Option Addr} {n6 c7 : Nat} {p0_list : List GTerm} {p1_from : List Str} {r : Bool} (hS : SH w K [] w K []) (hs4 : SliceAt tGTerm K a1 n2 c3 p0_list) (hs8 : SliceAt tStr K a5 n6 c7 p1_from) (hm : M.spec_l2Begins F p0_list p1_from = some r) :
  Calls Tryz.prog 180 #[.slice a1 n2 c3, .slice a5 n6 c7] w fun e w' => ∃ (K' : KMap), e = .returned (.bool r) ∧ SH w K [] w' K' [] := by
 rw [M.spec_l2Begins] at hm
 refine calls_in Tryz.func180 rfl Tryz.ntmps180 rfl ?_
 refine sr ?_
 refine wl_val wn rfl (rv_assign (v := .bool false) rfl) ?_
 refine nsr ?_
 refine wl_val wn rfl (rv_assign (v := .int .i64 0) rfl) ?_
 refine nq ?_
 obtain ⟨o9, h10, h11⟩ := ob hm
 refine wc_cutg (fun E' w' => ∃ (s12 : Unit) (K13 : KMap), o9 = .inl s12 ∧ E' = [] ∧ SH w K [] w' K13 [] ∧ KLe K K13) ?_ ?_
 ·refine wc_block ?_
  obtain ⟨r18, h19, h20⟩ := ob h10
  refine wc_while' (fun (s17 : Int) E' w' => ∃ (K21 : KMap), E' = [(0, .slice a1 n2 c3), (1, .slice a5 n6 c7), (5, .int .i64 s17)] ∧ SH w K [] w' K21 [] ∧ KLe K K21 ∧ rng64 s17) h19 ⟨K, rfl, hS, (KLe.refl _), (by decide : rng64 0)⟩ ⟨rfl, rfl, rfl, trivial⟩ ?_
  rintro s17 _ w23 r26 h27 hx28 ⟨K21, rfl, hS24, hl22, hr25⟩
  refine wc_seq ?_
  refine sr ?_
  refine vm rfl rfl ?_
  refine vm rfl rfl ?_
  refine wl_val wn rfl (rv_len (t := tStr) Tryz.underlying23 rfl (SliceAt.mono hl22 hs8)) ?_
  refine wl_val wn rfl (rv_lss rfl rfl) ?_
  refine nq ?_
  refine wc_cond rfl (fun hb29 => ?_) (fun hb29 => ?_)
  ·have h30 := cond_t hb29 h27
   refine wc_skip ?_
   refine qs ?_
   refine wc_block ?_
   refine wc_seq ?_
   obtain ⟨o31, h32, h33⟩ := ob h30
   refine wc_cutg (fun E' w' => ∃ (K34 : KMap), E' = [(0, .slice a1 n2 c3), (1, .slice a5 n6 c7), (5, .int .i64 s17), (41, .bool o31)] ∧ SH w K [] w' K34 [] ∧ KLe K21 K34) ?_ ?_
   ·refine wc_quiet mixed (by kernel_rfl) hS24 ?_
    refine qm rfl rfl ?_
    refine qm rfl rfl ?_
    refine wq_val wn rfl (fun _ _ => (rv_len (t := tGTerm) Tryz.underlying38 rfl (SliceAt.mono hl22 hs4))) ?_
    refine wq_val wn rfl (fun _ _ => (rv_geq rfl rfl)) ?_
    refine qm rfl rfl ?_
    rcases bool_tf (decide ((p0_list.length : Int) ≤ s17)) with hb38 | hb38
    ·have h39 := cond_t hb38 h32
     refine wq_un (ug rfl rfl hb38) rfl ?_
     refine wq_un (ug rfl rfl hb38) rfl ?_
     refine wq_un (ug rfl rfl hb38) rfl ?_
     refine wq_un (ug rfl rfl hb38) rfl ?_
     refine wq_un (ug rfl rfl hb38) rfl ?_
     refine wq_un (ug rfl rfl hb38) rfl ?_
     refine wq_un (ug rfl rfl hb38) rfl ?_
     refine wq_un (ug rfl rfl hb38) rfl ?_
     refine wq_un (ug rfl rfl hb38) rfl ?_
     refine wq_un (ug rfl rfl hb38) rfl ?_
     refine wq_val wn rfl (fun _ _ => (rv_pick_t (v := .bool true) rfl hb38 rfl)) ?_
     refine qm rfl rfl ?_
     refine qv rfl rfl rfl rfl ?_
     refine qv rfl rfl rfl rfl ?_
     refine qv rfl rfl rfl rfl ?_
     refine qv rfl rfl rfl rfl ?_
     refine qv rfl rfl rfl rfl ?_
     refine qv rfl rfl rfl rfl ?_
     refine qv rfl rfl rfl rfl ?_
     refine qv rfl rfl rfl rfl ?_
     refine qv rfl rfl rfl rfl ?_
     refine qv rfl rfl rfl rfl ?_
     refine qv rfl rfl rfl rfl ?_
     refine qv rfl rfl rfl rfl ?_
     refine wq_val wn rfl (fun _ _ => (rv_pick_t (v := .bool true) rfl rfl rfl)) ?_
     refine wq_nil ?_
     rintro w41 ⟨K40, hS42, hl43⟩
     obtain rfl := oi h39
     exact qe_mid' ⟨K40, rfl, hS42, hl43⟩ ⟨rfl, rfl, rfl, rfl, trivial⟩
    ·have h39 := cond_f hb38 h32
     refine wq_val (wg rfl rfl hb38) rfl (fun _ _ => (rv_move rfl)) ?_
     refine wq_val (wg rfl rfl hb38) rfl (fun _ _ => (rv_move rfl)) ?_
     obtain ⟨x44, hx45, h46⟩ := ob h39
     refine wq_indexAddr (t := tGTerm) (wg rfl rfl hb38) rfl Tryz.underlying38 tf46 rfl rfl (SliceAt.mono hl22 hs4) hx45 ?_
     intro b47 o48 u49 hu50 ha51
     obtain ⟨rfl, hl52, hr53⟩ := hu50
     have ha54 : AtK _ b47 o48 [sv x44.Text, .int .i64 x44.At] := ha51
     refine wq_val (wg rfl rfl hb38) rfl (fun _ _ => (rv_fieldAddr ff46_0 rfl)) ?_
     refine wq_val (wg rfl rfl hb38) rfl (rq_load1 tf9 rfl (ha54 0 _ rfl)) ?_
     refine wq_val (wg rfl rfl hb38) rfl (fun _ _ => (rv_move rfl)) ?_
     refine wq_val (wg rfl rfl hb38) rfl (fun _ _ => (rv_move rfl)) ?_
     obtain ⟨x55, hx56, h57⟩ := ob h46
     refine wq_indexAddr (t := tStr) (wg rfl rfl hb38) rfl Tryz.underlying23 tf9 rfl rfl (SliceAt.mono hl22 hs8) hx56 ?_
     intro b58 o59 u60 hu61 ha62
     obtain ⟨rfl, hl63⟩ := hu61
     have ha64 : AtK _ b58 o59 [sv x55] := ha62
     refine wq_val (wg rfl rfl hb38) rfl (rq_load1 tf9 rfl (ha64 0 _ rfl)) ?_
     refine wq_val (wg rfl rfl hb38) rfl (fun _ _ => (rv_sneq rfl rfl)) ?_
     refine wq_val wn rfl (fun _ _ => (rv_pick_f rfl hb38 rfl)) ?_
     refine qm rfl rfl ?_
     rcases bool_tf ((!(x44.Text == x55))) with hb65 | hb65
     ·have h66 := cond_t hb65 h57
      refine wq_un (ug rfl rfl hb65) rfl ?_
      refine wq_un (ug rfl rfl hb65) rfl ?_
      refine wq_un (ug rfl rfl hb65) rfl ?_
      refine wq_un (ug rfl rfl hb65) rfl ?_
      refine wq_un (ug rfl rfl hb65) rfl ?_
      refine wq_un (ug rfl rfl hb65) rfl ?_
      refine wq_un (ug rfl rfl hb65) rfl ?_
      refine wq_un (ug rfl rfl hb65) rfl ?_
      refine wq_un (ug rfl rfl hb65) rfl ?_
      refine wq_un (ug rfl rfl hb65) rfl ?_
      refine wq_un (ug rfl rfl hb65) rfl ?_
      refine wq_un (ug rfl rfl hb65) rfl ?_
      refine wq_val wn rfl (fun _ _ => (rv_pick_t (v := .bool true) rfl hb65 rfl)) ?_
      refine wq_nil ?_
      rintro w68 ⟨K67, hS69, hl70⟩
      obtain rfl := oi h66
      exact qe_mid' ⟨K67, rfl, hS69, hl70⟩ ⟨rfl, rfl, rfl, rfl, trivial⟩
     ·have h66 := cond_f hb65 h57
      refine wq_val (wg rfl rfl hb65) rfl (fun _ _ => (rv_move rfl)) ?_
      refine wq_val (wg rfl rfl hb65) rfl (fun _ _ => (rv_move rfl)) ?_
      obtain ⟨x71, hx72, h73⟩ := ob h66
      refine wq_indexAddr (t := tGTerm) (wg rfl rfl hb65) rfl Tryz.underlying38 tf46 rfl rfl (SliceAt.mono hl22 hs4) hx72 ?_
      intro b74 o75 u76 hu77 ha78
      obtain ⟨rfl, hl79, hr80⟩ := hu77
      have ha81 : AtK _ b74 o75 [sv x71.Text, .int .i64 x71.At] := ha78
      refine wq_val (wg rfl rfl hb65) rfl (fun _ _ => (rv_fieldAddr ff46_1 rfl)) ?_
      refine wq_val (wg rfl rfl hb65) rfl (rq_load1 tf3 rfl (ha81 1 _ rfl)) ?_
      refine wq_val (wg rfl rfl hb65) rfl (fun _ _ => (rv_move rfl)) ?_
      obtain ⟨x82, hx83, h84⟩ := ob h73
      refine wq_indexAddr (t := tGTerm) (wg rfl rfl hb65) rfl Tryz.underlying38 tf46 rfl rfl (SliceAt.mono hl22 hs4) hx83 ?_
      intro b85 o86 u87 hu88 ha89
      obtain ⟨rfl, hl90, hr91⟩ := hu88
      have ha92 : AtK _ b85 o86 [sv x82.Text, .int .i64 x82.At] := ha89
      refine wq_val (wg rfl rfl hb65) rfl (fun _ _ => (rv_fieldAddr ff46_1 rfl)) ?_
      refine wq_val (wg rfl rfl hb65) rfl (rq_load1 tf3 rfl (ha92 1 _ rfl)) ?_
      refine wq_val (wg rfl rfl hb65) rfl (fun _ _ => (rv_move rfl)) ?_
      refine wq_val (wg rfl rfl hb65) rfl (fun _ _ => (rv_add rfl rfl)) ?_
      refine wq_val (wg rfl rfl hb65) rfl (fun _ _ => (rv_neq rfl rfl)) ?_
      refine wq_val wn rfl (fun _ _ => (rv_pick_f rfl hb65 rfl)) ?_
      refine wq_nil ?_
      rintro w94 ⟨K93, hS95, hl96⟩
      obtain rfl := oi h84
      exact qe_mid' ⟨K93, rfl, hS95, hl96⟩ ⟨rfl, rfl, rfl, rfl, trivial⟩
   ·rintro _ w36 ⟨K34, rfl, hS37, hl35⟩
    refine qe_seq ?_
    refine wc_cond rfl (fun hb97 => ?_) (fun hb97 => ?_)
    ·have h98 := cond_t hb97 h33
     refine sr ?_
     refine wl_val wn rfl (rv_assign (v := .bool false) rfl) ?_
     refine nq ?_
     refine wc_ret ?_
     refine qe_block_ret ?_
     refine qe_then_ret ?_
     refine qe_then_ret ?_
     obtain rfl := oi h98
     have e99 := hx28 _ rfl
     subst e99
     refine qe_block_ret ?_
     refine qe_then_ret ?_
     obtain rfl := oi h20
     refine qe_then_ret ?_
     obtain rfl := oi h11
     exact qe_ret (vs := [_]) Tryz.results180 ⟨rfl, trivial⟩ ⟨K34, rfl, hS37⟩
    ·have h98 := cond_f hb97 h33
     refine wc_skip ?_
     refine qe_block ?_
     refine qe_seq ?_
     refine wc_region ?_
     refine vm rfl rfl ?_
     refine wl_val wn rfl (rv_add rfl rfl) ?_
     refine va rfl rfl ?_
     refine wl_nil ?_
     obtain rfl := oi h98
     exact qe_mid' ⟨_, rfl, K34, rfl, hS37, (hl22.trans hl35), (w64_rng _)⟩ ⟨rfl, rfl, rfl, trivial⟩
  ·have h30 := cond_f hb29 h27
   refine wc_exit ?_
   refine qe_then_exit ?_
   refine qe_then_exit ?_
   obtain rfl := oi h30
   have e100 := hx28 _ rfl
   subst e100
   refine qe_block_eq ?_
   obtain rfl := oi h20
   exact qe_mid' ⟨_, K21, rfl, rfl, hS24, hl22⟩ trivial
 ·rintro _ w15 ⟨s12, K13, rfl, rfl, hS16, hl14⟩
  refine qr ?_
  refine wl_val wn rfl (rv_assign (v := .bool true) rfl) ?_
  refine nq ?_
  refine wc_ret ?_
  obtain rfl := oi h11
  exact qe_ret (vs := [_]) Tryz.results180 ⟨rfl, trivial⟩ ⟨K13, rfl, hS16⟩
end Go.Proofs.YtdcmmhjhffcnhaaGreat
