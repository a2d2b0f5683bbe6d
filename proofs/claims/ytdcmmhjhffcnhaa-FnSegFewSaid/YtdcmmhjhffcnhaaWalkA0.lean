/-
 Walks of the functions. Printed by gen.py.
-/
import Derived.Test.YtdcmmhjhffcnhaaFacts
set_option linter.unusedVariables false
set_option maxRecDepth 100000
namespace Go.Proofs.Ytdcmmhjhffcnhaa
open Go Go.Fk Go.RowKit

theorem ok_impl_within (F : Nat) {w : World} {K : KMap} {p0_n : Int} {p1_low : Int} {p2_high : Int} {r : Bool} (hS : SH w K [] w K []) (hr1 : rng64 p0_n) (hr2 : rng64 p1_low) (hr3 : rng64 p2_high) (hm : M.impl_within F p0_n p1_low p2_high = some r) :
  Calls Try.prog 48 #[.int .i64 p0_n, .int .i64 p1_low, .int .i64 p2_high] w fun e w' => ∃ (K' : KMap), e = .returned (.bool r) ∧ SH w K [] w' K' [] := by
 rw [M.impl_within] at hm
 refine calls_in Try.func48 rfl Try.ntmps48 rfl ?_
 refine sr ?_
 refine wl_val wn rfl (rv_assign (v := .bool false) rfl) ?_
 refine nr ?_
 refine vm rfl rfl ?_
 refine vm rfl rfl ?_
 refine wl_val wn rfl (rv_geq rfl rfl) ?_
 refine vm rfl rfl ?_
 rcases bool_tf (decide (p1_low ≤ p0_n)) with hb4 | hb4
 ·have h5 := cond_t hb4 hm
  refine wl_val (wg rfl rfl hb4) rfl (rv_move rfl) ?_
  refine wl_val (wg rfl rfl hb4) rfl (rv_move rfl) ?_
  refine wl_val (wg rfl rfl hb4) rfl (rv_leq rfl rfl) ?_
  refine wl_val wn rfl (rv_pick_t rfl hb4 rfl) ?_
  refine va rfl rfl ?_
  refine nq ?_
  refine wc_ret ?_
  obtain rfl := oi h5
  exact qe_ret (vs := [_]) Try.results48 ⟨rfl, trivial⟩ ⟨K, rfl, hS⟩
 ·have h5 := cond_f hb4 hm
  refine wl_un (ug rfl rfl hb4) rfl ?_
  refine wl_un (ug rfl rfl hb4) rfl ?_
  refine wl_un (ug rfl rfl hb4) rfl ?_
  refine wl_val wn rfl (rv_pick_f (v := .bool false) rfl hb4 rfl) ?_
  refine va rfl rfl ?_
  refine nq ?_
  refine wc_ret ?_
  obtain rfl := oi h5
  exact qe_ret (vs := [_]) Try.results48 ⟨rfl, trivial⟩ ⟨K, rfl, hS⟩

theorem ok_impl_TextOk (F : Nat) {w : World} {K : KMap} {p0_s : Str} {r : Bool} (hS : SH w K [] w K []) (hl1 : p0_s.length ≤ maxLen) (hm : M.impl_TextOk F p0_s = some r) :
  Calls Try.prog 56 #[sv p0_s] w fun e w' => ∃ (K' : KMap), e = .returned (.bool r) ∧ SH w K [] w' K' [] := by
 rw [M.impl_TextOk] at hm
 refine calls_in Try.func56 rfl Try.ntmps56 rfl ?_
 refine sr ?_
 refine wl_val wn rfl (rv_assign (v := .bool false) rfl) ?_
 refine nsr ?_
 refine vm rfl rfl ?_
 refine wl_val wn rfl (rv_slen Try.underlying9 rfl) ?_
 refine wl_val wn rfl (rv_move (v := .int .i64 0) rfl) ?_
 refine nq ?_
 obtain ⟨o2, h3, h4⟩ := ob hm
 refine wc_cutg (fun E' w' => ∃ (s5 : Unit) (K6 : KMap), o2 = .inl s5 ∧ E' = [(0, sv p0_s)] ∧ SH w K [] w' K6 [] ∧ KLe K K6) ?_ ?_
 ·refine wc_block ?_
  obtain ⟨r11, h12, h13⟩ := ob h3
  refine wc_for' (fun (i14 : Nat) (s10 : Unit) E' w' => ∃ (K15 : KMap), E' = [(0, sv p0_s), (5, .int .i64 (p0_s.length : Int)), (6, .int .i64 ((i14 : Nat) : Int))] ∧ SH w K [] w' K15 [] ∧ KLe K K15) h12 ⟨K, rfl, hS, (KLe.refl _)⟩ ⟨rfl, rfl, rfl, trivial⟩ ?_ ?_
  ·rintro i14 s10 _ w17 r19 hi20 h21 hx22 ⟨K15, rfl, hS18, hl16⟩
   refine sr ?_
   refine wl_val wn rfl (rv_lss rfl rfl) ?_
   refine ns ?_
   refine wc_cond_t rfl (decide_eq_true (by omega)) (wc_skip (qe_seq (wc_seq ?_)))
   refine wc_block ?_
   refine sr ?_
   refine vm rfl rfl ?_
   refine va rfl rfl ?_
   refine ns ?_
   obtain ⟨o23, h24, h25⟩ := ob h21
   refine wc_cutg (fun E' w' => ∃ (K26 : KMap), E' = [(0, sv p0_s), (5, .int .i64 (p0_s.length : Int)), (6, .int .i64 ((i14 : Nat) : Int)), (18, .bool o23)] ∧ SH w K [] w' K26 [] ∧ KLe K15 K26) ?_ ?_
   ·refine wc_region ?_
    refine vm rfl rfl ?_
    refine vm rfl rfl ?_
    obtain ⟨x30, hx31, h32⟩ := ob h24
    refine wl_val wn rfl (rv_sidx Try.underlying9 rfl rfl hx31) ?_
    refine wl_val wn rfl (rv_bl (b := (32 : UInt8)) rfl rfl) ?_
    refine vm rfl rfl ?_
    rcases bool_tf (decide (x30 < (32 : UInt8))) with hb33 | hb33
    ·have h34 := cond_t hb33 h32
     refine wl_un (ug rfl rfl hb33) rfl ?_
     refine wl_un (ug rfl rfl hb33) rfl ?_
     refine wl_un (ug rfl rfl hb33) rfl ?_
     refine wl_un (ug rfl rfl hb33) rfl ?_
     refine wl_val wn rfl (rv_pick_t (v := .bool true) rfl hb33 rfl) ?_
     refine wl_nil ?_
     obtain rfl := oi h34
     exact qe_mid' ⟨K15, rfl, hS18, (KLe.refl _)⟩ ⟨rfl, rfl, rfl, rfl, trivial⟩
    ·have h34 := cond_f hb33 h32
     refine wl_val (wg rfl rfl hb33) rfl (rv_move rfl) ?_
     refine wl_val (wg rfl rfl hb33) rfl (rv_move rfl) ?_
     obtain ⟨x35, hx36, h37⟩ := ob h34
     refine wl_val (wg rfl rfl hb33) rfl (rv_sidx Try.underlying9 rfl rfl hx36) ?_
     refine wl_val (wg rfl rfl hb33) rfl (rv_bg (b := (126 : UInt8)) rfl rfl) ?_
     refine wl_val wn rfl (rv_pick_f rfl hb33 rfl) ?_
     refine wl_nil ?_
     obtain rfl := oi h37
     exact qe_mid' ⟨K15, rfl, hS18, (KLe.refl _)⟩ ⟨rfl, rfl, rfl, rfl, trivial⟩
   ·rintro _ w28 ⟨K26, rfl, hS29, hl27⟩
    refine qe_seq ?_
    refine wc_cond rfl (fun hb38 => ?_) (fun hb38 => ?_)
    ·have h39 := cond_t hb38 h25
     refine sr ?_
     refine wl_val wn rfl (rv_assign (v := .bool false) rfl) ?_
     refine nq ?_
     refine wc_ret ?_
     refine qe_block_ret ?_
     refine qe_then_ret ?_
     refine qe_then_ret ?_
     obtain rfl := oi h39
     have e40 := hx22 _ rfl
     subst e40
     refine qe_block_ret ?_
     refine qe_then_ret ?_
     obtain rfl := oi h13
     refine qe_then_ret ?_
     obtain rfl := oi h4
     exact qe_ret (vs := [_]) Try.results56 ⟨rfl, trivial⟩ ⟨K26, rfl, hS29⟩
    ·have h39 := cond_f hb38 h25
     refine wc_skip ?_
     refine qe_block ?_
     refine qg ?_
     refine wl_val wn rfl (rv_add_to rfl rfl (w64_succ hi20 hl1)) ?_
     refine vm rfl rfl ?_
     refine wl_nil ?_
     obtain rfl := oi h39
     exact qe_mid' ⟨_, rfl, K26, rfl, hS29, (hl16.trans hl27)⟩ ⟨rfl, rfl, rfl, trivial⟩
  ·rintro s10 _ w17 hr41 ⟨K15, rfl, hS18, hl16⟩
   subst hr41
   refine sr ?_
   refine wl_val wn rfl (rv_lss rfl rfl) ?_
   refine ns ?_
   refine wc_cond_f rfl (decide_eq_false (by omega)) ?_
   refine wc_exit ?_
   refine qe_then_exit ?_
   refine qe_then_exit ?_
   refine qe_block_eq ?_
   obtain rfl := oi h13
   exact qe_mid' ⟨_, K15, rfl, rfl, hS18, hl16⟩ ⟨rfl, trivial⟩
 ·rintro _ w8 ⟨s5, K6, rfl, rfl, hS9, hl7⟩
  refine qr ?_
  refine vm rfl rfl ?_
  refine wl_val wn rfl (rv_slen Try.underlying9 rfl) ?_
  refine wl_val wn rfl (rv_leq rfl rfl) ?_
  refine va rfl rfl ?_
  refine nq ?_
  refine wc_ret ?_
  obtain rfl := oi h4
  exact qe_ret (vs := [_]) Try.results56 ⟨rfl, trivial⟩ ⟨K6, rfl, hS9⟩

theorem ok_impl_wordByte (F : Nat) {w : World} {K : KMap} {p0_b : UInt8} {r : Bool} (hS : SH w K [] w K []) (hm : M.impl_wordByte F p0_b = some r) :
  Calls Try.prog 93 #[iv8 p0_b] w fun e w' => ∃ (K' : KMap), e = .returned (.bool r) ∧ SH w K [] w' K' [] := by
 rw [M.impl_wordByte] at hm
 refine calls_in Try.func93 rfl Try.ntmps93 rfl ?_
 refine sr ?_
 refine wl_val wn rfl (rv_assign (v := .bool false) rfl) ?_
 refine nr ?_
 refine vm rfl rfl ?_
 refine wl_val wn rfl (rv_bge (b := (97 : UInt8)) rfl rfl) ?_
 refine vm rfl rfl ?_
 rcases bool_tf (decide ((97 : UInt8) ≤ p0_b)) with hb1 | hb1
 ·have h2 := cond_t hb1 hm
  refine wl_val (wg rfl rfl hb1) rfl (rv_move rfl) ?_
  refine wl_val (wg rfl rfl hb1) rfl (rv_ble (b := (122 : UInt8)) rfl rfl) ?_
  refine wl_val wn rfl (rv_pick_t rfl hb1 rfl) ?_
  refine vm rfl rfl ?_
  rcases bool_tf (decide (p0_b ≤ (122 : UInt8))) with hb3 | hb3
  ·have h4 := cond_t hb3 h2
   refine wl_un (ug rfl rfl hb3) rfl ?_
   refine wl_un (ug rfl rfl hb3) rfl ?_
   refine wl_un (ug rfl rfl hb3) rfl ?_
   refine wl_un (uu rfl rfl) rfl ?_
   refine wl_un (uu rfl rfl) rfl ?_
   refine wl_un (ug rfl rfl hb3) rfl ?_
   refine wl_val wn rfl (rv_pick_t (v := .bool true) rfl hb3 rfl) ?_
   refine va rfl rfl ?_
   refine nq ?_
   refine wc_ret ?_
   obtain rfl := oi h4
   exact qe_ret (vs := [_]) Try.results93 ⟨rfl, trivial⟩ ⟨K, rfl, hS⟩
  ·have h4 := cond_f hb3 h2
   refine wl_val (wg rfl rfl hb3) rfl (rv_move rfl) ?_
   refine wl_val (wg rfl rfl hb3) rfl (rv_bge (b := (48 : UInt8)) rfl rfl) ?_
   refine wl_val (wg rfl rfl hb3) rfl (rv_move rfl) ?_
   rcases bool_tf (decide ((48 : UInt8) ≤ p0_b)) with hb5 | hb5
   ·have h6 := cond_t hb5 h4
    refine wl_val (wg rfl rfl hb5) rfl (rv_move rfl) ?_
    refine wl_val (wg rfl rfl hb5) rfl (rv_ble (b := (57 : UInt8)) rfl rfl) ?_
    refine wl_val (wg rfl rfl hb3) rfl (rv_pick_t rfl hb5 rfl) ?_
    refine wl_val wn rfl (rv_pick_f rfl hb3 rfl) ?_
    refine va rfl rfl ?_
    refine nq ?_
    refine wc_ret ?_
    obtain rfl := oi h6
    exact qe_ret (vs := [_]) Try.results93 ⟨rfl, trivial⟩ ⟨K, rfl, hS⟩
   ·have h6 := cond_f hb5 h4
    refine wl_un (ug rfl rfl hb5) rfl ?_
    refine wl_un (ug rfl rfl hb5) rfl ?_
    refine wl_val (wg rfl rfl hb3) rfl (rv_pick_f (v := .bool false) rfl hb5 rfl) ?_
    refine wl_val wn rfl (rv_pick_f rfl hb3 rfl) ?_
    refine va rfl rfl ?_
    refine nq ?_
    refine wc_ret ?_
    obtain rfl := oi h6
    exact qe_ret (vs := [_]) Try.results93 ⟨rfl, trivial⟩ ⟨K, rfl, hS⟩
 ·have h2 := cond_f hb1 hm
  refine wl_un (ug rfl rfl hb1) rfl ?_
  refine wl_un (ug rfl rfl hb1) rfl ?_
  refine wl_val wn rfl (rv_pick_f (v := .bool false) rfl hb1 rfl) ?_
  refine vm rfl rfl ?_
  refine wl_val (wg rfl rfl rfl) rfl (rv_move rfl) ?_
  refine wl_val (wg rfl rfl rfl) rfl (rv_bge (b := (48 : UInt8)) rfl rfl) ?_
  refine wl_val (wg rfl rfl rfl) rfl (rv_move rfl) ?_
  rcases bool_tf (decide ((48 : UInt8) ≤ p0_b)) with hb7 | hb7
  ·have h8 := cond_t hb7 h2
   refine wl_val (wg rfl rfl hb7) rfl (rv_move rfl) ?_
   refine wl_val (wg rfl rfl hb7) rfl (rv_ble (b := (57 : UInt8)) rfl rfl) ?_
   refine wl_val (wg rfl rfl rfl) rfl (rv_pick_t rfl hb7 rfl) ?_
   refine wl_val wn rfl (rv_pick_f rfl rfl rfl) ?_
   refine va rfl rfl ?_
   refine nq ?_
   refine wc_ret ?_
   obtain rfl := oi h8
   exact qe_ret (vs := [_]) Try.results93 ⟨rfl, trivial⟩ ⟨K, rfl, hS⟩
  ·have h8 := cond_f hb7 h2
   refine wl_un (ug rfl rfl hb7) rfl ?_
   refine wl_un (ug rfl rfl hb7) rfl ?_
   refine wl_val (wg rfl rfl rfl) rfl (rv_pick_f (v := .bool false) rfl hb7 rfl) ?_
   refine wl_val wn rfl (rv_pick_f rfl rfl rfl) ?_
   refine va rfl rfl ?_
   refine nq ?_
   refine wc_ret ?_
   obtain rfl := oi h8
   exact qe_ret (vs := [_]) Try.results93 ⟨rfl, trivial⟩ ⟨K, rfl, hS⟩

theorem ok_impl_WordOk (F : Nat) {w : World} {K : KMap} {p0_s : Str} {r : Bool} (hS : SH w K [] w K []) (hl1 : p0_s.length ≤ maxLen) (hm : M.impl_WordOk F p0_s = some r) :
  Calls Try.prog 70 #[sv p0_s] w fun e w' => ∃ (K' : KMap), e = .returned (.bool r) ∧ SH w K [] w' K' [] := by
 rw [M.impl_WordOk] at hm
 refine calls_in Try.func70 rfl Try.ntmps70 rfl ?_
 refine sr ?_
 refine wl_val wn rfl (rv_assign (v := .bool false) rfl) ?_
 refine nsr ?_
 refine vm rfl rfl ?_
 refine wl_val wn rfl (rv_slen Try.underlying9 rfl) ?_
 refine wl_val wn rfl (rv_move (v := .int .i64 0) rfl) ?_
 refine nq ?_
 obtain ⟨o2, h3, h4⟩ := ob hm
 refine wc_cutg (fun E' w' => ∃ (s5 : Unit) (K6 : KMap), o2 = .inl s5 ∧ E' = [(0, sv p0_s)] ∧ SH w K [] w' K6 [] ∧ KLe K K6) ?_ ?_
 ·refine wc_block ?_
  obtain ⟨r11, h12, h13⟩ := ob h3
  refine wc_for' (fun (i14 : Nat) (s10 : Unit) E' w' => ∃ (K15 : KMap), E' = [(0, sv p0_s), (5, .int .i64 (p0_s.length : Int)), (6, .int .i64 ((i14 : Nat) : Int))] ∧ SH w K [] w' K15 [] ∧ KLe K K15) h12 ⟨K, rfl, hS, (KLe.refl _)⟩ ⟨rfl, rfl, rfl, trivial⟩ ?_ ?_
  ·rintro i14 s10 _ w17 r19 hi20 h21 hx22 ⟨K15, rfl, hS18, hl16⟩
   refine sr ?_
   refine wl_val wn rfl (rv_lss rfl rfl) ?_
   refine ns ?_
   refine wc_cond_t rfl (decide_eq_true (by omega)) (wc_skip (qe_seq (wc_seq ?_)))
   refine wc_block ?_
   refine sr ?_
   refine vm rfl rfl ?_
   refine va rfl rfl ?_
   refine nr ?_
   refine vm rfl rfl ?_
   refine vm rfl rfl ?_
   obtain ⟨x23, hx24, h25⟩ := ob h21
   refine wl_val wn rfl (rv_sidx Try.underlying9 rfl rfl hx24) ?_
   obtain ⟨r26, hx27, h28⟩ := ob h25
   refine wl_call wn rfl (rt_call (vs := [iv8 x23]) co93 rfl) ((ok_impl_wordByte F) hS18.enter0  hx27) ?_
   rintro e32 w30 ⟨K29, rfl, hS31⟩
   refine ⟨_, rfl, ?_⟩
   have hS33 : SH _ _ _ _ _ [] := SH.call0 hS18 hS31
   refine wl_val wn rfl (rv_not rfl) ?_
   refine nq ?_
   refine wc_cond rfl (fun hb34 => ?_) (fun hb34 => ?_)
   ·have h35 := cond_t hb34 h28
    refine sr ?_
    refine wl_val wn rfl (rv_assign (v := .bool false) rfl) ?_
    refine nq ?_
    refine wc_ret ?_
    refine qe_block_ret ?_
    refine qe_then_ret ?_
    refine qe_then_ret ?_
    obtain rfl := oi h35
    have e36 := hx22 _ rfl
    subst e36
    refine qe_block_ret ?_
    refine qe_then_ret ?_
    obtain rfl := oi h13
    refine qe_then_ret ?_
    obtain rfl := oi h4
    exact qe_ret (vs := [_]) Try.results70 ⟨rfl, trivial⟩ ⟨K29, rfl, hS33⟩
   ·have h35 := cond_f hb34 h28
    refine wc_skip ?_
    refine qe_block ?_
    refine qg ?_
    refine wl_val wn rfl (rv_add_to rfl rfl (w64_succ hi20 hl1)) ?_
    refine vm rfl rfl ?_
    refine wl_nil ?_
    obtain rfl := oi h35
    exact qe_mid' ⟨_, rfl, K29, rfl, hS33, (hl16.trans hS31.le)⟩ ⟨rfl, rfl, rfl, trivial⟩
  ·rintro s10 _ w17 hr37 ⟨K15, rfl, hS18, hl16⟩
   subst hr37
   refine sr ?_
   refine wl_val wn rfl (rv_lss rfl rfl) ?_
   refine ns ?_
   refine wc_cond_f rfl (decide_eq_false (by omega)) ?_
   refine wc_exit ?_
   refine qe_then_exit ?_
   refine qe_then_exit ?_
   refine qe_block_eq ?_
   obtain rfl := oi h13
   exact qe_mid' ⟨_, K15, rfl, rfl, hS18, hl16⟩ ⟨rfl, trivial⟩
 ·rintro _ w8 ⟨s5, K6, rfl, rfl, hS9, hl7⟩
  refine qr ?_
  refine vm rfl rfl ?_
  refine wl_val wn rfl (rv_slen Try.underlying9 rfl) ?_
  obtain ⟨r39, hx40, h41⟩ := ob h4
  refine wl_call wn rfl (rt_call (vs := [.int .i64 (p0_s.length : Int), .int .i64 1, .int .i64 12]) co48 rfl) ((ok_impl_within F) hS9.enter0 (rng_nat hl1) (by decide : rng64 1) (by decide : rng64 12) hx40) ?_
  rintro e45 w43 ⟨K42, rfl, hS44⟩
  refine ⟨_, rfl, ?_⟩
  have hS46 : SH _ _ _ _ _ [] := SH.call0 hS9 hS44
  refine va rfl rfl ?_
  refine nq ?_
  refine wc_ret ?_
  obtain rfl := oi h41
  exact qe_ret (vs := [_]) Try.results70 ⟨rfl, trivial⟩ ⟨K42, rfl, hS46⟩

set_option maxHeartbeats 2000000 in
theorem ok_impl_DocOk (F : Nat) {w : World} {K : KMap} {a2 : Option Addr} {n3 c4 : Nat} {a6 : Option Addr} {n7 c8 : Nat} {p0_d : GDoc} {r : Bool} (hS : SH w K [] w K []) (hr1 : rng64 p0_d.Id) (hs5 : SliceAt tGField K a2 n3 c4 p0_d.Fields) (hs9 : SliceAt tGAttr K a6 n7 c8 p0_d.Nums) (hm : M.impl_DocOk F p0_d = some r) :
  Calls Try.prog 47 #[.agg #[.int .i64 p0_d.Id, .slice a2 n3 c4, .slice a6 n7 c8]] w fun e w' => ∃ (K' : KMap), e = .returned (.bool r) ∧ SH w K [] w' K' [] := by
 rw [M.impl_DocOk] at hm
 refine calls_in Try.func47 rfl Try.ntmps47 rfl ?_
 refine sr ?_
 refine wl_box wn rfl rfl hS ?_
 intro g10 w11 hS12
 have hS13 : SH _ _ _ _ _ [obj g10 [.int .i64 p0_d.Id, .slice a2 n3 c4, .slice a6 n7 c8] 49] := hS12
 refine wl_val wn rfl (rv_assign (v := .bool false) rfl) ?_
 refine ns ?_
 refine wc_seq ?_
 obtain ⟨o14, h15, h16⟩ := ob hm
 refine wc_cutg (fun E' w' => ∃ (K17 : KMap), E' = [(1, .pointer (some ⟨g10, 0, none⟩)), (22, .bool o14)] ∧ SH w K [] w' K17 [obj g10 [.int .i64 p0_d.Id, .slice a2 n3 c4, .slice a6 n7 c8] 49] ∧ KLe K K17) ?_ ?_
 ·refine wc_region ?_
  refine wl_val wn rfl (rv_fieldAddr ff49_0 rfl) ?_
  refine wl_val wn rfl (rv_loadm1 tf3 rfl (.head _) hS13 rfl) ?_
  obtain ⟨r21, hx22, h23⟩ := ob h15
  refine wl_call wn rfl (rt_call (vs := [.int .i64 p0_d.Id, .int .i64 1, .int .i64 9999]) co48 rfl) ((ok_impl_within F) hS13.enter0 hr1 (by decide : rng64 1) (by decide : rng64 9999) hx22) ?_
  rintro e27 w25 ⟨K24, rfl, hS26⟩
  refine ⟨_, rfl, ?_⟩
  have hS28 : SH _ _ _ _ _ [_] := SH.call0 hS13 hS26
  refine wl_val wn rfl (rv_not rfl) ?_
  refine vm rfl rfl ?_
  rcases bool_tf ((!r21)) with hb29 | hb29
  ·have h30 := cond_t hb29 h23
   refine wl_un (ug rfl rfl hb29) rfl ?_
   refine wl_un (ug rfl rfl hb29) rfl ?_
   refine wl_un (ug rfl rfl hb29) rfl ?_
   refine wl_un (ug rfl rfl hb29) rfl ?_
   refine wl_val wn rfl (rv_pick_t (v := .bool true) rfl hb29 rfl) ?_
   refine vm rfl rfl ?_
   refine wl_un (ug rfl rfl rfl) rfl ?_
   refine wl_un (ug rfl rfl rfl) rfl ?_
   refine wl_un (ug rfl rfl rfl) rfl ?_
   refine wl_un (ug rfl rfl rfl) rfl ?_
   refine wl_val wn rfl (rv_pick_t (v := .bool true) rfl rfl rfl) ?_
   refine wl_nil ?_
   obtain rfl := oi h30
   exact qe_mid' ⟨K24, rfl, hS28, hS26.le⟩ ⟨rfl, rfl, trivial⟩
  ·have h30 := cond_f hb29 h23
   refine wl_val (wg rfl rfl hb29) rfl (rv_fieldAddr ff49_1 rfl) ?_
   refine wl_val (wg rfl rfl hb29) rfl (rv_loadm1 tf46 rfl (.head _) hS28 rfl) ?_
   refine wl_val (wg rfl rfl hb29) rfl (rv_len (t := tGField) Try.underlying46 rfl (SliceAt.mono hS26.le hs5)) ?_
   refine wl_val (wg rfl rfl hb29) rfl (rv_gtr rfl rfl) ?_
   refine wl_val wn rfl (rv_pick_f rfl hb29 rfl) ?_
   refine vm rfl rfl ?_
   rcases bool_tf (decide ((3 : Int) < (p0_d.Fields.length : Int))) with hb31 | hb31
   ·have h32 := cond_t hb31 h30
    refine wl_un (ug rfl rfl hb31) rfl ?_
    refine wl_un (ug rfl rfl hb31) rfl ?_
    refine wl_un (ug rfl rfl hb31) rfl ?_
    refine wl_un (ug rfl rfl hb31) rfl ?_
    refine wl_val wn rfl (rv_pick_t (v := .bool true) rfl hb31 rfl) ?_
    refine wl_nil ?_
    obtain rfl := oi h32
    exact qe_mid' ⟨K24, rfl, hS28, hS26.le⟩ ⟨rfl, rfl, trivial⟩
   ·have h32 := cond_f hb31 h30
    refine wl_val (wg rfl rfl hb31) rfl (rv_fieldAddr ff49_2 rfl) ?_
    refine wl_val (wg rfl rfl hb31) rfl (rv_loadm1 tf47 rfl (.head _) hS28 rfl) ?_
    refine wl_val (wg rfl rfl hb31) rfl (rv_len (t := tGAttr) Try.underlying47 rfl (SliceAt.mono hS26.le hs9)) ?_
    refine wl_val (wg rfl rfl hb31) rfl (rv_gtr rfl rfl) ?_
    refine wl_val wn rfl (rv_pick_f rfl hb31 rfl) ?_
    refine wl_nil ?_
    obtain rfl := oi h32
    exact qe_mid' ⟨K24, rfl, hS28, hS26.le⟩ ⟨rfl, rfl, trivial⟩
 ·rintro _ w19 ⟨K17, rfl, hS20, hl18⟩
  refine qe_seq ?_
  refine wc_cond rfl (fun hb33 => ?_) (fun hb33 => ?_)
  ·have h34 := cond_t hb33 h16
   refine sr ?_
   refine wl_val wn rfl (rv_assign (v := .bool false) rfl) ?_
   refine nq ?_
   refine rr ?_
   obtain rfl := oi h34
   have hS35 : SH _ _ _ _ _ [] := SH.sublist hS20 (.cons _ .slnil)
   exact qe_ret (vs := [_]) Try.results47 ⟨rfl, trivial⟩ ⟨K17, rfl, hS35⟩
  ·have h34 := cond_f hb33 h16
   refine wc_skip ?_
   refine qs ?_
   refine sr ?_
   refine wl_val wn rfl (rv_fieldAddr ff49_1 rfl) ?_
   refine wl_val wn rfl (rv_loadm1 tf46 rfl (.head _) hS20 rfl) ?_
   refine wl_val wn rfl (rv_len (t := tGField) Try.underlying46 rfl (SliceAt.mono hl18 hs5)) ?_
   refine wl_val wn rfl (rv_move (v := .int .i64 0) rfl) ?_
   refine nq ?_
   obtain ⟨o36, h37, h38⟩ := ob h34
   refine wc_cutg (fun E' w' => ∃ (s39 : Unit) (K40 : KMap), o36 = .inl s39 ∧ E' = [(1, .pointer (some ⟨g10, 0, none⟩))] ∧ SH w K [] w' K40 [obj g10 [.int .i64 p0_d.Id, .slice a2 n3 c4, .slice a6 n7 c8] 49] ∧ KLe K17 K40) ?_ ?_
   ·refine wc_block ?_
    obtain ⟨r45, h46, h47⟩ := ob h37
    refine wc_for' (fun (i48 : Nat) (s44 : Unit) E' w' => ∃ (K49 : KMap), E' = [(1, .pointer (some ⟨g10, 0, none⟩)), (24, .slice a2 n3 c4), (25, .int .i64 (p0_d.Fields.length : Int)), (26, .int .i64 ((i48 : Nat) : Int))] ∧ SH w K [] w' K49 [obj g10 [.int .i64 p0_d.Id, .slice a2 n3 c4, .slice a6 n7 c8] 49] ∧ KLe K17 K49) h46 ⟨K17, rfl, hS20, (KLe.refl _)⟩ ⟨rfl, rfl, rfl, rfl, trivial⟩ ?_ ?_
    ·rintro i48 s44 _ w51 r53 hi54 h55 hx56 ⟨K49, rfl, hS52, hl50⟩
     refine sr ?_
     refine wl_val wn rfl (rv_lss rfl rfl) ?_
     refine ns ?_
     refine wc_cond_t rfl (decide_eq_true (by omega)) (wc_skip (qe_seq (wc_seq ?_)))
     refine wc_block ?_
     refine sr ?_
     refine vm rfl rfl ?_
     obtain ⟨x57, hx58, h59⟩ := ob h55
     refine wl_indexAddr (t := tGField) wn rfl Try.underlying46 tf107 rfl rfl (SliceAt.mono (hl18.trans hl50) hs5) hx58 ?_
     intro b60 o61 u62 hu63 ha64
     obtain ⟨rfl, hl65, hl66⟩ := hu63
     have ha67 : AtK _ b60 o61 [sv x57.Name, sv x57.Text] := ha64
     refine wl_val wn rfl (rv_loadS (cs := [sv x57.Name, sv x57.Text]) tf107 rfl hS52 ha67 rfl) ?_
     refine wl_alloc wn rfl tf107 hS52 ?_
     intro g68 w69 hS70
     have hS71 : SH _ _ _ _ _ [obj g68 [sv [], sv []] 107, _] := hS70
     refine va rfl rfl ?_
     refine wl_store (cs' := [sv x57.Name, sv x57.Text]) (v := .agg #[sv x57.Name, sv x57.Text]) wn tf107 rfl rfl rfl (by simp [Value.cells, Value.oneCell', sv]) hS71 rfl rfl ?_
     intro w72 hS73
     refine ns ?_
     obtain ⟨o74, h75, h76⟩ := ob h59
     refine wc_cutg (fun E' w' => ∃ (K77 : KMap), E' = [(1, .pointer (some ⟨g10, 0, none⟩)), (24, .slice a2 n3 c4), (25, .int .i64 (p0_d.Fields.length : Int)), (26, .int .i64 ((i48 : Nat) : Int)), (56, .bool o74)] ∧ SH w K [] w' K77 [obj g10 [.int .i64 p0_d.Id, .slice a2 n3 c4, .slice a6 n7 c8] 49] ∧ KLe K49 K77) ?_ ?_
     ·refine wc_quiet mixed (by kernel_rfl) hS73 ?_
      refine wq_val wn rfl (fun _ _ => (rv_fieldAddr ff107_0 rfl)) ?_
      refine wq_val wn rfl (rq_loadm1 tf9 rfl (.head _) rfl) ?_
      obtain ⟨r81, hx82, h83⟩ := ob h75
      refine wq_call (v := .bool r81) wn rfl (fun _ => rt_call (vs := [sv x57.Name]) co70 rfl) (fun w86 ⟨K84, hS85, hl87⟩ => ((ok_impl_WordOk F) hS85.enter0 hl65 hx82).mono fun e w' ⟨K', he, hS'⟩ => ⟨he, K', hS85.call0 hS', hl87.trans hS'.le⟩) ?_
      refine wq_val wn rfl (fun _ _ => (rv_not rfl)) ?_
      refine qm rfl rfl ?_
      rcases bool_tf ((!r81)) with hb88 | hb88
      ·have h89 := cond_t hb88 h83
       refine wq_un (ug rfl rfl hb88) rfl ?_
       refine wq_un (ug rfl rfl hb88) rfl ?_
       refine wq_un (ug rfl rfl hb88) rfl ?_
       refine wq_un (ug rfl rfl hb88) rfl ?_
       refine wq_val wn rfl (fun _ _ => (rv_pick_t (v := .bool true) rfl hb88 rfl)) ?_
       refine qm rfl rfl ?_
       refine qv rfl rfl rfl rfl ?_
       refine qv rfl rfl rfl rfl ?_
       refine qv rfl rfl rfl rfl ?_
       refine qu rfl rfl rfl ?_
       refine qu rfl rfl rfl ?_
       refine qu rfl rfl rfl ?_
       refine qu rfl rfl rfl ?_
       refine qu rfl rfl rfl ?_
       refine qu rfl rfl rfl ?_
       refine qu rfl rfl rfl ?_
       refine qu rfl rfl rfl ?_
       refine qu rfl rfl rfl ?_
       refine qu rfl rfl rfl ?_
       refine qv rfl rfl rfl rfl ?_
       refine wq_val wn rfl (fun _ _ => (rv_pick_t (v := .bool true) rfl rfl rfl)) ?_
       refine wq_nil ?_
       rintro w91 ⟨K90, hS92, hl93⟩
       obtain rfl := oi h89
       have hS94 : SH _ _ _ _ _ [_] := SH.sublist hS92 (.cons _ (.cons_cons _ .slnil))
       exact qe_mid' ⟨K90, rfl, hS94, hl93⟩ ⟨rfl, rfl, rfl, rfl, rfl, trivial⟩
      ·have h89 := cond_f hb88 h83
       refine wq_val (wg rfl rfl hb88) rfl (fun _ _ => (rv_fieldAddr ff107_1 rfl)) ?_
       refine wq_val (wg rfl rfl hb88) rfl (rq_loadm1 tf9 rfl (.head _) rfl) ?_
       obtain ⟨r95, hx96, h97⟩ := ob h89
       refine wq_call (v := .bool r95) (wg rfl rfl hb88) rfl (fun _ => rt_call (vs := [sv x57.Text]) co56 rfl) (fun w100 ⟨K98, hS99, hl101⟩ => ((ok_impl_TextOk F) hS99.enter0 hl66 hx96).mono fun e w' ⟨K', he, hS'⟩ => ⟨he, K', hS99.call0 hS', hl101.trans hS'.le⟩) ?_
       refine wq_val (wg rfl rfl hb88) rfl (fun _ _ => (rv_not rfl)) ?_
       refine wq_val wn rfl (fun _ _ => (rv_pick_f rfl hb88 rfl)) ?_
       refine qm rfl rfl ?_
       rcases bool_tf ((!r95)) with hb102 | hb102
       ·have h103 := cond_t hb102 h97
        refine wq_un (ug rfl rfl hb102) rfl ?_
        refine wq_un (ug rfl rfl hb102) rfl ?_
        refine wq_un (ug rfl rfl hb102) rfl ?_
        refine qu rfl rfl rfl ?_
        refine qu rfl rfl rfl ?_
        refine qu rfl rfl rfl ?_
        refine qu rfl rfl rfl ?_
        refine qu rfl rfl rfl ?_
        refine qu rfl rfl rfl ?_
        refine qu rfl rfl rfl ?_
        refine qu rfl rfl rfl ?_
        refine qu rfl rfl rfl ?_
        refine qu rfl rfl rfl ?_
        refine wq_un (ug rfl rfl hb102) rfl ?_
        refine wq_val wn rfl (fun _ _ => (rv_pick_t (v := .bool true) rfl hb102 rfl)) ?_
        refine wq_nil ?_
        rintro w105 ⟨K104, hS106, hl107⟩
        obtain rfl := oi h103
        have hS108 : SH _ _ _ _ _ [_] := SH.sublist hS106 (.cons _ (.cons_cons _ .slnil))
        exact qe_mid' ⟨K104, rfl, hS108, hl107⟩ ⟨rfl, rfl, rfl, rfl, rfl, trivial⟩
       ·have h103 := cond_f hb102 h97
        refine wq_val (wg rfl rfl hb102) rfl (fun _ _ => (rv_move rfl)) ?_
        refine wq_val (wg rfl rfl hb102) rfl (fun _ _ => (rv_gtr rfl rfl)) ?_
        refine wq_val (wg rfl rfl hb102) rfl (fun _ _ => (rv_move rfl)) ?_
        rcases bool_tf (decide ((0 : Int) < ((i48 : Nat) : Int))) with hb109 | hb109
        ·have h110 := cond_t hb109 h103
         refine wq_val (wg rfl rfl hb109) rfl (fun _ _ => (rv_fieldAddr ff49_1 rfl)) ?_
         refine wq_val (wg rfl rfl hb109) rfl (rq_loadm1 tf46 rfl (.tail _ (.head _)) rfl) ?_
         refine wq_val (wg rfl rfl hb109) rfl (fun _ _ => (rv_move rfl)) ?_
         refine wq_val (wg rfl rfl hb109) rfl (fun _ _ => (rv_sub rfl rfl)) ?_
         obtain ⟨x111, hx112, h113⟩ := ob h110
         refine wq_indexAddr (t := tGField) (wg rfl rfl hb109) rfl Try.underlying46 tf107 rfl rfl (SliceAt.mono (hl18.trans hl50) hs5) hx112 ?_
         intro b114 o115 u116 hu117 ha118
         obtain ⟨rfl, hl119, hl120⟩ := hu117
         have ha121 : AtK _ b114 o115 [sv x111.Name, sv x111.Text] := ha118
         refine wq_val (wg rfl rfl hb109) rfl (fun _ _ => (rv_fieldAddr ff107_0 rfl)) ?_
         refine wq_val (wg rfl rfl hb109) rfl (rq_load1 tf9 rfl (ha121 0 _ rfl)) ?_
         refine wq_val (wg rfl rfl hb109) rfl (fun _ _ => (rv_fieldAddr ff107_0 rfl)) ?_
         refine wq_val (wg rfl rfl hb109) rfl (rq_loadm1 tf9 rfl (.head _) rfl) ?_
         refine wq_val (wg rfl rfl hb109) rfl (fun _ _ => (rv_sgeq rfl rfl)) ?_
         refine wq_val (wg rfl rfl hb102) rfl (fun _ _ => (rv_pick_t rfl hb109 rfl)) ?_
         refine wq_val wn rfl (fun _ _ => (rv_pick_f rfl hb102 rfl)) ?_
         refine wq_nil ?_
         rintro w123 ⟨K122, hS124, hl125⟩
         obtain rfl := oi h113
         have hS126 : SH _ _ _ _ _ [_] := SH.sublist hS124 (.cons _ (.cons_cons _ .slnil))
         exact qe_mid' ⟨K122, rfl, hS126, hl125⟩ ⟨rfl, rfl, rfl, rfl, rfl, trivial⟩
        ·have h110 := cond_f hb109 h103
         refine wq_un (ug rfl rfl hb109) rfl ?_
         refine wq_un (ug rfl rfl hb109) rfl ?_
         refine wq_un (ug rfl rfl hb109) rfl ?_
         refine wq_un (ug rfl rfl hb109) rfl ?_
         refine wq_un (ug rfl rfl hb109) rfl ?_
         refine wq_un (ug rfl rfl hb109) rfl ?_
         refine wq_un (ug rfl rfl hb109) rfl ?_
         refine wq_un (ug rfl rfl hb109) rfl ?_
         refine wq_un (ug rfl rfl hb109) rfl ?_
         refine wq_un (ug rfl rfl hb109) rfl ?_
         refine wq_val (wg rfl rfl hb102) rfl (fun _ _ => (rv_pick_f (v := .bool false) rfl hb109 rfl)) ?_
         refine wq_val wn rfl (fun _ _ => (rv_pick_f rfl hb102 rfl)) ?_
         refine wq_nil ?_
         rintro w128 ⟨K127, hS129, hl130⟩
         obtain rfl := oi h110
         have hS131 : SH _ _ _ _ _ [_] := SH.sublist hS129 (.cons _ (.cons_cons _ .slnil))
         exact qe_mid' ⟨K127, rfl, hS131, hl130⟩ ⟨rfl, rfl, rfl, rfl, rfl, trivial⟩
     ·rintro _ w79 ⟨K77, rfl, hS80, hl78⟩
      refine qe_seq ?_
      refine wc_cond rfl (fun hb132 => ?_) (fun hb132 => ?_)
      ·have h133 := cond_t hb132 h76
       refine sr ?_
       refine wl_val wn rfl (rv_assign (v := .bool false) rfl) ?_
       refine nq ?_
       refine wc_ret ?_
       refine qe_block_ret ?_
       refine qe_then_ret ?_
       refine qe_then_ret ?_
       obtain rfl := oi h133
       have e134 := hx56 _ rfl
       subst e134
       refine qe_block_ret ?_
       refine qe_then_ret ?_
       obtain rfl := oi h47
       refine qe_then_ret ?_
       obtain rfl := oi h38
       have hS135 : SH _ _ _ _ _ [] := SH.sublist hS80 (.cons _ .slnil)
       exact qe_ret (vs := [_]) Try.results47 ⟨rfl, trivial⟩ ⟨K77, rfl, hS135⟩
      ·have h133 := cond_f hb132 h76
       refine wc_skip ?_
       refine qe_block ?_
       refine qg ?_
       refine wl_val wn rfl (rv_add_to rfl rfl (w64_succ hi54 (SliceAt.max (SliceAt.mono hl18 hs5)))) ?_
       refine vm rfl rfl ?_
       refine wl_nil ?_
       obtain rfl := oi h133
       exact qe_mid' ⟨_, rfl, K77, rfl, hS80, (hl50.trans hl78)⟩ ⟨rfl, rfl, rfl, rfl, trivial⟩
    ·rintro s44 _ w51 hr136 ⟨K49, rfl, hS52, hl50⟩
     subst hr136
     refine sr ?_
     refine wl_val wn rfl (rv_lss rfl rfl) ?_
     refine ns ?_
     refine wc_cond_f rfl (decide_eq_false (by omega)) ?_
     refine wc_exit ?_
     refine qe_then_exit ?_
     refine qe_then_exit ?_
     refine qe_block_eq ?_
     obtain rfl := oi h47
     exact qe_mid' ⟨_, K49, rfl, rfl, hS52, hl50⟩ ⟨rfl, trivial⟩
   ·rintro _ w42 ⟨s39, K40, rfl, rfl, hS43, hl41⟩
    refine qs ?_
    refine sr ?_
    refine wl_val wn rfl (rv_fieldAddr ff49_2 rfl) ?_
    refine wl_val wn rfl (rv_loadm1 tf47 rfl (.head _) hS43 rfl) ?_
    refine wl_val wn rfl (rv_len (t := tGAttr) Try.underlying47 rfl (SliceAt.mono (hl18.trans hl41) hs9)) ?_
    refine wl_val wn rfl (rv_move (v := .int .i64 0) rfl) ?_
    refine nq ?_
    obtain ⟨o138, h139, h140⟩ := ob h38
    refine wc_cutg (fun E' w' => ∃ (s141 : Unit) (K142 : KMap), o138 = .inl s141 ∧ E' = [] ∧ SH w K [] w' K142 [] ∧ KLe K40 K142) ?_ ?_
    ·refine wc_block ?_
     obtain ⟨r147, h148, h149⟩ := ob h139
     refine wc_for' (fun (i150 : Nat) (s146 : Unit) E' w' => ∃ (K151 : KMap), E' = [(1, .pointer (some ⟨g10, 0, none⟩)), (59, .slice a6 n7 c8), (60, .int .i64 (p0_d.Nums.length : Int)), (61, .int .i64 ((i150 : Nat) : Int))] ∧ SH w K [] w' K151 [obj g10 [.int .i64 p0_d.Id, .slice a2 n3 c4, .slice a6 n7 c8] 49] ∧ KLe K40 K151) h148 ⟨K40, rfl, hS43, (KLe.refl _)⟩ ⟨rfl, rfl, rfl, rfl, trivial⟩ ?_ ?_
     ·rintro i150 s146 _ w153 r155 hi156 h157 hx158 ⟨K151, rfl, hS154, hl152⟩
      refine sr ?_
      refine wl_val wn rfl (rv_lss rfl rfl) ?_
      refine ns ?_
      refine wc_cond_t rfl (decide_eq_true (by omega)) (wc_skip (qe_seq (wc_seq ?_)))
      refine wc_block ?_
      refine sr ?_
      refine vm rfl rfl ?_
      obtain ⟨x159, hx160, h161⟩ := ob h157
      refine wl_indexAddr (t := tGAttr) wn rfl Try.underlying47 tf133 rfl rfl (SliceAt.mono ((hl18.trans hl41).trans hl152) hs9) hx160 ?_
      intro b162 o163 u164 hu165 ha166
      obtain ⟨rfl, hl167, hr168⟩ := hu165
      have ha169 : AtK _ b162 o163 [sv x159.Name, .int .i64 x159.Num] := ha166
      refine wl_val wn rfl (rv_loadS (cs := [sv x159.Name, .int .i64 x159.Num]) tf133 rfl hS154 ha169 rfl) ?_
      refine wl_alloc wn rfl tf133 hS154 ?_
      intro g170 w171 hS172
      have hS173 : SH _ _ _ _ _ [obj g170 [sv [], .int .i64 0] 133, _] := hS172
      refine va rfl rfl ?_
      refine wl_store (cs' := [sv x159.Name, .int .i64 x159.Num]) (v := .agg #[sv x159.Name, .int .i64 x159.Num]) wn tf133 rfl rfl rfl (by simp [Value.cells, Value.oneCell', sv]) hS173 rfl rfl ?_
      intro w174 hS175
      refine ns ?_
      obtain ⟨o176, h177, h178⟩ := ob h161
      refine wc_cutg (fun E' w' => ∃ (K179 : KMap), E' = [(1, .pointer (some ⟨g10, 0, none⟩)), (59, .slice a6 n7 c8), (60, .int .i64 (p0_d.Nums.length : Int)), (61, .int .i64 ((i150 : Nat) : Int)), (91, .bool o176)] ∧ SH w K [] w' K179 [obj g10 [.int .i64 p0_d.Id, .slice a2 n3 c4, .slice a6 n7 c8] 49] ∧ KLe K151 K179) ?_ ?_
      ·refine wc_quiet mixed (by kernel_rfl) hS175 ?_
       refine wq_val wn rfl (fun _ _ => (rv_fieldAddr ff133_0 rfl)) ?_
       refine wq_val wn rfl (rq_loadm1 tf9 rfl (.head _) rfl) ?_
       obtain ⟨r183, hx184, h185⟩ := ob h177
       refine wq_call (v := .bool r183) wn rfl (fun _ => rt_call (vs := [sv x159.Name]) co70 rfl) (fun w188 ⟨K186, hS187, hl189⟩ => ((ok_impl_WordOk F) hS187.enter0 hl167 hx184).mono fun e w' ⟨K', he, hS'⟩ => ⟨he, K', hS187.call0 hS', hl189.trans hS'.le⟩) ?_
       refine wq_val wn rfl (fun _ _ => (rv_not rfl)) ?_
       refine qm rfl rfl ?_
       rcases bool_tf ((!r183)) with hb190 | hb190
       ·have h191 := cond_t hb190 h185
        refine wq_un (ug rfl rfl hb190) rfl ?_
        refine wq_un (ug rfl rfl hb190) rfl ?_
        refine wq_un (ug rfl rfl hb190) rfl ?_
        refine wq_un (ug rfl rfl hb190) rfl ?_
        refine wq_val wn rfl (fun _ _ => (rv_pick_t (v := .bool true) rfl hb190 rfl)) ?_
        refine qm rfl rfl ?_
        refine qv rfl rfl rfl rfl ?_
        refine qv rfl rfl rfl rfl ?_
        refine qv rfl rfl rfl rfl ?_
        refine qu rfl rfl rfl ?_
        refine qu rfl rfl rfl ?_
        refine qu rfl rfl rfl ?_
        refine qu rfl rfl rfl ?_
        refine qu rfl rfl rfl ?_
        refine qu rfl rfl rfl ?_
        refine qu rfl rfl rfl ?_
        refine qu rfl rfl rfl ?_
        refine qu rfl rfl rfl ?_
        refine qu rfl rfl rfl ?_
        refine qv rfl rfl rfl rfl ?_
        refine wq_val wn rfl (fun _ _ => (rv_pick_t (v := .bool true) rfl rfl rfl)) ?_
        refine wq_nil ?_
        rintro w193 ⟨K192, hS194, hl195⟩
        obtain rfl := oi h191
        have hS196 : SH _ _ _ _ _ [_] := SH.sublist hS194 (.cons _ (.cons_cons _ .slnil))
        exact qe_mid' ⟨K192, rfl, hS196, hl195⟩ ⟨rfl, rfl, rfl, rfl, rfl, trivial⟩
       ·have h191 := cond_f hb190 h185
        refine wq_val (wg rfl rfl hb190) rfl (fun _ _ => (rv_fieldAddr ff133_1 rfl)) ?_
        refine wq_val (wg rfl rfl hb190) rfl (rq_loadm1 tf3 rfl (.head _) rfl) ?_
        obtain ⟨r197, hx198, h199⟩ := ob h191
        refine wq_call (v := .bool r197) (wg rfl rfl hb190) rfl (fun _ => rt_call (vs := [.int .i64 x159.Num, .int .i64 0, .int .i64 999999999]) co48 rfl) (fun w202 ⟨K200, hS201, hl203⟩ => ((ok_impl_within F) hS201.enter0 hr168 (by decide : rng64 0) (by decide : rng64 999999999) hx198).mono fun e w' ⟨K', he, hS'⟩ => ⟨he, K', hS201.call0 hS', hl203.trans hS'.le⟩) ?_
        refine wq_val (wg rfl rfl hb190) rfl (fun _ _ => (rv_not rfl)) ?_
        refine wq_val wn rfl (fun _ _ => (rv_pick_f rfl hb190 rfl)) ?_
        refine qm rfl rfl ?_
        rcases bool_tf ((!r197)) with hb204 | hb204
        ·have h205 := cond_t hb204 h199
         refine wq_un (ug rfl rfl hb204) rfl ?_
         refine wq_un (ug rfl rfl hb204) rfl ?_
         refine wq_un (ug rfl rfl hb204) rfl ?_
         refine qu rfl rfl rfl ?_
         refine qu rfl rfl rfl ?_
         refine qu rfl rfl rfl ?_
         refine qu rfl rfl rfl ?_
         refine qu rfl rfl rfl ?_
         refine qu rfl rfl rfl ?_
         refine qu rfl rfl rfl ?_
         refine qu rfl rfl rfl ?_
         refine qu rfl rfl rfl ?_
         refine qu rfl rfl rfl ?_
         refine wq_un (ug rfl rfl hb204) rfl ?_
         refine wq_val wn rfl (fun _ _ => (rv_pick_t (v := .bool true) rfl hb204 rfl)) ?_
         refine wq_nil ?_
         rintro w207 ⟨K206, hS208, hl209⟩
         obtain rfl := oi h205
         have hS210 : SH _ _ _ _ _ [_] := SH.sublist hS208 (.cons _ (.cons_cons _ .slnil))
         exact qe_mid' ⟨K206, rfl, hS210, hl209⟩ ⟨rfl, rfl, rfl, rfl, rfl, trivial⟩
        ·have h205 := cond_f hb204 h199
         refine wq_val (wg rfl rfl hb204) rfl (fun _ _ => (rv_move rfl)) ?_
         refine wq_val (wg rfl rfl hb204) rfl (fun _ _ => (rv_gtr rfl rfl)) ?_
         refine wq_val (wg rfl rfl hb204) rfl (fun _ _ => (rv_move rfl)) ?_
         rcases bool_tf (decide ((0 : Int) < ((i150 : Nat) : Int))) with hb211 | hb211
         ·have h212 := cond_t hb211 h205
          refine wq_val (wg rfl rfl hb211) rfl (fun _ _ => (rv_fieldAddr ff49_2 rfl)) ?_
          refine wq_val (wg rfl rfl hb211) rfl (rq_loadm1 tf47 rfl (.tail _ (.head _)) rfl) ?_
          refine wq_val (wg rfl rfl hb211) rfl (fun _ _ => (rv_move rfl)) ?_
          refine wq_val (wg rfl rfl hb211) rfl (fun _ _ => (rv_sub rfl rfl)) ?_
          obtain ⟨x213, hx214, h215⟩ := ob h212
          refine wq_indexAddr (t := tGAttr) (wg rfl rfl hb211) rfl Try.underlying47 tf133 rfl rfl (SliceAt.mono ((hl18.trans hl41).trans hl152) hs9) hx214 ?_
          intro b216 o217 u218 hu219 ha220
          obtain ⟨rfl, hl221, hr222⟩ := hu219
          have ha223 : AtK _ b216 o217 [sv x213.Name, .int .i64 x213.Num] := ha220
          refine wq_val (wg rfl rfl hb211) rfl (fun _ _ => (rv_fieldAddr ff133_0 rfl)) ?_
          refine wq_val (wg rfl rfl hb211) rfl (rq_load1 tf9 rfl (ha223 0 _ rfl)) ?_
          refine wq_val (wg rfl rfl hb211) rfl (fun _ _ => (rv_fieldAddr ff133_0 rfl)) ?_
          refine wq_val (wg rfl rfl hb211) rfl (rq_loadm1 tf9 rfl (.head _) rfl) ?_
          refine wq_val (wg rfl rfl hb211) rfl (fun _ _ => (rv_sgeq rfl rfl)) ?_
          refine wq_val (wg rfl rfl hb204) rfl (fun _ _ => (rv_pick_t rfl hb211 rfl)) ?_
          refine wq_val wn rfl (fun _ _ => (rv_pick_f rfl hb204 rfl)) ?_
          refine wq_nil ?_
          rintro w225 ⟨K224, hS226, hl227⟩
          obtain rfl := oi h215
          have hS228 : SH _ _ _ _ _ [_] := SH.sublist hS226 (.cons _ (.cons_cons _ .slnil))
          exact qe_mid' ⟨K224, rfl, hS228, hl227⟩ ⟨rfl, rfl, rfl, rfl, rfl, trivial⟩
         ·have h212 := cond_f hb211 h205
          refine wq_un (ug rfl rfl hb211) rfl ?_
          refine wq_un (ug rfl rfl hb211) rfl ?_
          refine wq_un (ug rfl rfl hb211) rfl ?_
          refine wq_un (ug rfl rfl hb211) rfl ?_
          refine wq_un (ug rfl rfl hb211) rfl ?_
          refine wq_un (ug rfl rfl hb211) rfl ?_
          refine wq_un (ug rfl rfl hb211) rfl ?_
          refine wq_un (ug rfl rfl hb211) rfl ?_
          refine wq_un (ug rfl rfl hb211) rfl ?_
          refine wq_un (ug rfl rfl hb211) rfl ?_
          refine wq_val (wg rfl rfl hb204) rfl (fun _ _ => (rv_pick_f (v := .bool false) rfl hb211 rfl)) ?_
          refine wq_val wn rfl (fun _ _ => (rv_pick_f rfl hb204 rfl)) ?_
          refine wq_nil ?_
          rintro w230 ⟨K229, hS231, hl232⟩
          obtain rfl := oi h212
          have hS233 : SH _ _ _ _ _ [_] := SH.sublist hS231 (.cons _ (.cons_cons _ .slnil))
          exact qe_mid' ⟨K229, rfl, hS233, hl232⟩ ⟨rfl, rfl, rfl, rfl, rfl, trivial⟩
      ·rintro _ w181 ⟨K179, rfl, hS182, hl180⟩
       refine qe_seq ?_
       refine wc_cond rfl (fun hb234 => ?_) (fun hb234 => ?_)
       ·have h235 := cond_t hb234 h178
        refine sr ?_
        refine wl_val wn rfl (rv_assign (v := .bool false) rfl) ?_
        refine nq ?_
        refine wc_ret ?_
        refine qe_block_ret ?_
        refine qe_then_ret ?_
        refine qe_then_ret ?_
        obtain rfl := oi h235
        have e236 := hx158 _ rfl
        subst e236
        refine qe_block_ret ?_
        refine qe_then_ret ?_
        obtain rfl := oi h149
        refine qe_then_ret ?_
        obtain rfl := oi h140
        have hS237 : SH _ _ _ _ _ [] := SH.sublist hS182 (.cons _ .slnil)
        exact qe_ret (vs := [_]) Try.results47 ⟨rfl, trivial⟩ ⟨K179, rfl, hS237⟩
       ·have h235 := cond_f hb234 h178
        refine wc_skip ?_
        refine qe_block ?_
        refine qg ?_
        refine wl_val wn rfl (rv_add_to rfl rfl (w64_succ hi156 (SliceAt.max (SliceAt.mono (hl18.trans hl41) hs9)))) ?_
        refine vm rfl rfl ?_
        refine wl_nil ?_
        obtain rfl := oi h235
        exact qe_mid' ⟨_, rfl, K179, rfl, hS182, (hl152.trans hl180)⟩ ⟨rfl, rfl, rfl, rfl, trivial⟩
     ·rintro s146 _ w153 hr238 ⟨K151, rfl, hS154, hl152⟩
      subst hr238
      refine sr ?_
      refine wl_val wn rfl (rv_lss rfl rfl) ?_
      refine ns ?_
      refine wc_cond_f rfl (decide_eq_false (by omega)) ?_
      refine wc_exit ?_
      refine qe_then_exit ?_
      refine qe_then_exit ?_
      refine qe_block_eq ?_
      obtain rfl := oi h149
      have hS239 : SH _ _ _ _ _ [] := SH.sublist hS154 (.cons _ .slnil)
      exact qe_mid' ⟨_, K151, rfl, rfl, hS239, hl152⟩ trivial
    ·rintro _ w144 ⟨s141, K142, rfl, rfl, hS145, hl143⟩
     refine qr ?_
     refine wl_val wn rfl (rv_assign (v := .bool true) rfl) ?_
     refine nq ?_
     refine wc_ret ?_
     obtain rfl := oi h140
     exact qe_ret (vs := [_]) Try.results47 ⟨rfl, trivial⟩ ⟨K142, rfl, hS145⟩

set_option maxHeartbeats 2000000 in
theorem ok_impl_DocsOk (F : Nat) {w : World} {K : KMap} {a1 : Option Addr} {n2 c3 : Nat} {p0_list : List GDoc} {r : Bool} (hS : SH w K [] w K []) (hs4 : SliceAt tGDoc K a1 n2 c3 p0_list) (hm : M.impl_DocsOk F p0_list = some r) :
  Calls Try.prog 12 #[.slice a1 n2 c3] w fun e w' => ∃ (K' : KMap), e = .returned (.bool r) ∧ SH w K [] w' K' [] := by
 rw [M.impl_DocsOk] at hm
 refine calls_in Try.func12 rfl Try.ntmps12 rfl ?_
 refine sr ?_
 refine wl_val wn rfl (rv_assign (v := .bool false) rfl) ?_
 refine nsr ?_
 refine vm rfl rfl ?_
 refine wl_val wn rfl (rv_len (t := tGDoc) Try.underlying23 rfl hs4) ?_
 refine wl_val wn rfl (rv_move (v := .int .i64 0) rfl) ?_
 refine nq ?_
 obtain ⟨o5, h6, h7⟩ := ob hm
 refine wc_cutg (fun E' w' => ∃ (s8 : Unit) (K9 : KMap), o5 = .inl s8 ∧ E' = [(0, .slice a1 n2 c3)] ∧ SH w K [] w' K9 [] ∧ KLe K K9) ?_ ?_
 ·refine wc_block ?_
  obtain ⟨r14, h15, h16⟩ := ob h6
  refine wc_for' (fun (i17 : Nat) (s13 : Unit) E' w' => ∃ (K18 : KMap), E' = [(0, .slice a1 n2 c3), (5, .slice a1 n2 c3), (6, .int .i64 (p0_list.length : Int)), (7, .int .i64 ((i17 : Nat) : Int))] ∧ SH w K [] w' K18 [] ∧ KLe K K18) h15 ⟨K, rfl, hS, (KLe.refl _)⟩ ⟨rfl, rfl, rfl, rfl, trivial⟩ ?_ ?_
  ·rintro i17 s13 _ w20 r22 hi23 h24 hx25 ⟨K18, rfl, hS21, hl19⟩
   refine sr ?_
   refine wl_val wn rfl (rv_lss rfl rfl) ?_
   refine ns ?_
   refine wc_cond_t rfl (decide_eq_true (by omega)) (wc_skip (qe_seq (wc_seq ?_)))
   refine wc_block ?_
   refine sr ?_
   refine vm rfl rfl ?_
   obtain ⟨x26, hx27, h28⟩ := ob h24
   refine wl_indexAddr (t := tGDoc) wn rfl Try.underlying23 tf49 rfl rfl (SliceAt.mono hl19 hs4) hx27 ?_
   intro b29 o30 u31 hu32 ha33
   obtain ⟨a35, n36, c37, a39, n40, c41, rfl, hr34, hs38, hs42⟩ := hu32
   have ha43 : AtK _ b29 o30 [.int .i64 x26.Id, .slice a35 n36 c37, .slice a39 n40 c41] := ha33
   refine wl_val wn rfl (rv_loadS (cs := [.int .i64 x26.Id, .slice a35 n36 c37, .slice a39 n40 c41]) tf49 rfl hS21 ha43 rfl) ?_
   refine wl_alloc wn rfl tf49 hS21 ?_
   intro g44 w45 hS46
   have hS47 : SH _ _ _ _ _ [obj g44 [.int .i64 0, .slice none 0 0, .slice none 0 0] 49] := hS46
   refine va rfl rfl ?_
   refine wl_store (cs' := [.int .i64 x26.Id, .slice a35 n36 c37, .slice a39 n40 c41]) (v := .agg #[.int .i64 x26.Id, .slice a35 n36 c37, .slice a39 n40 c41]) wn tf49 rfl rfl rfl (by simp [Value.cells, Value.oneCell']) hS47 rfl rfl ?_
   intro w48 hS49
   refine ns ?_
   obtain ⟨o50, h51, h52⟩ := ob h28
   refine wc_cutg (fun E' w' => ∃ (K53 : KMap), E' = [(0, .slice a1 n2 c3), (5, .slice a1 n2 c3), (6, .int .i64 (p0_list.length : Int)), (7, .int .i64 ((i17 : Nat) : Int)), (29, .bool o50)] ∧ SH w K [] w' K53 [] ∧ KLe K18 K53) ?_ ?_
   ·refine wc_quiet mixed (by kernel_rfl) hS49 ?_
    refine wq_val wn rfl (rq_loadmS (ds := [.int .i64 x26.Id, .slice a35 n36 c37, .slice a39 n40 c41]) tf49 rfl (.head _) rfl rfl) ?_
    obtain ⟨r57, hx58, h59⟩ := ob h51
    refine wq_call (v := .bool r57) wn rfl (fun _ => rt_call (vs := [.agg #[.int .i64 x26.Id, .slice a35 n36 c37, .slice a39 n40 c41]]) co47 rfl) (fun w62 ⟨K60, hS61, hl63⟩ => ((ok_impl_DocOk F) hS61.enter0 hr34 (SliceAt.mono hl63 hs38) (SliceAt.mono hl63 hs42) hx58).mono fun e w' ⟨K', he, hS'⟩ => ⟨he, K', hS61.call0 hS', hl63.trans hS'.le⟩) ?_
    refine wq_val wn rfl (fun _ _ => (rv_not rfl)) ?_
    refine qm rfl rfl ?_
    rcases bool_tf ((!r57)) with hb64 | hb64
    ·have h65 := cond_t hb64 h59
     refine wq_un (ug rfl rfl hb64) rfl ?_
     refine wq_un (ug rfl rfl hb64) rfl ?_
     refine wq_un (ug rfl rfl hb64) rfl ?_
     refine qu rfl rfl rfl ?_
     refine qu rfl rfl rfl ?_
     refine qu rfl rfl rfl ?_
     refine qu rfl rfl rfl ?_
     refine qu rfl rfl rfl ?_
     refine qu rfl rfl rfl ?_
     refine qu rfl rfl rfl ?_
     refine qu rfl rfl rfl ?_
     refine qu rfl rfl rfl ?_
     refine wq_un (ug rfl rfl hb64) rfl ?_
     refine wq_val wn rfl (fun _ _ => (rv_pick_t (v := .bool true) rfl hb64 rfl)) ?_
     refine wq_nil ?_
     rintro w67 ⟨K66, hS68, hl69⟩
     obtain rfl := oi h65
     have hS70 : SH _ _ _ _ _ [] := SH.sublist hS68 (.cons _ .slnil)
     exact qe_mid' ⟨K66, rfl, hS70, hl69⟩ ⟨rfl, rfl, rfl, rfl, rfl, trivial⟩
    ·have h65 := cond_f hb64 h59
     refine wq_val (wg rfl rfl hb64) rfl (fun _ _ => (rv_move rfl)) ?_
     refine wq_val (wg rfl rfl hb64) rfl (fun _ _ => (rv_gtr rfl rfl)) ?_
     refine wq_val (wg rfl rfl hb64) rfl (fun _ _ => (rv_move rfl)) ?_
     rcases bool_tf (decide ((0 : Int) < ((i17 : Nat) : Int))) with hb71 | hb71
     ·have h72 := cond_t hb71 h65
      refine wq_val (wg rfl rfl hb71) rfl (fun _ _ => (rv_move rfl)) ?_
      refine wq_val (wg rfl rfl hb71) rfl (fun _ _ => (rv_move rfl)) ?_
      refine wq_val (wg rfl rfl hb71) rfl (fun _ _ => (rv_sub rfl rfl)) ?_
      obtain ⟨x73, hx74, h75⟩ := ob h72
      refine wq_indexAddr (t := tGDoc) (wg rfl rfl hb71) rfl Try.underlying23 tf49 rfl rfl (SliceAt.mono hl19 hs4) hx74 ?_
      intro b76 o77 u78 hu79 ha80
      obtain ⟨a82, n83, c84, a86, n87, c88, rfl, hr81, hs85, hs89⟩ := hu79
      have ha90 : AtK _ b76 o77 [.int .i64 x73.Id, .slice a82 n83 c84, .slice a86 n87 c88] := ha80
      refine wq_val (wg rfl rfl hb71) rfl (fun _ _ => (rv_fieldAddr ff49_0 rfl)) ?_
      refine wq_val (wg rfl rfl hb71) rfl (rq_load1 tf3 rfl (ha90 0 _ rfl)) ?_
      refine wq_val (wg rfl rfl hb71) rfl (fun _ _ => (rv_fieldAddr ff49_0 rfl)) ?_
      refine wq_val (wg rfl rfl hb71) rfl (rq_loadm1 tf3 rfl (.head _) rfl) ?_
      refine wq_val (wg rfl rfl hb71) rfl (fun _ _ => (rv_geq rfl rfl)) ?_
      refine wq_val (wg rfl rfl hb64) rfl (fun _ _ => (rv_pick_t rfl hb71 rfl)) ?_
      refine wq_val wn rfl (fun _ _ => (rv_pick_f rfl hb64 rfl)) ?_
      refine wq_nil ?_
      rintro w92 ⟨K91, hS93, hl94⟩
      obtain rfl := oi h75
      have hS95 : SH _ _ _ _ _ [] := SH.sublist hS93 (.cons _ .slnil)
      exact qe_mid' ⟨K91, rfl, hS95, hl94⟩ ⟨rfl, rfl, rfl, rfl, rfl, trivial⟩
     ·have h72 := cond_f hb71 h65
      refine wq_un (ug rfl rfl hb71) rfl ?_
      refine wq_un (ug rfl rfl hb71) rfl ?_
      refine wq_un (ug rfl rfl hb71) rfl ?_
      refine wq_un (ug rfl rfl hb71) rfl ?_
      refine wq_un (ug rfl rfl hb71) rfl ?_
      refine wq_un (ug rfl rfl hb71) rfl ?_
      refine wq_un (ug rfl rfl hb71) rfl ?_
      refine wq_un (ug rfl rfl hb71) rfl ?_
      refine wq_un (ug rfl rfl hb71) rfl ?_
      refine wq_val (wg rfl rfl hb64) rfl (fun _ _ => (rv_pick_f (v := .bool false) rfl hb71 rfl)) ?_
      refine wq_val wn rfl (fun _ _ => (rv_pick_f rfl hb64 rfl)) ?_
      refine wq_nil ?_
      rintro w97 ⟨K96, hS98, hl99⟩
      obtain rfl := oi h72
      have hS100 : SH _ _ _ _ _ [] := SH.sublist hS98 (.cons _ .slnil)
      exact qe_mid' ⟨K96, rfl, hS100, hl99⟩ ⟨rfl, rfl, rfl, rfl, rfl, trivial⟩
   ·rintro _ w55 ⟨K53, rfl, hS56, hl54⟩
    refine qe_seq ?_
    refine wc_cond rfl (fun hb101 => ?_) (fun hb101 => ?_)
    ·have h102 := cond_t hb101 h52
     refine sr ?_
     refine wl_val wn rfl (rv_assign (v := .bool false) rfl) ?_
     refine nq ?_
     refine wc_ret ?_
     refine qe_block_ret ?_
     refine qe_then_ret ?_
     refine qe_then_ret ?_
     obtain rfl := oi h102
     have e103 := hx25 _ rfl
     subst e103
     refine qe_block_ret ?_
     refine qe_then_ret ?_
     obtain rfl := oi h16
     refine qe_then_ret ?_
     obtain rfl := oi h7
     exact qe_ret (vs := [_]) Try.results12 ⟨rfl, trivial⟩ ⟨K53, rfl, hS56⟩
    ·have h102 := cond_f hb101 h52
     refine wc_skip ?_
     refine qe_block ?_
     refine qg ?_
     refine wl_val wn rfl (rv_add_to rfl rfl (w64_succ hi23 (SliceAt.max hs4))) ?_
     refine vm rfl rfl ?_
     refine wl_nil ?_
     obtain rfl := oi h102
     exact qe_mid' ⟨_, rfl, K53, rfl, hS56, (hl19.trans hl54)⟩ ⟨rfl, rfl, rfl, rfl, trivial⟩
  ·rintro s13 _ w20 hr104 ⟨K18, rfl, hS21, hl19⟩
   subst hr104
   refine sr ?_
   refine wl_val wn rfl (rv_lss rfl rfl) ?_
   refine ns ?_
   refine wc_cond_f rfl (decide_eq_false (by omega)) ?_
   refine wc_exit ?_
   refine qe_then_exit ?_
   refine qe_then_exit ?_
   refine qe_block_eq ?_
   obtain rfl := oi h16
   exact qe_mid' ⟨_, K18, rfl, rfl, hS21, hl19⟩ ⟨rfl, trivial⟩
 ·rintro _ w11 ⟨s8, K9, rfl, rfl, hS12, hl10⟩
  refine qr ?_
  refine vm rfl rfl ?_
  refine wl_val wn rfl (rv_len (t := tGDoc) Try.underlying23 rfl (SliceAt.mono hl10 hs4)) ?_
  refine wl_val wn rfl (rv_leq rfl rfl) ?_
  refine va rfl rfl ?_
  refine nq ?_
  refine wc_ret ?_
  obtain rfl := oi h7
  exact qe_ret (vs := [_]) Try.results12 ⟨rfl, trivial⟩ ⟨K9, rfl, hS12⟩

theorem ok_spec_l30Open (F : Nat) {w : World} {K : KMap} {a1 : Option Addr} {n2 c3 : Nat} {p0_code : List UInt8} {r : GL30Rd} (hS : SH w K [] w K []) (hs4 : SliceAt tU8 K a1 n2 c3 p0_code) (hm : M.spec_l30Open F p0_code = some r) :
  Calls Try.prog 34 #[.slice a1 n2 c3] w fun e w' => ∃ (g_1 : Nat) (a_2 : Option Addr) (n_3 c_4 : Nat) (K' : KMap), e = .returned (.pointer (some ⟨g_1, 0, none⟩)) ∧ SH w K [] w' K' [obj g_1 [.slice a_2 n_3 c_4, .int .i64 r.p_] 122] ∧ SliceAt tU8 K' a_2 n_3 c_4 r.b_ ∧ rng64 r.p_ := by
 rw [M.spec_l30Open] at hm
 refine calls_in Try.func34 rfl Try.ntmps34 rfl ?_
 refine sr ?_
 refine wl_val wn rfl (rv_assign (v := .pointer none) rfl) ?_
 refine nsr ?_
 refine vm rfl rfl ?_
 refine wl_val wn rfl (rv_len (t := tU8) Try.underlying22 rfl hs4) ?_
 refine wl_val wn rfl (rv_gtr rfl rfl) ?_
 refine nq ?_
 refine wc_cond rfl (fun hb5 => ?_) (fun hb5 => ?_)
 ·have h6 := cond_t hb5 hm
  refine wc_region ?_
  refine vm rfl rfl ?_
  obtain ⟨x7, hx8, h9⟩ := ob h6
  refine wl_sl_h (t := tU8) wn rfl Try.underlying22 tf5 rfl rfl hs4 hx8 ?_
  intro a10 n11 c12 hs13
  refine va rfl rfl ?_
  refine nr ?_
  refine vm rfl rfl ?_
  refine wl_val wn rfl (rv_build (cs := #[.slice a10 n11 c12, .int .i64 0]) sp122 tf122 rfl (by kernel_rfl)) ?_
  refine wl_box wn rfl rfl hS ?_
  intro g14 w15 hS16
  have hS17 : SH _ _ _ _ _ [obj g14 [.slice a10 n11 c12, .int .i64 0] 122] := hS16
  refine va rfl rfl ?_
  refine nq ?_
  refine wc_ret ?_
  obtain rfl := oi h9
  exact qe_ret (vs := [_]) Try.results34 ⟨rfl, trivial⟩ ⟨g14, a10, n11, c12, K, rfl, hS17, hs13, (by decide : rng64 0)⟩
 ·have h6 := cond_f hb5 hm
  refine wc_skip ?_
  refine qr ?_
  refine vm rfl rfl ?_
  refine wl_val wn rfl (rv_build (cs := #[.slice a1 n2 c3, .int .i64 0]) sp122 tf122 rfl (by kernel_rfl)) ?_
  refine wl_box wn rfl rfl hS ?_
  intro g18 w19 hS20
  have hS21 : SH _ _ _ _ _ [obj g18 [.slice a1 n2 c3, .int .i64 0] 122] := hS20
  refine va rfl rfl ?_
  refine nq ?_
  refine wc_ret ?_
  obtain rfl := oi h6
  exact qe_ret (vs := [_]) Try.results34 ⟨rfl, trivial⟩ ⟨g18, a1, n2, c3, K, rfl, hS21, hs4, (by decide : rng64 0)⟩

set_option maxHeartbeats 2000000 in
theorem ok_spec_l30Rd_pick (F : Nat) {w : World} {K : KMap} {g1 : Nat} {a2 : Option Addr} {n3 c4 : Nat} {p0_r : GL30Rd} {p1_n : Int} {r : Int × GL30Rd} (hS : SH w K (List.flatMap Item.gs [obj g1 [.slice a2 n3 c4, .int .i64 p0_r.p_] 122]) w K [obj g1 [.slice a2 n3 c4, .int .i64 p0_r.p_] 122]) (hs5 : SliceAt tU8 K a2 n3 c4 p0_r.b_) (hr6 : rng64 p0_r.p_) (hr7 : rng64 p1_n) (hm : M.spec_l30Rd_pick F p0_r p1_n = some r) :
  Calls Try.prog 36 #[.pointer (some ⟨g1, 0, none⟩), .int .i64 p1_n] w fun e w' => ∃ (a_2 : Option Addr) (n_3 c_4 : Nat) (K' : KMap), e = .returned (.int .i64 r.1) ∧ SH w K (List.flatMap Item.gs [obj g1 [.slice a2 n3 c4, .int .i64 p0_r.p_] 122]) w' K' [obj g1 [.slice a_2 n_3 c_4, .int .i64 r.2.p_] 122] ∧ rng64 r.1 ∧ SliceAt tU8 K' a_2 n_3 c_4 r.2.b_ ∧ rng64 r.2.p_ := by
 rw [M.spec_l30Rd_pick] at hm
 refine calls_in Try.func36 rfl Try.ntmps36 rfl ?_
 refine sr ?_
 refine wl_val wn rfl (rv_assign (v := .int .i64 0) rfl) ?_
 refine nr ?_
 refine vm rfl rfl ?_
 refine vm rfl rfl ?_
 refine wl_val wn rfl (rv_nilCheck rfl) ?_
 refine wl_val wn rfl (rv_fieldAddr ff122_1 rfl) ?_
 refine wl_val wn rfl (rv_loadm1 tf3 rfl (.head _) hS rfl) ?_
 refine wl_val wn rfl (rv_add rfl rfl) ?_
 refine wl_val wn rfl (rv_nilCheck rfl) ?_
 refine wl_val wn rfl (rv_fieldAddr ff122_1 rfl) ?_
 refine wl_store (cs' := [.slice a2 n3 c4, .int .i64 (w64 (p0_r.p_ + (1 : Int)))]) (v := .int .i64 (w64 (p0_r.p_ + (1 : Int)))) wn tf3 rfl rfl rfl (by simp [Value.cells, Value.oneCell']) hS rfl rfl ?_
 intro w8 hS9
 refine ns ?_
 refine wc_seq ?_
 obtain ⟨o10, h11, h12⟩ := ob hm
 refine wc_cutg (fun E' w' => ∃ (K13 : KMap), E' = [(0, .pointer (some ⟨g1, 0, none⟩)), (1, .int .i64 p1_n), (24, .bool o10)] ∧ SH w K (List.flatMap Item.gs [obj g1 [.slice a2 n3 c4, .int .i64 p0_r.p_] 122]) w' K13 [obj g1 [.slice a2 n3 c4, .int .i64 (w64 (p0_r.p_ + (1 : Int)))] 122] ∧ KLe K K13) ?_ ?_
 ·refine wc_region ?_
  refine vm rfl rfl ?_
  refine wl_val wn rfl (rv_lss rfl rfl) ?_
  refine vm rfl rfl ?_
  rcases bool_tf (decide (p1_n < (1 : Int))) with hb17 | hb17
  ·have h18 := cond_t hb17 h11
   refine wl_un (ug rfl rfl hb17) rfl ?_
   refine wl_un (ug rfl rfl hb17) rfl ?_
   refine wl_un (ug rfl rfl hb17) rfl ?_
   refine wl_un (ug rfl rfl hb17) rfl ?_
   refine wl_un (ug rfl rfl hb17) rfl ?_
   refine wl_un (ug rfl rfl hb17) rfl ?_
   refine wl_val wn rfl (rv_pick_t (v := .bool true) rfl hb17 rfl) ?_
   refine wl_nil ?_
   obtain rfl := oi h18
   exact qe_mid' ⟨K, rfl, hS9, (KLe.refl _)⟩ ⟨rfl, rfl, rfl, trivial⟩
  ·have h18 := cond_f hb17 h11
   refine wl_val (wg rfl rfl hb17) rfl (rv_move rfl) ?_
   refine wl_val (wg rfl rfl hb17) rfl (rv_nilCheck rfl) ?_
   refine wl_val (wg rfl rfl hb17) rfl (rv_fieldAddr ff122_0 rfl) ?_
   refine wl_val (wg rfl rfl hb17) rfl (rv_loadm1 tf22 rfl (.head _) hS9 rfl) ?_
   refine wl_val (wg rfl rfl hb17) rfl (rv_len (t := tU8) Try.underlying22 rfl hs5) ?_
   refine wl_val (wg rfl rfl hb17) rfl (rv_eql rfl rfl) ?_
   refine wl_val wn rfl (rv_pick_f rfl hb17 rfl) ?_
   refine wl_nil ?_
   obtain rfl := oi h18
   exact qe_mid' ⟨K, rfl, hS9, (KLe.refl _)⟩ ⟨rfl, rfl, rfl, trivial⟩
 ·rintro _ w15 ⟨K13, rfl, hS16, hl14⟩
  refine qe_seq ?_
  refine wc_cond rfl (fun hb19 => ?_) (fun hb19 => ?_)
  ·have h20 := cond_t hb19 h12
   refine sr ?_
   refine wl_val wn rfl (rv_assign (v := .int .i64 0) rfl) ?_
   refine nq ?_
   refine rr ?_
   obtain rfl := oi h20
   exact qe_ret (vs := [_]) Try.results36 ⟨rfl, trivial⟩ ⟨a2, n3, c4, K13, rfl, hS16, (by decide : rng64 0), (SliceAt.mono hl14 hs5), (w64_rng _)⟩
  ·have h20 := cond_f hb19 h12
   refine wc_skip ?_
   refine qr ?_
   refine vm rfl rfl ?_
   refine wl_val wn rfl (rv_nilCheck rfl) ?_
   refine wl_val wn rfl (rv_fieldAddr ff122_1 rfl) ?_
   refine wl_val wn rfl (rv_loadm1 tf3 rfl (.head _) hS16 rfl) ?_
   refine wl_val wn rfl (rv_sub rfl rfl) ?_
   refine va rfl rfl ?_
   refine nsr ?_
   refine vm rfl rfl ?_
   refine vm rfl rfl ?_
   refine wl_val wn rfl (rv_nilCheck rfl) ?_
   refine wl_val wn rfl (rv_fieldAddr ff122_0 rfl) ?_
   refine wl_val wn rfl (rv_loadm1 tf22 rfl (.head _) hS16 rfl) ?_
   refine wl_val wn rfl (rv_len (t := tU8) Try.underlying22 rfl (SliceAt.mono hl14 hs5)) ?_
   refine wl_val wn rfl (rv_lss rfl rfl) ?_
   refine nq ?_
   refine wc_cond rfl (fun hb21 => ?_) (fun hb21 => ?_)
   ·have h22 := cond_t hb21 h20
    refine sr ?_
    refine vm rfl rfl ?_
    refine wl_val wn rfl (rv_nilCheck rfl) ?_
    refine wl_val wn rfl (rv_fieldAddr ff122_0 rfl) ?_
    refine wl_val wn rfl (rv_loadm1 tf22 rfl (.head _) hS16 rfl) ?_
    refine vm rfl rfl ?_
    obtain ⟨x23, hx24, h25⟩ := ob h22
    refine wl_indexAddr (t := tU8) wn rfl Try.underlying22 tf5 rfl rfl (SliceAt.mono hl14 hs5) hx24 ?_
    intro b26 o27 u28 hu29 ha30
    obtain rfl := hu29
    have ha31 : AtK _ b26 o27 [iv8 x23] := ha30
    refine wl_val wn rfl (rv_load1 tf5 rfl hS16 (ha31 0 _ rfl)) ?_
    refine wl_val wn rfl (rv_b2i Try.underlying5 Try.underlying3 rfl) ?_
    refine vm rfl rfl ?_
    obtain ⟨x32, hx33, h34⟩ := ob h25
    refine wl_val wn rfl (rv_rem rfl rfl hx33) ?_
    refine va rfl rfl ?_
    refine nq ?_
    refine rr ?_
    obtain rfl := oi h34
    exact qe_ret (vs := [_]) Try.results36 ⟨rfl, trivial⟩ ⟨a2, n3, c4, K13, rfl, hS16, (rng_rem (rng_u8 _) hx33), (SliceAt.mono hl14 hs5), (w64_rng _)⟩
   ·have h22 := cond_f hb21 h20
    refine wc_skip ?_
    refine qs ?_
    refine wc_quiet mixed (by kernel_rfl) hS16 ?_
    refine qm rfl rfl ?_
    refine wq_val wn rfl (fun _ _ => (rv_nilCheck rfl)) ?_
    refine wq_val wn rfl (fun _ _ => (rv_fieldAddr ff122_0 rfl)) ?_
    refine wq_val wn rfl (rq_loadm1 tf22 rfl (.head _) rfl) ?_
    refine qm rfl rfl ?_
    refine qm rfl rfl ?_
    refine wq_val wn rfl (fun _ _ => (rv_nilCheck rfl)) ?_
    refine wq_val wn rfl (fun _ _ => (rv_fieldAddr ff122_0 rfl)) ?_
    refine wq_val wn rfl (rq_loadm1 tf22 rfl (.head _) rfl) ?_
    refine wq_val wn rfl (fun _ _ => (rv_len (t := tU8) Try.underlying22 rfl (SliceAt.mono hl14 hs5))) ?_
    obtain ⟨x35, hx36, h37⟩ := ob h22
    refine wq_val wn rfl (fun _ _ => (rv_rem rfl rfl hx36)) ?_
    obtain ⟨x38, hx39, h40⟩ := ob h37
    refine wq_indexAddr (t := tU8) wn rfl Try.underlying22 tf5 rfl rfl (SliceAt.mono hl14 hs5) hx39 ?_
    intro b41 o42 u43 hu44 ha45
    obtain rfl := hu44
    have ha46 : AtK _ b41 o42 [iv8 x38] := ha45
    refine wq_val wn rfl (rq_load1 tf5 rfl (ha46 0 _ rfl)) ?_
    refine wq_val wn rfl (fun _ _ => (rv_b2i Try.underlying5 Try.underlying3 rfl)) ?_
    refine wq_val wn rfl (fun _ _ => (rv_mul rfl rfl)) ?_
    refine qm rfl rfl ?_
    refine wq_val wn rfl (fun _ _ => (rv_nilCheck rfl)) ?_
    refine wq_val wn rfl (fun _ _ => (rv_fieldAddr ff122_0 rfl)) ?_
    refine wq_val wn rfl (rq_loadm1 tf22 rfl (.head _) rfl) ?_
    refine qm rfl rfl ?_
    refine wq_val wn rfl (fun _ _ => (rv_mul rfl rfl)) ?_
    refine wq_val wn rfl (fun _ _ => (rv_add rfl rfl)) ?_
    refine qm rfl rfl ?_
    refine wq_val wn rfl (fun _ _ => (rv_nilCheck rfl)) ?_
    refine wq_val wn rfl (fun _ _ => (rv_fieldAddr ff122_0 rfl)) ?_
    refine wq_val wn rfl (rq_loadm1 tf22 rfl (.head _) rfl) ?_
    refine wq_val wn rfl (fun _ _ => (rv_len (t := tU8) Try.underlying22 rfl (SliceAt.mono hl14 hs5))) ?_
    obtain ⟨x47, hx48, h49⟩ := ob h40
    refine wq_val wn rfl (fun _ _ => (rv_rem rfl rfl hx48)) ?_
    obtain ⟨x50, hx51, h52⟩ := ob h49
    refine wq_indexAddr (t := tU8) wn rfl Try.underlying22 tf5 rfl rfl (SliceAt.mono hl14 hs5) hx51 ?_
    intro b53 o54 u55 hu56 ha57
    obtain rfl := hu56
    have ha58 : AtK _ b53 o54 [iv8 x50] := ha57
    refine wq_val wn rfl (rq_load1 tf5 rfl (ha58 0 _ rfl)) ?_
    refine wq_val wn rfl (fun _ _ => (rv_b2i Try.underlying5 Try.underlying3 rfl)) ?_
    refine wq_val wn rfl (fun _ _ => (rv_mul rfl rfl)) ?_
    refine wq_val wn rfl (fun _ _ => (rv_add rfl rfl)) ?_
    refine qm rfl rfl ?_
    refine wq_val wn rfl (fun _ _ => (rv_mul rfl rfl)) ?_
    refine wq_val wn rfl (fun _ _ => (rv_add rfl rfl)) ?_
    refine qm rfl rfl ?_
    refine qm rfl rfl ?_
    refine wq_val wn rfl (fun _ _ => (rv_nilCheck rfl)) ?_
    refine wq_val wn rfl (fun _ _ => (rv_fieldAddr ff122_0 rfl)) ?_
    refine wq_val wn rfl (rq_loadm1 tf22 rfl (.head _) rfl) ?_
    refine wq_val wn rfl (fun _ _ => (rv_len (t := tU8) Try.underlying22 rfl (SliceAt.mono hl14 hs5))) ?_
    obtain ⟨x59, hx60, h61⟩ := ob h52
    refine wq_val wn rfl (fun _ _ => (rv_quo rfl rfl hx60)) ?_
    refine wq_val wn rfl (fun _ _ => (rv_mul rfl rfl)) ?_
    refine wq_val wn rfl (fun _ _ => (rv_add rfl rfl)) ?_
    obtain ⟨x62, hx63, h64⟩ := ob h61
    have e65 := oi hx63
    refine wq_val wn rfl (fun _ _ => (rv_as rfl (congrArg (Value.int .i64) e65))) ?_
    refine wq_nil ?_
    rintro w67 ⟨K66, hS68, hl69⟩
    refine qr ?_
    refine vm rfl rfl ?_
    refine vm rfl rfl ?_
    obtain ⟨x70, hx71, h72⟩ := ob h64
    refine wl_val wn rfl (rv_quo rfl rfl hx71) ?_
    refine wl_val wn rfl (rv_xor rfl rfl) ?_
    refine va rfl rfl ?_
    refine nr ?_
    refine vm rfl rfl ?_
    refine vm rfl rfl ?_
    obtain ⟨x73, hx74, h75⟩ := ob h72
    refine wl_val wn rfl (rv_rem rfl rfl hx74) ?_
    refine va rfl rfl ?_
    refine nq ?_
    refine wc_ret ?_
    obtain rfl := oi h75
    exact qe_ret (vs := [_]) Try.results36 ⟨rfl, trivial⟩ ⟨a2, n3, c4, K66, rfl, hS68, (rng_rem (w64_rng _) hx74), (SliceAt.mono (hl14.trans hl69) hs5), (w64_rng _)⟩

theorem ok_spec_l30Rd_of (F : Nat) {w : World} {K : KMap} {g1 : Nat} {a2 : Option Addr} {n3 c4 : Nat} {a7 : Option Addr} {n8 c9 : Nat} {p0_r : GL30Rd} {p1_list : List Str} {r : Str × GL30Rd} (hS : SH w K (List.flatMap Item.gs [obj g1 [.slice a2 n3 c4, .int .i64 p0_r.p_] 122]) w K [obj g1 [.slice a2 n3 c4, .int .i64 p0_r.p_] 122]) (hs5 : SliceAt tU8 K a2 n3 c4 p0_r.b_) (hr6 : rng64 p0_r.p_) (hs10 : SliceAt tStr K a7 n8 c9 p1_list) (hm : M.spec_l30Rd_of F p0_r p1_list = some r) :
  Calls Try.prog 38 #[.pointer (some ⟨g1, 0, none⟩), .slice a7 n8 c9] w fun e w' => ∃ (a_2 : Option Addr) (n_3 c_4 : Nat) (K' : KMap), e = .returned (sv r.1) ∧ SH w K (List.flatMap Item.gs [obj g1 [.slice a2 n3 c4, .int .i64 p0_r.p_] 122]) w' K' [obj g1 [.slice a_2 n_3 c_4, .int .i64 r.2.p_] 122] ∧ r.1.length ≤ maxLen ∧ SliceAt tU8 K' a_2 n_3 c_4 r.2.b_ ∧ rng64 r.2.p_ := by
 rw [M.spec_l30Rd_of] at hm
 refine calls_in Try.func38 rfl Try.ntmps38 rfl ?_
 refine sr ?_
 refine wl_val wn rfl (rv_assign (v := sv []) rfl) ?_
 refine nr ?_
 refine vm rfl rfl ?_
 refine vm rfl rfl ?_
 refine vm rfl rfl ?_
 refine wl_val wn rfl (rv_len (t := tStr) Try.underlying36 rfl hs10) ?_
 obtain ⟨r11, hx12, h13⟩ := ob hm
 refine wl_call wn rfl (rt_call (vs := [.pointer (some ⟨g1, 0, none⟩), .int .i64 (p1_list.length : Int)]) co36 rfl) ((ok_spec_l30Rd_pick F) (SH.enter (Lin := [_]) hS) hs5 hr6 (rng_nat (SliceAt.max hs10)) hx12) ?_
 rintro e23 w15 ⟨a18, n19, c20, K14, rfl, hS16, hr17, hs21, hr22⟩
 refine ⟨_, rfl, ?_⟩
 have hS24 : SH _ _ _ _ _ [_] := SH.call (Lin := [_]) hS hS16
 obtain ⟨x25, hx26, h27⟩ := ob h13
 refine wl_indexAddr (t := tStr) wn rfl Try.underlying36 tf9 rfl rfl (SliceAt.mono hS16.le hs10) hx26 ?_
 intro b28 o29 u30 hu31 ha32
 obtain ⟨rfl, hl33⟩ := hu31
 have ha34 : AtK _ b28 o29 [sv x25] := ha32
 refine wl_val wn rfl (rv_load1 tf9 rfl hS24 (ha34 0 _ rfl)) ?_
 refine va rfl rfl ?_
 refine nq ?_
 refine wc_ret ?_
 obtain rfl := oi h27
 exact qe_ret (vs := [_]) Try.results38 ⟨rfl, trivial⟩ ⟨a18, n19, c20, K14, rfl, hS24, hl33, hs21, hr22⟩

theorem ok_spec_l30Raw (F : Nat) {w : World} {K : KMap} {g1 : Nat} {a2 : Option Addr} {n3 c4 : Nat} {p0_r : GL30Rd} {r : Str × GL30Rd} (hS : SH w K (List.flatMap Item.gs [obj g1 [.slice a2 n3 c4, .int .i64 p0_r.p_] 122]) w K [obj g1 [.slice a2 n3 c4, .int .i64 p0_r.p_] 122]) (hs5 : SliceAt tU8 K a2 n3 c4 p0_r.b_) (hr6 : rng64 p0_r.p_) (hm : M.spec_l30Raw F p0_r = some r) :
  Calls Try.prog 155 #[.pointer (some ⟨g1, 0, none⟩)] w fun e w' => ∃ (a_2 : Option Addr) (n_3 c_4 : Nat) (K' : KMap), e = .returned (sv r.1) ∧ SH w K (List.flatMap Item.gs [obj g1 [.slice a2 n3 c4, .int .i64 p0_r.p_] 122]) w' K' [obj g1 [.slice a_2 n_3 c_4, .int .i64 r.2.p_] 122] ∧ r.1.length ≤ maxLen ∧ SliceAt tU8 K' a_2 n_3 c_4 r.2.b_ ∧ rng64 r.2.p_ := by
 rw [M.spec_l30Raw] at hm
 refine calls_in Try.func155 rfl Try.ntmps155 rfl ?_
 refine sr ?_
 refine wl_val wn rfl (rv_assign (v := sv []) rfl) ?_
 refine nr ?_
 refine vm rfl rfl ?_
 refine wl_buildSlice (t := tStr) (n := 16) (pv := [(0, sv [99, 97, 116]), (1, sv [67, 97, 116, 115]), (2, sv [100, 111, 103]), (3, sv [100, 111, 103, 115]), (4, sv [114, 117, 110]), (5, sv [82, 85, 78, 78, 73, 78, 71]), (6, sv [116, 104, 101]), (7, sv [114, 101, 100]), (8, sv [98, 105, 103]), (9, sv [110, 101, 119, 32, 121, 111, 114, 107]), (10, sv [78, 101, 119, 32, 32, 89, 111, 114, 107]), (11, sv [110, 121]), (12, sv [102, 111, 120]), (13, sv [112, 97, 115, 115, 101, 100]), (14, sv [120, 49]), (15, sv [97, 118, 101, 114, 121, 118, 101, 114, 121, 108, 111, 110, 103, 119, 111, 114, 100])]) (cs := [sv [99, 97, 116], sv [67, 97, 116, 115], sv [100, 111, 103], sv [100, 111, 103, 115], sv [114, 117, 110], sv [82, 85, 78, 78, 73, 78, 71], sv [116, 104, 101], sv [114, 101, 100], sv [98, 105, 103], sv [110, 101, 119, 32, 121, 111, 114, 107], sv [78, 101, 119, 32, 32, 89, 111, 114, 107], sv [110, 121], sv [102, 111, 120], sv [112, 97, 115, 115, 101, 100], sv [120, 49], sv [97, 118, 101, 114, 121, 118, 101, 114, 121, 108, 111, 110, 103, 119, 111, 114, 100]]) (xs := [([99, 97, 116] : Str), ([67, 97, 116, 115] : Str), ([100, 111, 103] : Str), ([100, 111, 103, 115] : Str), ([114, 117, 110] : Str), ([82, 85, 78, 78, 73, 78, 71] : Str), ([116, 104, 101] : Str), ([114, 101, 100] : Str), ([98, 105, 103] : Str), ([110, 101, 119, 32, 121, 111, 114, 107] : Str), ([78, 101, 119, 32, 32, 89, 111, 114, 107] : Str), ([110, 121] : Str), ([102, 111, 120] : Str), ([112, 97, 115, 115, 101, 100] : Str), ([120, 49] : Str), ([97, 118, 101, 114, 121, 118, 101, 114, 121, 108, 111, 110, 103, 119, 111, 114, 100] : Str)]) wn rfl Try.underlying36 tf9 rfl rfl rfl (by kernel_rfl) rfl rfl (lit_cons (u := sv [99, 97, 116]) (z := ([99, 97, 116] : Str)) ⟨rfl, (by decide : ([99, 97, 116] : Str).length ≤ maxLen)⟩ (lit_cons (u := sv [67, 97, 116, 115]) (z := ([67, 97, 116, 115] : Str)) ⟨rfl, (by decide : ([67, 97, 116, 115] : Str).length ≤ maxLen)⟩ (lit_cons (u := sv [100, 111, 103]) (z := ([100, 111, 103] : Str)) ⟨rfl, (by decide : ([100, 111, 103] : Str).length ≤ maxLen)⟩ (lit_cons (u := sv [100, 111, 103, 115]) (z := ([100, 111, 103, 115] : Str)) ⟨rfl, (by decide : ([100, 111, 103, 115] : Str).length ≤ maxLen)⟩ (lit_cons (u := sv [114, 117, 110]) (z := ([114, 117, 110] : Str)) ⟨rfl, (by decide : ([114, 117, 110] : Str).length ≤ maxLen)⟩ (lit_cons (u := sv [82, 85, 78, 78, 73, 78, 71]) (z := ([82, 85, 78, 78, 73, 78, 71] : Str)) ⟨rfl, (by decide : ([82, 85, 78, 78, 73, 78, 71] : Str).length ≤ maxLen)⟩ (lit_cons (u := sv [116, 104, 101]) (z := ([116, 104, 101] : Str)) ⟨rfl, (by decide : ([116, 104, 101] : Str).length ≤ maxLen)⟩ (lit_cons (u := sv [114, 101, 100]) (z := ([114, 101, 100] : Str)) ⟨rfl, (by decide : ([114, 101, 100] : Str).length ≤ maxLen)⟩ (lit_cons (u := sv [98, 105, 103]) (z := ([98, 105, 103] : Str)) ⟨rfl, (by decide : ([98, 105, 103] : Str).length ≤ maxLen)⟩ (lit_cons (u := sv [110, 101, 119, 32, 121, 111, 114, 107]) (z := ([110, 101, 119, 32, 121, 111, 114, 107] : Str)) ⟨rfl, (by decide : ([110, 101, 119, 32, 121, 111, 114, 107] : Str).length ≤ maxLen)⟩ (lit_cons (u := sv [78, 101, 119, 32, 32, 89, 111, 114, 107]) (z := ([78, 101, 119, 32, 32, 89, 111, 114, 107] : Str)) ⟨rfl, (by decide : ([78, 101, 119, 32, 32, 89, 111, 114, 107] : Str).length ≤ maxLen)⟩ (lit_cons (u := sv [110, 121]) (z := ([110, 121] : Str)) ⟨rfl, (by decide : ([110, 121] : Str).length ≤ maxLen)⟩ (lit_cons (u := sv [102, 111, 120]) (z := ([102, 111, 120] : Str)) ⟨rfl, (by decide : ([102, 111, 120] : Str).length ≤ maxLen)⟩ (lit_cons (u := sv [112, 97, 115, 115, 101, 100]) (z := ([112, 97, 115, 115, 101, 100] : Str)) ⟨rfl, (by decide : ([112, 97, 115, 115, 101, 100] : Str).length ≤ maxLen)⟩ (lit_cons (u := sv [120, 49]) (z := ([120, 49] : Str)) ⟨rfl, (by decide : ([120, 49] : Str).length ≤ maxLen)⟩ (lit_cons (u := sv [97, 118, 101, 114, 121, 118, 101, 114, 121, 108, 111, 110, 103, 119, 111, 114, 100]) (z := ([97, 118, 101, 114, 121, 118, 101, 114, 121, 108, 111, 110, 103, 119, 111, 114, 100] : Str)) ⟨rfl, (by decide : ([97, 118, 101, 114, 121, 118, 101, 114, 121, 108, 111, 110, 103, 119, 111, 114, 100] : Str).length ≤ maxLen)⟩ lit_nil)))))))))))))))) hS ?_
 intro a7 w8 K9 hl10 hs11 hS12
 obtain ⟨r13, hx14, h15⟩ := ob hm
 have hS16 : SH _ _ _ _ _ [_, _] := SH.front (p := [_]) hS12
 refine wl_call wn rfl (rt_call (vs := [.pointer (some ⟨g1, 0, none⟩), .slice a7 16 16]) co38 rfl) ((ok_spec_l30Rd_of F) (SH.enter (Lin := [_]) hS16) (SliceAt.mono hl10 hs5) hr6 hs11 hx14) ?_
 rintro e26 w18 ⟨a21, n22, c23, K17, rfl, hS19, hl20, hs24, hr25⟩
 refine ⟨_, rfl, ?_⟩
 have hS27 : SH _ _ _ _ _ [_, _] := SH.call (Lin := [_]) hS16 hS19
 refine va rfl rfl ?_
 refine nq ?_
 refine wc_ret ?_
 obtain rfl := oi h15
 have hS28 : SH _ _ _ _ _ [_] := SH.sublist hS27 (.cons_cons _ (.cons _ .slnil))
 exact qe_ret (vs := [_]) Try.results155 ⟨rfl, trivial⟩ ⟨a21, n22, c23, K17, rfl, hS28, hl20, hs24, hr25⟩

theorem ok_spec_l30Text (F : Nat) {w : World} {K : KMap} {g1 : Nat} {a2 : Option Addr} {n3 c4 : Nat} {p0_r : GL30Rd} {r : Str × GL30Rd} (hS : SH w K (List.flatMap Item.gs [obj g1 [.slice a2 n3 c4, .int .i64 p0_r.p_] 122]) w K [obj g1 [.slice a2 n3 c4, .int .i64 p0_r.p_] 122]) (hs5 : SliceAt tU8 K a2 n3 c4 p0_r.b_) (hr6 : rng64 p0_r.p_) (hm : M.spec_l30Text F p0_r = some r) :
  Calls Try.prog 143 #[.pointer (some ⟨g1, 0, none⟩)] w fun e w' => ∃ (a_2 : Option Addr) (n_3 c_4 : Nat) (K' : KMap), e = .returned (sv r.1) ∧ SH w K (List.flatMap Item.gs [obj g1 [.slice a2 n3 c4, .int .i64 p0_r.p_] 122]) w' K' [obj g1 [.slice a_2 n_3 c_4, .int .i64 r.2.p_] 122] ∧ r.1.length ≤ maxLen ∧ SliceAt tU8 K' a_2 n_3 c_4 r.2.b_ ∧ rng64 r.2.p_ := by
 rw [M.spec_l30Text] at hm
 refine calls_in Try.func143 rfl Try.ntmps143 rfl ?_
 refine sr ?_
 refine wl_val wn rfl (rv_assign (v := sv []) rfl) ?_
 refine nr ?_
 refine wl_val wn rfl (rv_assign (v := sv []) rfl) ?_
 refine nsr ?_
 refine vm rfl rfl ?_
 obtain ⟨r7, hx8, h9⟩ := ob hm
 refine wl_call wn rfl (rt_call (vs := [.pointer (some ⟨g1, 0, none⟩), .int .i64 9]) co36 rfl) ((ok_spec_l30Rd_pick F) (SH.enter (Lin := [_]) hS) hs5 hr6 (by decide : rng64 9) hx8) ?_
 rintro e19 w11 ⟨a14, n15, c16, K10, rfl, hS12, hr13, hs17, hr18⟩
 refine ⟨_, rfl, ?_⟩
 have hS20 : SH _ _ _ _ _ [_] := SH.call (Lin := [_]) hS hS12
 refine va rfl rfl ?_
 refine nq ?_
 obtain ⟨o21, h22, h23⟩ := ob h9
 refine wc_cutg (fun E' w' => ∃ (a29 : Option Addr) (n30 c31 : Nat) (K24 : KMap), E' = [(0, .pointer (some ⟨g1, 0, none⟩)), (3, sv o21.1)] ∧ SH w K (List.flatMap Item.gs [obj g1 [.slice a2 n3 c4, .int .i64 p0_r.p_] 122]) w' K24 [obj g1 [.slice a29 n30 c31, .int .i64 o21.2.p_] 122] ∧ KLe K10 K24 ∧ o21.1.length ≤ maxLen ∧ SliceAt tU8 K24 a29 n30 c31 o21.2.b_ ∧ rng64 o21.2.p_) ?_ ?_
 ·refine wc_block ?_
  obtain ⟨r35, h36, h37⟩ := ob h22
  refine wc_while' (fun (s34 : Str × Int × GL30Rd) E' w' => ∃ (a44 : Option Addr) (n45 c46 : Nat) (K38 : KMap), E' = [(0, .pointer (some ⟨g1, 0, none⟩)), (3, sv s34.1), (4, .int .i64 s34.2.1)] ∧ SH w K (List.flatMap Item.gs [obj g1 [.slice a2 n3 c4, .int .i64 p0_r.p_] 122]) w' K38 [obj g1 [.slice a44 n45 c46, .int .i64 s34.2.2.p_] 122] ∧ KLe K10 K38 ∧ s34.1.length ≤ maxLen ∧ rng64 s34.2.1 ∧ SliceAt tU8 K38 a44 n45 c46 s34.2.2.b_ ∧ rng64 s34.2.2.p_) h36 ⟨a14, n15, c16, K10, rfl, hS20, (KLe.refl _), (by decide : ([] : Str).length ≤ maxLen), hr13, hs17, hr18⟩ ⟨rfl, rfl, rfl, trivial⟩ ?_
  rintro s34 _ w40 r49 h50 hx51 ⟨a44, n45, c46, K38, rfl, hS41, hl39, hl42, hr43, hs47, hr48⟩
  refine wc_seq ?_
  refine sr ?_
  refine vm rfl rfl ?_
  refine wl_val wn rfl (rv_gtr rfl rfl) ?_
  refine nq ?_
  refine wc_cond rfl (fun hb52 => ?_) (fun hb52 => ?_)
  ·have h53 := cond_t hb52 h50
   refine wc_skip ?_
   refine qs ?_
   refine wc_block ?_
   refine wc_region ?_
   refine vm rfl rfl ?_
   refine vm rfl rfl ?_
   obtain ⟨r54, hx55, h56⟩ := ob h53
   refine wl_call wn rfl (rt_call (vs := [.pointer (some ⟨g1, 0, none⟩)]) co155 rfl) ((ok_spec_l30Raw F) (SH.enter (Lin := [_]) hS41) hs47 hr48 hx55) ?_
   rintro e66 w58 ⟨a61, n62, c63, K57, rfl, hS59, hl60, hs64, hr65⟩
   refine ⟨_, rfl, ?_⟩
   have hS67 : SH _ _ _ _ _ [_] := SH.call (Lin := [_]) hS41 hS59
   obtain ⟨x68, hx69, h70⟩ := ob h56
   refine wl_val wn rfl (rv_sadd rfl rfl hx69) ?_
   refine vm rfl rfl ?_
   refine wl_buildSlice (t := tStr) (n := 5) (pv := [(0, sv [32]), (1, sv [32]), (2, sv [44, 32]), (3, sv [45]), (4, sv [46, 32])]) (cs := [sv [32], sv [32], sv [44, 32], sv [45], sv [46, 32]]) (xs := [([32] : Str), ([32] : Str), ([44, 32] : Str), ([45] : Str), ([46, 32] : Str)]) wn rfl Try.underlying36 tf9 rfl rfl rfl (by kernel_rfl) rfl rfl (lit_cons (u := sv [32]) (z := ([32] : Str)) ⟨rfl, (by decide : ([32] : Str).length ≤ maxLen)⟩ (lit_cons (u := sv [32]) (z := ([32] : Str)) ⟨rfl, (by decide : ([32] : Str).length ≤ maxLen)⟩ (lit_cons (u := sv [44, 32]) (z := ([44, 32] : Str)) ⟨rfl, (by decide : ([44, 32] : Str).length ≤ maxLen)⟩ (lit_cons (u := sv [45]) (z := ([45] : Str)) ⟨rfl, (by decide : ([45] : Str).length ≤ maxLen)⟩ (lit_cons (u := sv [46, 32]) (z := ([46, 32] : Str)) ⟨rfl, (by decide : ([46, 32] : Str).length ≤ maxLen)⟩ lit_nil))))) hS67 ?_
   intro a71 w72 K73 hl74 hs75 hS76
   obtain ⟨r77, hx78, h79⟩ := ob h70
   have hS80 : SH _ _ _ _ _ [_, _] := SH.front (p := [_]) hS76
   refine wl_call wn rfl (rt_call (vs := [.pointer (some ⟨g1, 0, none⟩), .slice a71 5 5]) co38 rfl) ((ok_spec_l30Rd_of F) (SH.enter (Lin := [_]) hS80) (SliceAt.mono hl74 hs64) hr65 hs75 hx78) ?_
   rintro e90 w82 ⟨a85, n86, c87, K81, rfl, hS83, hl84, hs88, hr89⟩
   refine ⟨_, rfl, ?_⟩
   have hS91 : SH _ _ _ _ _ [_, _] := SH.call (Lin := [_]) hS80 hS83
   obtain ⟨x92, hx93, h94⟩ := ob h79
   refine wl_val wn rfl (rv_sadd rfl rfl hx93) ?_
   refine va rfl rfl ?_
   refine nb ?_
   refine qe_seq ?_
   refine wc_region ?_
   refine vm rfl rfl ?_
   refine wl_val wn rfl (rv_sub rfl rfl) ?_
   refine va rfl rfl ?_
   refine wl_nil ?_
   obtain rfl := oi h94
   have hS95 : SH _ _ _ _ _ [_] := SH.sublist hS91 (.cons_cons _ (.cons _ .slnil))
   exact qe_mid' ⟨_, rfl, a85, n86, c87, K81, rfl, hS95, (((hl39.trans hS59.le).trans hl74).trans hS83.le), (len_cat hx93), (w64_rng _), hs88, hr89⟩ ⟨rfl, rfl, rfl, trivial⟩
  ·have h53 := cond_f hb52 h50
   refine wc_exit ?_
   refine qe_then_exit ?_
   refine qe_then_exit ?_
   obtain rfl := oi h53
   have e96 := hx51 _ rfl
   subst e96
   refine qe_block_eq ?_
   obtain rfl := oi h37
   exact qe_mid' ⟨a44, n45, c46, K38, rfl, hS41, hl39, hl42, hs47, hr48⟩ ⟨rfl, rfl, trivial⟩
 ·rintro _ w26 ⟨a29, n30, c31, K24, rfl, hS27, hl25, hl28, hs32, hr33⟩
  refine qr ?_
  refine vm rfl rfl ?_
  refine va rfl rfl ?_
  refine nq ?_
  refine wc_ret ?_
  obtain rfl := oi h23
  exact qe_ret (vs := [_]) Try.results143 ⟨rfl, trivial⟩ ⟨a29, n30, c31, K24, rfl, hS27, hl28, hs32, hr33⟩

set_option maxHeartbeats 2000000 in
theorem ok_spec_l30Doc (F : Nat) {w : World} {K : KMap} {g1 : Nat} {a2 : Option Addr} {n3 c4 : Nat} {p0_r : GL30Rd} {p1_id : Int} {r : GDoc × GL30Rd} (hS : SH w K (List.flatMap Item.gs [obj g1 [.slice a2 n3 c4, .int .i64 p0_r.p_] 122]) w K [obj g1 [.slice a2 n3 c4, .int .i64 p0_r.p_] 122]) (hs5 : SliceAt tU8 K a2 n3 c4 p0_r.b_) (hr6 : rng64 p0_r.p_) (hr7 : rng64 p1_id) (hm : M.spec_l30Doc F p0_r p1_id = some r) :
  Calls Try.prog 111 #[.pointer (some ⟨g1, 0, none⟩), .int .i64 p1_id] w fun e w' => ∃ (a_2 : Option Addr) (n_3 c_4 : Nat) (a_6 : Option Addr) (n_7 c_8 : Nat) (a_10 : Option Addr) (n_11 c_12 : Nat) (K' : KMap), e = .returned (.agg #[.int .i64 r.1.Id, .slice a_2 n_3 c_4, .slice a_6 n_7 c_8]) ∧ SH w K (List.flatMap Item.gs [obj g1 [.slice a2 n3 c4, .int .i64 p0_r.p_] 122]) w' K' [tail (.slice a_2 n_3 c_4) 107 2, tail (.slice a_6 n_7 c_8) 133 2, obj g1 [.slice a_10 n_11 c_12, .int .i64 r.2.p_] 122] ∧ rng64 r.1.Id ∧ SliceAt tGField K' a_2 n_3 c_4 r.1.Fields ∧ SliceAt tGAttr K' a_6 n_7 c_8 r.1.Nums ∧ SliceAt tU8 K' a_10 n_11 c_12 r.2.b_ ∧ rng64 r.2.p_ := by
 rw [M.spec_l30Doc] at hm
 refine calls_in Try.func111 rfl Try.ntmps111 rfl ?_
 refine sr ?_
 refine wl_alloc wn rfl tf49 hS ?_
 intro g8 w9 hS10
 have hS11 : SH _ _ _ _ _ [obj g8 [.int .i64 0, .slice none 0 0, .slice none 0 0] 49, _] := hS10
 refine nr ?_
 refine vm rfl rfl ?_
 refine wl_val wn rfl (rv_build (cs := #[.int .i64 p1_id, .slice none 0 0, .slice none 0 0]) sp49 tf49 rfl (by kernel_rfl)) ?_
 refine wl_alloc wn rfl tf49 hS11 ?_
 intro g12 w13 hS14
 have hS15 : SH _ _ _ _ _ [obj g12 [.int .i64 0, .slice none 0 0, .slice none 0 0] 49, _, _] := hS14
 refine wl_store (cs' := [.int .i64 p1_id, .slice none 0 0, .slice none 0 0]) (v := .agg #[.int .i64 p1_id, .slice none 0 0, .slice none 0 0]) wn tf49 rfl rfl rfl (by simp [Value.cells, Value.oneCell']) hS15 rfl rfl ?_
 intro w16 hS17
 refine nsr ?_
 refine vm rfl rfl ?_
 obtain ⟨r18, hx19, h20⟩ := ob hm
 have hS21 : SH _ _ _ _ _ [_, _, _] := SH.front (p := [_, _]) hS17
 refine wl_call wn rfl (rt_call (vs := [.pointer (some ⟨g1, 0, none⟩), .int .i64 6]) co36 rfl) ((ok_spec_l30Rd_pick F) (SH.enter (Lin := [_]) hS21) hs5 hr6 (by decide : rng64 6) hx19) ?_
 rintro e31 w23 ⟨a26, n27, c28, K22, rfl, hS24, hr25, hs29, hr30⟩
 refine ⟨_, rfl, ?_⟩
 have hS32 : SH _ _ _ _ _ [_, _, _] := SH.call (Lin := [_]) hS21 hS24
 refine wl_val wn rfl (rv_gtr rfl rfl) ?_
 refine nq ?_
 obtain ⟨o33, h34, h35⟩ := ob h20
 refine wc_cutg (fun E' w' => ∃ (a40 : Option Addr) (n41 c42 : Nat) (a46 : Option Addr) (n47 c48 : Nat) (a50 : Option Addr) (n51 c52 : Nat) (K36 : KMap), E' = [(0, .pointer (some ⟨g1, 0, none⟩)), (4, .pointer (some ⟨g8, 0, none⟩)), (5, .pointer (some ⟨g12, 0, none⟩))] ∧ SH w K (List.flatMap Item.gs [obj g1 [.slice a2 n3 c4, .int .i64 p0_r.p_] 122]) w' K36 [obj g1 [.slice a40 n41 c42, .int .i64 o33.1.p_] 122, obj g8 [.int .i64 0, .slice none 0 0, .slice none 0 0] 49, obj g12 [.int .i64 o33.2.Id, .slice a46 n47 c48, .slice a50 n51 c52] 49, tail (.slice a46 n47 c48) 107 2, tail (.slice a50 n51 c52) 133 2] ∧ KLe K22 K36 ∧ SliceAt tU8 K36 a40 n41 c42 o33.1.b_ ∧ rng64 o33.1.p_ ∧ rng64 o33.2.Id ∧ SliceAt tGField K36 a46 n47 c48 o33.2.Fields ∧ SliceAt tGAttr K36 a50 n51 c52 o33.2.Nums) ?_ ?_
 ·refine wc_cond rfl (fun hb54 => ?_) (fun hb54 => ?_)
  ·have h55 := cond_t hb54 h34
   refine wc_held (fun w' => Holds K22 w') (fun w' => HasObj g12 [.int .i64 p1_id, .slice none 0 0, .slice none 0 0] w') 8 [(1, 6), (1, 7), (1, 8), (6, 7), (6, 8), (7, 8)] mixed ?_
   have hS57 := SH.drew hS32
   refine wg_val (i := 0) (listed' := #[true, false, false, false, false, false, false, false, false]) (fun _ => True) rfl (by kernel_rfl) (pk_then (pk_then pk_body)) (by kernel_rfl) rfl (by kernel_rfl) (by kernel_rfl) rfl (.inl fun _ _ => trivial) ⟨(hS57.hasK (KLe.refl _)), (fun _ => hS57.hasObj (.tail _ (.head _))), by decide⟩ wn rfl (fun _ _ => (rv_fieldAddr ff49_1 rfl)) ?_
   refine wg_val (i := 1) (listed' := #[true, true, false, false, false, false, false, false, false]) (HasObj g12 [.int .i64 p1_id, .slice none 0 0, .slice none 0 0]) rfl (by kernel_rfl) (pk_then (pk_then pk_body)) (by kernel_rfl) rfl (by kernel_rfl) (by kernel_rfl) rfl (.inr ⟨rfl, fun _ _ h => h⟩) ⟨(hS57.hasK (KLe.refl _)), (fun _ => hS57.hasObj (.tail _ (.head _))), by decide⟩ wn rfl (fun _ h => rh_loadm1 tf46 rfl rfl h) ?_
   refine wg_val (i := 2) (listed' := #[true, true, true, false, false, false, false, false, false]) (fun _ => True) rfl (by kernel_rfl) (pk_then (pk_then pk_body)) (by kernel_rfl) rfl (by kernel_rfl) (by kernel_rfl) rfl (.inl fun _ _ => trivial) ⟨(hS57.hasK (KLe.refl _)), (fun _ => hS57.hasObj (.tail _ (.head _))), by decide⟩ wn rfl (fun _ _ => (rv_move rfl)) ?_
   refine wg_one (i := 3) (by kernel_rfl) rfl ?_
   obtain ⟨r58, hx59, h60⟩ := ob h55
   refine wl_call wn rfl (rt_call (vs := [.pointer (some ⟨g1, 0, none⟩)]) co143 rfl) ((ok_spec_l30Text F) (SH.enter (Lin := [_]) hS57) hs29 hr30 hx59) ?_
   rintro e70 w62 ⟨a65, n66, c67, K61, rfl, hS63, hl64, hs68, hr69⟩
   refine ⟨_, rfl, ?_⟩
   have hS71 : SH _ _ _ _ _ [_, _, _] := SH.call (Lin := [_]) hS57 hS63
   refine wl_nil (qe_held (listed' := #[true, true, true, true, false, false, false, false, false]) rfl ⟨(hS71.hasK hS63.le), (fun _ => hS71.hasObj (.tail _ (.head _))), by decide⟩ ?_)
   refine wg_val (i := 4) (listed' := #[true, true, true, true, true, false, false, false, false]) (fun _ => True) rfl (by kernel_rfl) (pk_then (pk_then pk_body)) (by kernel_rfl) rfl (by kernel_rfl) (by kernel_rfl) rfl (.inl fun _ _ => trivial) ⟨(hS71.hasK hS63.le), (fun _ => hS71.hasObj (.tail _ (.head _))), by decide⟩ wn rfl (fun _ _ => (rv_build (cs := #[sv [98, 111, 100, 121], sv r58.1]) sp107 tf107 rfl (by kernel_rfl))) ?_
   refine wg_one (i := 5) (by kernel_rfl) rfl ?_
   refine wl_buildSlice (t := tGField) (n := 1) (pv := [(0, .agg #[sv [98, 111, 100, 121], sv r58.1])]) (cs := [sv [98, 111, 100, 121], sv r58.1]) (xs := [(GField.mk ([98, 111, 100, 121] : Str) r58.1)]) wn rfl Try.underlying46 tf107 rfl rfl rfl (by kernel_rfl) rfl rfl (lit_cons (u := .agg #[sv [98, 111, 100, 121], sv r58.1]) (z := (GField.mk ([98, 111, 100, 121] : Str) r58.1)) ⟨rfl, (by decide : ([98, 111, 100, 121] : Str).length ≤ maxLen), hl64⟩ lit_nil) hS71 ?_
   intro a72 w73 K74 hl75 hs76 hS77
   refine wl_nil (qe_held (listed' := #[true, true, true, true, true, true, false, false, false]) rfl ⟨(hS77.hasK (hS63.le.trans hl75)), (fun _ => hS77.hasObj (.tail _ (.tail _ (.head _)))), by decide⟩ ?_)
   refine wg_one (i := 6) (by kernel_rfl) rfl ?_
   have hS78 := SH.nil hS77 107 2
   obtain ⟨x79, hx80, h81⟩ := ob h60
   refine wl_append (t := tGField) wn rfl Try.underlying46 tf107 rfl rfl rfl rfl rfl (SliceAt.nil _ _) hs76 hx80 hS78 ?_
   intro a82 n83 c84 w85 K86 hl87 hs88 hS89
   refine wl_nil (qe_held (listed' := #[true, true, true, true, true, true, true, false, false]) rfl ⟨(hS89.hasK ((hS63.le.trans hl75).trans hl87)), (fun _ => hS89.hasObj (.tail _ (.tail _ (.tail _ (.head _))))), by decide⟩ ?_)
   refine wg_val (i := 7) (listed' := #[true, true, true, true, true, true, true, true, false]) (fun _ => True) rfl (by kernel_rfl) (pk_then (pk_then pk_body)) (by kernel_rfl) rfl (by kernel_rfl) (by kernel_rfl) rfl (.inl fun _ _ => trivial) ⟨(hS89.hasK ((hS63.le.trans hl75).trans hl87)), (fun _ => hS89.hasObj (.tail _ (.tail _ (.tail _ (.head _))))), by decide⟩ wn rfl (fun _ _ => (rv_fieldAddr ff49_1 rfl)) ?_
   refine wg_one (i := 8) (by kernel_rfl) rfl ?_
   have hS90 : SH _ _ _ _ _ [_, _, _, _, _] := SH.front (p := [_, _, _]) hS89
   refine wl_store (cs' := [.int .i64 p1_id, .slice a82 n83 c84, .slice none 0 0]) (v := .slice a82 n83 c84) wn tf46 rfl rfl rfl (by simp [Value.cells, Value.oneCell']) hS90 rfl rfl ?_
   intro w91 hS92
   refine wl_nil (qe_held (listed' := #[true, true, true, true, true, true, true, true, true]) rfl ⟨(hS92.hasK ((hS63.le.trans hl75).trans hl87)), (fun h => nomatch h), by decide⟩ ?_)
   refine wg_done (by kernel_rfl) ?_
   obtain rfl := oi h81
   have hS93 := SH.nil hS92 133 2
   have hS94 : SH _ _ _ _ _ [_, _, _, _, _, _] := SH.front (p := [_, _]) hS93
   have hS95 : SH _ _ _ _ _ [_, _, _, _, _, _] := SH.front (p := [_, _]) hS94
   have hS96 : SH _ _ _ _ _ [_, _, _, _, _, _] := SH.front (p := [_, _, _, _, _]) hS95
   have hS97 : SH _ _ _ _ _ [_, _, _, _, _, _] := SH.front (p := [_, _, _, _, _]) hS96
   have hS98 : SH _ _ _ _ _ [_, _, _, _, _] := SH.sublist hS97 (.cons_cons _ (.cons_cons _ (.cons_cons _ (.cons_cons _ (.cons_cons _ (.cons _ .slnil))))))
   exact qe_mid' ⟨a65, n66, c67, a82, n83, c84, none, 0, 0, K86, rfl, hS98, ((hS63.le.trans hl75).trans hl87), (SliceAt.mono (hl75.trans hl87) hs68), hr69, hr7, hs88, (SliceAt.nil _ _)⟩ ⟨rfl, rfl, rfl, trivial⟩
  ·have h55 := cond_f hb54 h34
   refine wc_skip ?_
   obtain rfl := oi h55
   have hS99 := SH.nil hS32 107 2
   have hS100 := SH.nil hS99 133 2
   have hS101 : SH _ _ _ _ _ [_, _, _, _, _] := SH.front (p := [_]) hS100
   have hS102 : SH _ _ _ _ _ [_, _, _, _, _] := SH.front (p := [_, _, _]) hS101
   have hS103 : SH _ _ _ _ _ [_, _, _, _, _] := SH.front (p := [_, _, _, _]) hS102
   have hS104 : SH _ _ _ _ _ [_, _, _, _, _] := SH.front (p := [_, _, _, _]) hS103
   exact qe_mid' ⟨a26, n27, c28, none, 0, 0, none, 0, 0, K22, rfl, hS104, (KLe.refl _), hs29, hr30, hr7, (SliceAt.nil _ _), (SliceAt.nil _ _)⟩ ⟨rfl, rfl, rfl, trivial⟩
 ·rintro _ w38 ⟨a40, n41, c42, a46, n47, c48, a50, n51, c52, K36, rfl, hS39, hl37, hs43, hr44, hr45, hs49, hs53⟩
  refine qs ?_
  refine sr ?_
  refine vm rfl rfl ?_
  obtain ⟨r105, hx106, h107⟩ := ob h35
  refine wl_call wn rfl (rt_call (vs := [.pointer (some ⟨g1, 0, none⟩), .int .i64 3]) co36 rfl) ((ok_spec_l30Rd_pick F) (SH.enter (Lin := [_]) hS39) hs43 hr44 (by decide : rng64 3) hx106) ?_
  rintro e117 w109 ⟨a112, n113, c114, K108, rfl, hS110, hr111, hs115, hr116⟩
  refine ⟨_, rfl, ?_⟩
  have hS118 : SH _ _ _ _ _ [_, _, _, _, _] := SH.call (Lin := [_]) hS39 hS110
  refine wl_val wn rfl (rv_eql rfl rfl) ?_
  refine nq ?_
  obtain ⟨o119, h120, h121⟩ := ob h107
  refine wc_cutg (fun E' w' => ∃ (a126 : Option Addr) (n127 c128 : Nat) (a132 : Option Addr) (n133 c134 : Nat) (a136 : Option Addr) (n137 c138 : Nat) (K122 : KMap), E' = [(0, .pointer (some ⟨g1, 0, none⟩)), (4, .pointer (some ⟨g8, 0, none⟩)), (5, .pointer (some ⟨g12, 0, none⟩))] ∧ SH w K (List.flatMap Item.gs [obj g1 [.slice a2 n3 c4, .int .i64 p0_r.p_] 122]) w' K122 [obj g1 [.slice a126 n127 c128, .int .i64 o119.1.p_] 122, obj g8 [.int .i64 0, .slice none 0 0, .slice none 0 0] 49, obj g12 [.int .i64 o119.2.Id, .slice a132 n133 c134, .slice a136 n137 c138] 49, tail (.slice a132 n133 c134) 107 2, tail (.slice a136 n137 c138) 133 2] ∧ KLe K108 K122 ∧ SliceAt tU8 K122 a126 n127 c128 o119.1.b_ ∧ rng64 o119.1.p_ ∧ rng64 o119.2.Id ∧ SliceAt tGField K122 a132 n133 c134 o119.2.Fields ∧ SliceAt tGAttr K122 a136 n137 c138 o119.2.Nums) ?_ ?_
  ·refine wc_cond rfl (fun hb140 => ?_) (fun hb140 => ?_)
   ·have h141 := cond_t hb140 h120
    refine wc_held (fun w' => Holds K108 w') (fun w' => HasObj g12 [.int .i64 o33.2.Id, .slice a46 n47 c48, .slice a50 n51 c52] w') 8 [(1, 6), (1, 7), (1, 8), (6, 7), (6, 8), (7, 8)] mixed ?_
    have hS143 := SH.drew hS118
    refine wg_val (i := 0) (listed' := #[true, false, false, false, false, false, false, false, false]) (fun _ => True) rfl (by kernel_rfl) (pk_then (pk_then pk_body)) (by kernel_rfl) rfl (by kernel_rfl) (by kernel_rfl) rfl (.inl fun _ _ => trivial) ⟨(hS143.hasK (KLe.refl _)), (fun _ => hS143.hasObj (.tail _ (.tail _ (.head _)))), by decide⟩ wn rfl (fun _ _ => (rv_fieldAddr ff49_1 rfl)) ?_
    refine wg_val (i := 1) (listed' := #[true, true, false, false, false, false, false, false, false]) (HasObj g12 [.int .i64 o33.2.Id, .slice a46 n47 c48, .slice a50 n51 c52]) rfl (by kernel_rfl) (pk_then (pk_then pk_body)) (by kernel_rfl) rfl (by kernel_rfl) (by kernel_rfl) rfl (.inr ⟨rfl, fun _ _ h => h⟩) ⟨(hS143.hasK (KLe.refl _)), (fun _ => hS143.hasObj (.tail _ (.tail _ (.head _)))), by decide⟩ wn rfl (fun _ h => rh_loadm1 tf46 rfl rfl h) ?_
    refine wg_val (i := 2) (listed' := #[true, true, true, false, false, false, false, false, false]) (fun _ => True) rfl (by kernel_rfl) (pk_then (pk_then pk_body)) (by kernel_rfl) rfl (by kernel_rfl) (by kernel_rfl) rfl (.inl fun _ _ => trivial) ⟨(hS143.hasK (KLe.refl _)), (fun _ => hS143.hasObj (.tail _ (.tail _ (.head _)))), by decide⟩ wn rfl (fun _ _ => (rv_move rfl)) ?_
    refine wg_one (i := 3) (by kernel_rfl) rfl ?_
    obtain ⟨r144, hx145, h146⟩ := ob h141
    refine wl_call wn rfl (rt_call (vs := [.pointer (some ⟨g1, 0, none⟩)]) co143 rfl) ((ok_spec_l30Text F) (SH.enter (Lin := [_]) hS143) hs115 hr116 hx145) ?_
    rintro e156 w148 ⟨a151, n152, c153, K147, rfl, hS149, hl150, hs154, hr155⟩
    refine ⟨_, rfl, ?_⟩
    have hS157 : SH _ _ _ _ _ [_, _, _, _, _] := SH.call (Lin := [_]) hS143 hS149
    refine wl_nil (qe_held (listed' := #[true, true, true, true, false, false, false, false, false]) rfl ⟨(hS157.hasK hS149.le), (fun _ => hS157.hasObj (.tail _ (.tail _ (.head _)))), by decide⟩ ?_)
    refine wg_val (i := 4) (listed' := #[true, true, true, true, true, false, false, false, false]) (fun _ => True) rfl (by kernel_rfl) (pk_then (pk_then pk_body)) (by kernel_rfl) rfl (by kernel_rfl) (by kernel_rfl) rfl (.inl fun _ _ => trivial) ⟨(hS157.hasK hS149.le), (fun _ => hS157.hasObj (.tail _ (.tail _ (.head _)))), by decide⟩ wn rfl (fun _ _ => (rv_build (cs := #[sv [116, 105, 116, 108, 101], sv r144.1]) sp107 tf107 rfl (by kernel_rfl))) ?_
    refine wg_one (i := 5) (by kernel_rfl) rfl ?_
    refine wl_buildSlice (t := tGField) (n := 1) (pv := [(0, .agg #[sv [116, 105, 116, 108, 101], sv r144.1])]) (cs := [sv [116, 105, 116, 108, 101], sv r144.1]) (xs := [(GField.mk ([116, 105, 116, 108, 101] : Str) r144.1)]) wn rfl Try.underlying46 tf107 rfl rfl rfl (by kernel_rfl) rfl rfl (lit_cons (u := .agg #[sv [116, 105, 116, 108, 101], sv r144.1]) (z := (GField.mk ([116, 105, 116, 108, 101] : Str) r144.1)) ⟨rfl, (by decide : ([116, 105, 116, 108, 101] : Str).length ≤ maxLen), hl150⟩ lit_nil) hS157 ?_
    intro a158 w159 K160 hl161 hs162 hS163
    refine wl_nil (qe_held (listed' := #[true, true, true, true, true, true, false, false, false]) rfl ⟨(hS163.hasK (hS149.le.trans hl161)), (fun _ => hS163.hasObj (.tail _ (.tail _ (.tail _ (.head _))))), by decide⟩ ?_)
    refine wg_one (i := 6) (by kernel_rfl) rfl ?_
    have hS164 : SH _ _ _ _ _ [_, _, _, _, _, _] := SH.front (p := [_, _, _, _]) hS163
    obtain ⟨x165, hx166, h167⟩ := ob h146
    refine wl_append (t := tGField) wn rfl Try.underlying46 tf107 rfl rfl rfl rfl rfl (SliceAt.mono ((hS110.le.trans hS149.le).trans hl161) hs49) hs162 hx166 hS164 ?_
    intro a168 n169 c170 w171 K172 hl173 hs174 hS175
    refine wl_nil (qe_held (listed' := #[true, true, true, true, true, true, true, false, false]) rfl ⟨(hS175.hasK ((hS149.le.trans hl161).trans hl173)), (fun _ => hS175.hasObj (.tail _ (.tail _ (.tail _ (.tail _ (.head _)))))), by decide⟩ ?_)
    refine wg_val (i := 7) (listed' := #[true, true, true, true, true, true, true, true, false]) (fun _ => True) rfl (by kernel_rfl) (pk_then (pk_then pk_body)) (by kernel_rfl) rfl (by kernel_rfl) (by kernel_rfl) rfl (.inl fun _ _ => trivial) ⟨(hS175.hasK ((hS149.le.trans hl161).trans hl173)), (fun _ => hS175.hasObj (.tail _ (.tail _ (.tail _ (.tail _ (.head _)))))), by decide⟩ wn rfl (fun _ _ => (rv_fieldAddr ff49_1 rfl)) ?_
    refine wg_one (i := 8) (by kernel_rfl) rfl ?_
    have hS176 : SH _ _ _ _ _ [_, _, _, _, _, _] := SH.front (p := [_, _, _, _]) hS175
    refine wl_store (cs' := [.int .i64 o33.2.Id, .slice a168 n169 c170, .slice a50 n51 c52]) (v := .slice a168 n169 c170) wn tf46 rfl rfl rfl (by simp [Value.cells, Value.oneCell']) hS176 rfl rfl ?_
    intro w177 hS178
    refine wl_nil (qe_held (listed' := #[true, true, true, true, true, true, true, true, true]) rfl ⟨(hS178.hasK ((hS149.le.trans hl161).trans hl173)), (fun h => nomatch h), by decide⟩ ?_)
    refine wg_done (by kernel_rfl) ?_
    obtain rfl := oi h167
    have hS179 : SH _ _ _ _ _ [_, _, _, _, _, _] := SH.front (p := [_, _, _, _, _]) hS178
    have hS180 : SH _ _ _ _ _ [_, _, _, _, _, _] := SH.front (p := [_, _]) hS179
    have hS181 : SH _ _ _ _ _ [_, _, _, _, _, _] := SH.front (p := [_, _]) hS180
    have hS182 : SH _ _ _ _ _ [_, _, _, _, _, _] := SH.front (p := [_, _, _, _, _]) hS181
    have hS183 : SH _ _ _ _ _ [_, _, _, _, _, _] := SH.front (p := [_, _, _, _, _]) hS182
    have hS184 : SH _ _ _ _ _ [_, _, _, _, _] := SH.sublist hS183 (.cons_cons _ (.cons_cons _ (.cons_cons _ (.cons_cons _ (.cons_cons _ (.cons _ .slnil))))))
    exact qe_mid' ⟨a151, n152, c153, a168, n169, c170, a50, n51, c52, K172, rfl, hS184, ((hS149.le.trans hl161).trans hl173), (SliceAt.mono (hl161.trans hl173) hs154), hr155, hr45, hs174, (SliceAt.mono (((hS110.le.trans hS149.le).trans hl161).trans hl173) hs53)⟩ ⟨rfl, rfl, rfl, trivial⟩
   ·have h141 := cond_f hb140 h120
    refine wc_skip ?_
    obtain rfl := oi h141
    exact qe_mid' ⟨a112, n113, c114, a46, n47, c48, a50, n51, c52, K108, rfl, hS118, (KLe.refl _), hs115, hr116, hr45, (SliceAt.mono hS110.le hs49), (SliceAt.mono hS110.le hs53)⟩ ⟨rfl, rfl, rfl, trivial⟩
  ·rintro _ w124 ⟨a126, n127, c128, a132, n133, c134, a136, n137, c138, K122, rfl, hS125, hl123, hs129, hr130, hr131, hs135, hs139⟩
   refine qs ?_
   refine sr ?_
   refine vm rfl rfl ?_
   obtain ⟨r185, hx186, h187⟩ := ob h121
   refine wl_call wn rfl (rt_call (vs := [.pointer (some ⟨g1, 0, none⟩), .int .i64 3]) co36 rfl) ((ok_spec_l30Rd_pick F) (SH.enter (Lin := [_]) hS125) hs129 hr130 (by decide : rng64 3) hx186) ?_
   rintro e197 w189 ⟨a192, n193, c194, K188, rfl, hS190, hr191, hs195, hr196⟩
   refine ⟨_, rfl, ?_⟩
   have hS198 : SH _ _ _ _ _ [_, _, _, _, _] := SH.call (Lin := [_]) hS125 hS190
   refine wl_val wn rfl (rv_gtr rfl rfl) ?_
   refine nq ?_
   obtain ⟨o199, h200, h201⟩ := ob h187
   refine wc_cutg (fun E' w' => ∃ (a206 : Option Addr) (n207 c208 : Nat) (a212 : Option Addr) (n213 c214 : Nat) (a216 : Option Addr) (n217 c218 : Nat) (K202 : KMap), E' = [(0, .pointer (some ⟨g1, 0, none⟩)), (4, .pointer (some ⟨g8, 0, none⟩)), (5, .pointer (some ⟨g12, 0, none⟩))] ∧ SH w K (List.flatMap Item.gs [obj g1 [.slice a2 n3 c4, .int .i64 p0_r.p_] 122]) w' K202 [obj g1 [.slice a206 n207 c208, .int .i64 o199.1.p_] 122, obj g8 [.int .i64 0, .slice none 0 0, .slice none 0 0] 49, obj g12 [.int .i64 o199.2.Id, .slice a212 n213 c214, .slice a216 n217 c218] 49, tail (.slice a212 n213 c214) 107 2, tail (.slice a216 n217 c218) 133 2] ∧ KLe K188 K202 ∧ SliceAt tU8 K202 a206 n207 c208 o199.1.b_ ∧ rng64 o199.1.p_ ∧ rng64 o199.2.Id ∧ SliceAt tGField K202 a212 n213 c214 o199.2.Fields ∧ SliceAt tGAttr K202 a216 n217 c218 o199.2.Nums) ?_ ?_
   ·refine wc_cond rfl (fun hb220 => ?_) (fun hb220 => ?_)
    ·have h221 := cond_t hb220 h200
     refine wc_held (fun w' => Holds K188 w') (fun w' => HasObj g12 [.int .i64 o119.2.Id, .slice a132 n133 c134, .slice a136 n137 c138] w') 8 [(1, 6), (1, 7), (1, 8), (6, 7), (6, 8), (7, 8)] mixed ?_
     have hS223 := SH.drew hS198
     refine wg_val (i := 0) (listed' := #[true, false, false, false, false, false, false, false, false]) (fun _ => True) rfl (by kernel_rfl) (pk_then (pk_then pk_body)) (by kernel_rfl) rfl (by kernel_rfl) (by kernel_rfl) rfl (.inl fun _ _ => trivial) ⟨(hS223.hasK (KLe.refl _)), (fun _ => hS223.hasObj (.tail _ (.tail _ (.head _)))), by decide⟩ wn rfl (fun _ _ => (rv_fieldAddr ff49_2 rfl)) ?_
     refine wg_val (i := 1) (listed' := #[true, true, false, false, false, false, false, false, false]) (HasObj g12 [.int .i64 o119.2.Id, .slice a132 n133 c134, .slice a136 n137 c138]) rfl (by kernel_rfl) (pk_then (pk_then pk_body)) (by kernel_rfl) rfl (by kernel_rfl) (by kernel_rfl) rfl (.inr ⟨rfl, fun _ _ h => h⟩) ⟨(hS223.hasK (KLe.refl _)), (fun _ => hS223.hasObj (.tail _ (.tail _ (.head _)))), by decide⟩ wn rfl (fun _ h => rh_loadm1 tf47 rfl rfl h) ?_
     refine wg_val (i := 2) (listed' := #[true, true, true, false, false, false, false, false, false]) (fun _ => True) rfl (by kernel_rfl) (pk_then (pk_then pk_body)) (by kernel_rfl) rfl (by kernel_rfl) (by kernel_rfl) rfl (.inl fun _ _ => trivial) ⟨(hS223.hasK (KLe.refl _)), (fun _ => hS223.hasObj (.tail _ (.tail _ (.head _)))), by decide⟩ wn rfl (fun _ _ => (rv_move rfl)) ?_
     refine wg_one (i := 3) (by kernel_rfl) rfl ?_
     obtain ⟨r224, hx225, h226⟩ := ob h221
     refine wl_call wn rfl (rt_call (vs := [.pointer (some ⟨g1, 0, none⟩), .int .i64 4]) co36 rfl) ((ok_spec_l30Rd_pick F) (SH.enter (Lin := [_]) hS223) hs195 hr196 (by decide : rng64 4) hx225) ?_
     rintro e236 w228 ⟨a231, n232, c233, K227, rfl, hS229, hr230, hs234, hr235⟩
     refine ⟨_, rfl, ?_⟩
     have hS237 : SH _ _ _ _ _ [_, _, _, _, _] := SH.call (Lin := [_]) hS223 hS229
     refine wl_nil (qe_held (listed' := #[true, true, true, true, false, false, false, false, false]) rfl ⟨(hS237.hasK hS229.le), (fun _ => hS237.hasObj (.tail _ (.tail _ (.head _)))), by decide⟩ ?_)
     refine wg_val (i := 4) (listed' := #[true, true, true, true, true, false, false, false, false]) (fun _ => True) rfl (by kernel_rfl) (pk_then (pk_then pk_body)) (by kernel_rfl) rfl (by kernel_rfl) (by kernel_rfl) rfl (.inl fun _ _ => trivial) ⟨(hS237.hasK hS229.le), (fun _ => hS237.hasObj (.tail _ (.tail _ (.head _)))), by decide⟩ wn rfl (fun _ _ => (rv_build (cs := #[sv [114, 97, 116, 101], .int .i64 r224.1]) sp133 tf133 rfl (by kernel_rfl))) ?_
     refine wg_one (i := 5) (by kernel_rfl) rfl ?_
     refine wl_buildSlice (t := tGAttr) (n := 1) (pv := [(0, .agg #[sv [114, 97, 116, 101], .int .i64 r224.1])]) (cs := [sv [114, 97, 116, 101], .int .i64 r224.1]) (xs := [(GAttr.mk ([114, 97, 116, 101] : Str) r224.1)]) wn rfl Try.underlying47 tf133 rfl rfl rfl (by kernel_rfl) rfl rfl (lit_cons (u := .agg #[sv [114, 97, 116, 101], .int .i64 r224.1]) (z := (GAttr.mk ([114, 97, 116, 101] : Str) r224.1)) ⟨rfl, (by decide : ([114, 97, 116, 101] : Str).length ≤ maxLen), hr230⟩ lit_nil) hS237 ?_
     intro a238 w239 K240 hl241 hs242 hS243
     refine wl_nil (qe_held (listed' := #[true, true, true, true, true, true, false, false, false]) rfl ⟨(hS243.hasK (hS229.le.trans hl241)), (fun _ => hS243.hasObj (.tail _ (.tail _ (.tail _ (.head _))))), by decide⟩ ?_)
     refine wg_one (i := 6) (by kernel_rfl) rfl ?_
     have hS244 : SH _ _ _ _ _ [_, _, _, _, _, _] := SH.front (p := [_, _, _, _, _]) hS243
     obtain ⟨x245, hx246, h247⟩ := ob h226
     refine wl_append (t := tGAttr) wn rfl Try.underlying47 tf133 rfl rfl rfl rfl rfl (SliceAt.mono ((hS190.le.trans hS229.le).trans hl241) hs139) hs242 hx246 hS244 ?_
     intro a248 n249 c250 w251 K252 hl253 hs254 hS255
     refine wl_nil (qe_held (listed' := #[true, true, true, true, true, true, true, false, false]) rfl ⟨(hS255.hasK ((hS229.le.trans hl241).trans hl253)), (fun _ => hS255.hasObj (.tail _ (.tail _ (.tail _ (.tail _ (.head _)))))), by decide⟩ ?_)
     refine wg_val (i := 7) (listed' := #[true, true, true, true, true, true, true, true, false]) (fun _ => True) rfl (by kernel_rfl) (pk_then (pk_then pk_body)) (by kernel_rfl) rfl (by kernel_rfl) (by kernel_rfl) rfl (.inl fun _ _ => trivial) ⟨(hS255.hasK ((hS229.le.trans hl241).trans hl253)), (fun _ => hS255.hasObj (.tail _ (.tail _ (.tail _ (.tail _ (.head _)))))), by decide⟩ wn rfl (fun _ _ => (rv_fieldAddr ff49_2 rfl)) ?_
     refine wg_one (i := 8) (by kernel_rfl) rfl ?_
     have hS256 : SH _ _ _ _ _ [_, _, _, _, _, _] := SH.front (p := [_, _, _, _]) hS255
     refine wl_store (cs' := [.int .i64 o119.2.Id, .slice a132 n133 c134, .slice a248 n249 c250]) (v := .slice a248 n249 c250) wn tf47 rfl rfl rfl (by simp [Value.cells, Value.oneCell']) hS256 rfl rfl ?_
     intro w257 hS258
     refine wl_nil (qe_held (listed' := #[true, true, true, true, true, true, true, true, true]) rfl ⟨(hS258.hasK ((hS229.le.trans hl241).trans hl253)), (fun h => nomatch h), by decide⟩ ?_)
     refine wg_done (by kernel_rfl) ?_
     obtain rfl := oi h247
     have hS259 : SH _ _ _ _ _ [_, _, _, _, _, _] := SH.front (p := [_]) hS258
     have hS260 : SH _ _ _ _ _ [_, _, _, _, _, _] := SH.front (p := [_, _, _, _, _]) hS259
     have hS261 : SH _ _ _ _ _ [_, _, _, _, _, _] := SH.front (p := [_, _]) hS260
     have hS262 : SH _ _ _ _ _ [_, _, _, _, _, _] := SH.front (p := [_, _, _, _, _]) hS261
     have hS263 : SH _ _ _ _ _ [_, _, _, _, _, _] := SH.front (p := [_, _, _, _, _]) hS262
     have hS264 : SH _ _ _ _ _ [_, _, _, _, _] := SH.sublist hS263 (.cons_cons _ (.cons_cons _ (.cons_cons _ (.cons_cons _ (.cons_cons _ (.cons _ .slnil))))))
     exact qe_mid' ⟨a231, n232, c233, a132, n133, c134, a248, n249, c250, K252, rfl, hS264, ((hS229.le.trans hl241).trans hl253), (SliceAt.mono (hl241.trans hl253) hs234), hr235, hr131, (SliceAt.mono (((hS190.le.trans hS229.le).trans hl241).trans hl253) hs135), hs254⟩ ⟨rfl, rfl, rfl, trivial⟩
    ·have h221 := cond_f hb220 h200
     refine wc_skip ?_
     obtain rfl := oi h221
     exact qe_mid' ⟨a192, n193, c194, a132, n133, c134, a136, n137, c138, K188, rfl, hS198, (KLe.refl _), hs195, hr196, hr131, (SliceAt.mono hS190.le hs135), (SliceAt.mono hS190.le hs139)⟩ ⟨rfl, rfl, rfl, trivial⟩
   ·rintro _ w204 ⟨a206, n207, c208, a212, n213, c214, a216, n217, c218, K202, rfl, hS205, hl203, hs209, hr210, hr211, hs215, hs219⟩
    refine qs ?_
    refine sr ?_
    refine vm rfl rfl ?_
    obtain ⟨r265, hx266, h267⟩ := ob h201
    refine wl_call wn rfl (rt_call (vs := [.pointer (some ⟨g1, 0, none⟩), .int .i64 3]) co36 rfl) ((ok_spec_l30Rd_pick F) (SH.enter (Lin := [_]) hS205) hs209 hr210 (by decide : rng64 3) hx266) ?_
    rintro e277 w269 ⟨a272, n273, c274, K268, rfl, hS270, hr271, hs275, hr276⟩
    refine ⟨_, rfl, ?_⟩
    have hS278 : SH _ _ _ _ _ [_, _, _, _, _] := SH.call (Lin := [_]) hS205 hS270
    refine wl_val wn rfl (rv_eql rfl rfl) ?_
    refine nq ?_
    refine wc_cond rfl (fun hb279 => ?_) (fun hb279 => ?_)
    ·have h280 := cond_t hb279 h267
     refine wc_held (fun w' => Holds K268 w') (fun w' => HasObj g12 [.int .i64 o199.2.Id, .slice a212 n213 c214, .slice a216 n217 c218] w') 9 [(1, 7), (1, 8), (1, 9), (7, 8), (7, 9), (8, 9)] mixed ?_
     have hS282 := SH.drew hS278
     refine wg_val (i := 0) (listed' := #[true, false, false, false, false, false, false, false, false, false]) (fun _ => True) rfl (by kernel_rfl) (pk_then pk_body) (by kernel_rfl) rfl (by kernel_rfl) (by kernel_rfl) rfl (.inl fun _ _ => trivial) ⟨(hS282.hasK (KLe.refl _)), (fun _ => hS282.hasObj (.tail _ (.tail _ (.head _)))), by decide⟩ wn rfl (fun _ _ => (rv_fieldAddr ff49_2 rfl)) ?_
     refine wg_val (i := 1) (listed' := #[true, true, false, false, false, false, false, false, false, false]) (HasObj g12 [.int .i64 o199.2.Id, .slice a212 n213 c214, .slice a216 n217 c218]) rfl (by kernel_rfl) (pk_then pk_body) (by kernel_rfl) rfl (by kernel_rfl) (by kernel_rfl) rfl (.inr ⟨rfl, fun _ _ h => h⟩) ⟨(hS282.hasK (KLe.refl _)), (fun _ => hS282.hasObj (.tail _ (.tail _ (.head _)))), by decide⟩ wn rfl (fun _ h => rh_loadm1 tf47 rfl rfl h) ?_
     refine wg_val (i := 2) (listed' := #[true, true, true, false, false, false, false, false, false, false]) (fun _ => True) rfl (by kernel_rfl) (pk_then pk_body) (by kernel_rfl) rfl (by kernel_rfl) (by kernel_rfl) rfl (.inl fun _ _ => trivial) ⟨(hS282.hasK (KLe.refl _)), (fun _ => hS282.hasObj (.tail _ (.tail _ (.head _)))), by decide⟩ wn rfl (fun _ _ => (rv_move rfl)) ?_
     refine wg_one (i := 3) (by kernel_rfl) rfl ?_
     obtain ⟨r283, hx284, h285⟩ := ob h280
     refine wl_call wn rfl (rt_call (vs := [.pointer (some ⟨g1, 0, none⟩), .int .i64 30]) co36 rfl) ((ok_spec_l30Rd_pick F) (SH.enter (Lin := [_]) hS282) hs275 hr276 (by decide : rng64 30) hx284) ?_
     rintro e295 w287 ⟨a290, n291, c292, K286, rfl, hS288, hr289, hs293, hr294⟩
     refine ⟨_, rfl, ?_⟩
     have hS296 : SH _ _ _ _ _ [_, _, _, _, _] := SH.call (Lin := [_]) hS282 hS288
     refine wl_nil (qe_held (listed' := #[true, true, true, true, false, false, false, false, false, false]) rfl ⟨(hS296.hasK hS288.le), (fun _ => hS296.hasObj (.tail _ (.tail _ (.head _)))), by decide⟩ ?_)
     refine wg_val (i := 4) (listed' := #[true, true, true, true, true, false, false, false, false, false]) (fun _ => True) rfl (by kernel_rfl) (pk_then pk_body) (by kernel_rfl) rfl (by kernel_rfl) (by kernel_rfl) rfl (.inl fun _ _ => trivial) ⟨(hS296.hasK hS288.le), (fun _ => hS296.hasObj (.tail _ (.tail _ (.head _)))), by decide⟩ wn rfl (fun _ _ => (rv_add rfl rfl)) ?_
     refine wg_val (i := 5) (listed' := #[true, true, true, true, true, true, false, false, false, false]) (fun _ => True) rfl (by kernel_rfl) (pk_then pk_body) (by kernel_rfl) rfl (by kernel_rfl) (by kernel_rfl) rfl (.inl fun _ _ => trivial) ⟨(hS296.hasK hS288.le), (fun _ => hS296.hasObj (.tail _ (.tail _ (.head _)))), by decide⟩ wn rfl (fun _ _ => (rv_build (cs := #[sv [121, 101, 97, 114], .int .i64 (w64 ((2000 : Int) + r283.1))]) sp133 tf133 rfl (by kernel_rfl))) ?_
     refine wg_one (i := 6) (by kernel_rfl) rfl ?_
     refine wl_buildSlice (t := tGAttr) (n := 1) (pv := [(0, .agg #[sv [121, 101, 97, 114], .int .i64 (w64 ((2000 : Int) + r283.1))])]) (cs := [sv [121, 101, 97, 114], .int .i64 (w64 ((2000 : Int) + r283.1))]) (xs := [(GAttr.mk ([121, 101, 97, 114] : Str) (w64 ((2000 : Int) + r283.1)))]) wn rfl Try.underlying47 tf133 rfl rfl rfl (by kernel_rfl) rfl rfl (lit_cons (u := .agg #[sv [121, 101, 97, 114], .int .i64 (w64 ((2000 : Int) + r283.1))]) (z := (GAttr.mk ([121, 101, 97, 114] : Str) (w64 ((2000 : Int) + r283.1)))) ⟨rfl, (by decide : ([121, 101, 97, 114] : Str).length ≤ maxLen), (w64_rng _)⟩ lit_nil) hS296 ?_
     intro a297 w298 K299 hl300 hs301 hS302
     refine wl_nil (qe_held (listed' := #[true, true, true, true, true, true, true, false, false, false]) rfl ⟨(hS302.hasK (hS288.le.trans hl300)), (fun _ => hS302.hasObj (.tail _ (.tail _ (.tail _ (.head _))))), by decide⟩ ?_)
     refine wg_one (i := 7) (by kernel_rfl) rfl ?_
     have hS303 : SH _ _ _ _ _ [_, _, _, _, _, _] := SH.front (p := [_, _, _, _, _]) hS302
     obtain ⟨x304, hx305, h306⟩ := ob h285
     refine wl_append (t := tGAttr) wn rfl Try.underlying47 tf133 rfl rfl rfl rfl rfl (SliceAt.mono ((hS270.le.trans hS288.le).trans hl300) hs219) hs301 hx305 hS303 ?_
     intro a307 n308 c309 w310 K311 hl312 hs313 hS314
     refine wl_nil (qe_held (listed' := #[true, true, true, true, true, true, true, true, false, false]) rfl ⟨(hS314.hasK ((hS288.le.trans hl300).trans hl312)), (fun _ => hS314.hasObj (.tail _ (.tail _ (.tail _ (.tail _ (.head _)))))), by decide⟩ ?_)
     refine wg_val (i := 8) (listed' := #[true, true, true, true, true, true, true, true, true, false]) (fun _ => True) rfl (by kernel_rfl) (pk_then pk_body) (by kernel_rfl) rfl (by kernel_rfl) (by kernel_rfl) rfl (.inl fun _ _ => trivial) ⟨(hS314.hasK ((hS288.le.trans hl300).trans hl312)), (fun _ => hS314.hasObj (.tail _ (.tail _ (.tail _ (.tail _ (.head _)))))), by decide⟩ wn rfl (fun _ _ => (rv_fieldAddr ff49_2 rfl)) ?_
     refine wg_one (i := 9) (by kernel_rfl) rfl ?_
     have hS315 : SH _ _ _ _ _ [_, _, _, _, _, _] := SH.front (p := [_, _, _, _]) hS314
     refine wl_store (cs' := [.int .i64 o199.2.Id, .slice a212 n213 c214, .slice a307 n308 c309]) (v := .slice a307 n308 c309) wn tf47 rfl rfl rfl (by simp [Value.cells, Value.oneCell']) hS315 rfl rfl ?_
     intro w316 hS317
     refine wl_nil (qe_held (listed' := #[true, true, true, true, true, true, true, true, true, true]) rfl ⟨(hS317.hasK ((hS288.le.trans hl300).trans hl312)), (fun h => nomatch h), by decide⟩ ?_)
     refine wg_done (by kernel_rfl) ?_
     refine qr ?_
     refine wl_val wn rfl (rv_loadmS (ds := [.int .i64 o199.2.Id, .slice a212 n213 c214, .slice a307 n308 c309]) tf49 rfl (.head _) hS317 rfl rfl) ?_
     have hS318 : SH _ _ _ _ _ [_, _, _, _, _, _] := SH.front (p := [_, _, _, _]) hS317
     refine wl_store (cs' := [.int .i64 o199.2.Id, .slice a212 n213 c214, .slice a307 n308 c309]) (v := .agg #[.int .i64 o199.2.Id, .slice a212 n213 c214, .slice a307 n308 c309]) wn tf49 rfl rfl rfl (by simp [Value.cells, Value.oneCell']) hS318 rfl rfl ?_
     intro w319 hS320
     refine nq ?_
     refine wc_ret ?_
     obtain rfl := oi h306
     have hS321 : SH _ _ _ _ _ [_, _, _, _, _, _] := SH.front (p := [_, _, _, _]) hS320
     have hS322 : SH _ _ _ _ _ [_, _, _, _, _, _] := SH.front (p := [_, _, _]) hS321
     have hS323 : SH _ _ _ _ _ [_, _, _, _, _, _] := SH.front (p := [_, _, _, _, _]) hS322
     have hS324 : SH _ _ _ _ _ [_, _, _] := SH.sublist hS323 (.cons_cons _ (.cons_cons _ (.cons_cons _ (.cons _ (.cons _ (.cons _ .slnil))))))
     exact qe_ret (vs := [_]) Try.results111 ⟨⟨_, _, rfl, run_loadVar_at tf49 (cs := [.int .i64 o199.2.Id, .slice a212 n213 c214, .slice a307 n308 c309]) (fun j c e => by rw [Nat.zero_add, hS320.mem_obj (.head _)]; exact e) (.inl ⟨rfl, rfl, rfl⟩)⟩, trivial⟩ ⟨a212, n213, c214, a307, n308, c309, a290, n291, c292, K311, rfl, hS324, hr211, (SliceAt.mono (((hS270.le.trans hS288.le).trans hl300).trans hl312) hs215), hs313, (SliceAt.mono (hl300.trans hl312) hs293), hr294⟩
    ·have h280 := cond_f hb279 h267
     refine wc_skip ?_
     refine qr ?_
     refine wl_val wn rfl (rv_loadmS (ds := [.int .i64 o199.2.Id, .slice a212 n213 c214, .slice a216 n217 c218]) tf49 rfl (.tail _ (.tail _ (.head _))) hS278 rfl rfl) ?_
     have hS325 : SH _ _ _ _ _ [_, _, _, _, _] := SH.front (p := [_]) hS278
     refine wl_store (cs' := [.int .i64 o199.2.Id, .slice a212 n213 c214, .slice a216 n217 c218]) (v := .agg #[.int .i64 o199.2.Id, .slice a212 n213 c214, .slice a216 n217 c218]) wn tf49 rfl rfl rfl (by simp [Value.cells, Value.oneCell']) hS325 rfl rfl ?_
     intro w326 hS327
     refine nq ?_
     refine wc_ret ?_
     obtain rfl := oi h280
     have hS328 : SH _ _ _ _ _ [_, _, _, _, _] := SH.front (p := [_]) hS327
     have hS329 : SH _ _ _ _ _ [_, _, _, _, _] := SH.front (p := [_, _, _, _]) hS328
     have hS330 : SH _ _ _ _ _ [_, _, _, _, _] := SH.front (p := [_, _, _, _]) hS329
     have hS331 : SH _ _ _ _ _ [_, _, _] := SH.sublist hS330 (.cons_cons _ (.cons_cons _ (.cons_cons _ (.cons _ (.cons _ .slnil)))))
     exact qe_ret (vs := [_]) Try.results111 ⟨⟨_, _, rfl, run_loadVar_at tf49 (cs := [.int .i64 o199.2.Id, .slice a212 n213 c214, .slice a216 n217 c218]) (fun j c e => by rw [Nat.zero_add, hS327.mem_obj (.head _)]; exact e) (.inl ⟨rfl, rfl, rfl⟩)⟩, trivial⟩ ⟨a212, n213, c214, a216, n217, c218, a272, n273, c274, K268, rfl, hS331, hr211, (SliceAt.mono hS270.le hs215), (SliceAt.mono hS270.le hs219), hs275, hr276⟩

theorem ok_spec_l30Docs (F : Nat) {w : World} {K : KMap} {g1 : Nat} {a2 : Option Addr} {n3 c4 : Nat} {p0_r : GL30Rd} {r : (List GDoc) × GL30Rd} (hS : SH w K (List.flatMap Item.gs [obj g1 [.slice a2 n3 c4, .int .i64 p0_r.p_] 122]) w K [obj g1 [.slice a2 n3 c4, .int .i64 p0_r.p_] 122]) (hs5 : SliceAt tU8 K a2 n3 c4 p0_r.b_) (hr6 : rng64 p0_r.p_) (hm : M.spec_l30Docs F p0_r = some r) :
  Calls Try.prog 77 #[.pointer (some ⟨g1, 0, none⟩)] w fun e w' => ∃ (a_1 : Option Addr) (n_2 c_3 : Nat) (a_5 : Option Addr) (n_6 c_7 : Nat) (K' : KMap), e = .returned (.slice a_1 n_2 c_3) ∧ SH w K (List.flatMap Item.gs [obj g1 [.slice a2 n3 c4, .int .i64 p0_r.p_] 122]) w' K' [tail (.slice a_1 n_2 c_3) 49 3, obj g1 [.slice a_5 n_6 c_7, .int .i64 r.2.p_] 122] ∧ SliceAt tGDoc K' a_1 n_2 c_3 r.1 ∧ SliceAt tU8 K' a_5 n_6 c_7 r.2.b_ ∧ rng64 r.2.p_ := by
 rw [M.spec_l30Docs] at hm
 refine calls_in Try.func77 rfl Try.ntmps77 rfl ?_
 refine sr ?_
 refine wl_val wn rfl (rv_assign (v := .slice none 0 0) rfl) ?_
 refine nr ?_
 refine wl_buildSlice0 tGDoc wn rfl Try.underlying23 tf49 hS ?_
 intro a7 w8 K9 hl10 hs11 hS12
 refine va rfl rfl ?_
 refine nr ?_
 refine wl_val wn rfl (rv_assign (v := .int .i64 0) rfl) ?_
 refine nsr ?_
 refine vm rfl rfl ?_
 obtain ⟨r13, hx14, h15⟩ := ob hm
 have hS16 : SH _ _ _ _ _ [_, _] := SH.front (p := [_]) hS12
 refine wl_call wn rfl (rt_call (vs := [.pointer (some ⟨g1, 0, none⟩), .int .i64 6]) co36 rfl) ((ok_spec_l30Rd_pick F) (SH.enter (Lin := [_]) hS16) (SliceAt.mono hl10 hs5) hr6 (by decide : rng64 6) hx14) ?_
 rintro e26 w18 ⟨a21, n22, c23, K17, rfl, hS19, hr20, hs24, hr25⟩
 refine ⟨_, rfl, ?_⟩
 have hS27 : SH _ _ _ _ _ [_, _] := SH.call (Lin := [_]) hS16 hS19
 refine va rfl rfl ?_
 refine nq ?_
 obtain ⟨o28, h29, h30⟩ := ob h15
 refine wc_cutg (fun E' w' => ∃ (a35 : Option Addr) (n36 c37 : Nat) (a39 : Option Addr) (n40 c41 : Nat) (K31 : KMap), E' = [(0, .pointer (some ⟨g1, 0, none⟩)), (3, .slice a35 n36 c37)] ∧ SH w K (List.flatMap Item.gs [obj g1 [.slice a2 n3 c4, .int .i64 p0_r.p_] 122]) w' K31 [obj g1 [.slice a39 n40 c41, .int .i64 o28.2.p_] 122, tail (.slice a35 n36 c37) 49 3] ∧ KLe K17 K31 ∧ SliceAt tGDoc K31 a35 n36 c37 o28.1 ∧ SliceAt tU8 K31 a39 n40 c41 o28.2.b_ ∧ rng64 o28.2.p_) ?_ ?_
 ·refine wc_block ?_
  obtain ⟨r45, h46, h47⟩ := ob h29
  refine wc_while' (fun (s44 : (List GDoc) × Int × Int × GL30Rd) E' w' => ∃ (a52 : Option Addr) (n53 c54 : Nat) (a58 : Option Addr) (n59 c60 : Nat) (K48 : KMap), E' = [(0, .pointer (some ⟨g1, 0, none⟩)), (3, .slice a52 n53 c54), (4, .int .i64 s44.2.1), (5, .int .i64 s44.2.2.1)] ∧ SH w K (List.flatMap Item.gs [obj g1 [.slice a2 n3 c4, .int .i64 p0_r.p_] 122]) w' K48 [obj g1 [.slice a58 n59 c60, .int .i64 s44.2.2.2.p_] 122, tail (.slice a52 n53 c54) 49 3] ∧ KLe K17 K48 ∧ SliceAt tGDoc K48 a52 n53 c54 s44.1 ∧ rng64 s44.2.1 ∧ rng64 s44.2.2.1 ∧ SliceAt tU8 K48 a58 n59 c60 s44.2.2.2.b_ ∧ rng64 s44.2.2.2.p_) h46 ⟨a7, 0, 0, a21, n22, c23, K17, rfl, hS27, (KLe.refl _), (SliceAt.mono hS19.le hs11), (by decide : rng64 0), hr20, hs24, hr25⟩ ⟨rfl, rfl, rfl, rfl, trivial⟩ ?_
  rintro s44 _ w50 r63 h64 hx65 ⟨a52, n53, c54, a58, n59, c60, K48, rfl, hS51, hl49, hs55, hr56, hr57, hs61, hr62⟩
  refine wc_seq ?_
  refine sr ?_
  refine vm rfl rfl ?_
  refine wl_val wn rfl (rv_gtr rfl rfl) ?_
  refine nq ?_
  refine wc_cond rfl (fun hb66 => ?_) (fun hb66 => ?_)
  ·have h67 := cond_t hb66 h64
   refine wc_skip ?_
   refine qs ?_
   refine wc_block ?_
   refine sr ?_
   refine vm rfl rfl ?_
   refine wl_val wn rfl (rv_add rfl rfl) ?_
   refine vm rfl rfl ?_
   obtain ⟨r68, hx69, h70⟩ := ob h67
   refine wl_call wn rfl (rt_call (vs := [.pointer (some ⟨g1, 0, none⟩), .int .i64 3]) co36 rfl) ((ok_spec_l30Rd_pick F) (SH.enter (Lin := [_]) hS51) hs61 hr62 (by decide : rng64 3) hx69) ?_
   rintro e80 w72 ⟨a75, n76, c77, K71, rfl, hS73, hr74, hs78, hr79⟩
   refine ⟨_, rfl, ?_⟩
   have hS81 : SH _ _ _ _ _ [_, _] := SH.call (Lin := [_]) hS51 hS73
   refine wl_val wn rfl (rv_add rfl rfl) ?_
   refine va rfl rfl ?_
   refine nq ?_
   refine wc_region ?_
   refine vm rfl rfl ?_
   refine vm rfl rfl ?_
   refine vm rfl rfl ?_
   obtain ⟨r82, hx83, h84⟩ := ob h70
   refine wl_call wn rfl (rt_call (vs := [.pointer (some ⟨g1, 0, none⟩), .int .i64 (w64 ((w64 (s44.2.1 + (1 : Int))) + r68.1))]) co111 rfl) ((ok_spec_l30Doc F) (SH.enter (Lin := [_]) hS81) hs78 hr79 (w64_rng _) hx83) ?_
   rintro e102 w86 ⟨a89, n90, c91, a93, n94, c95, a97, n98, c99, K85, rfl, hS87, hr88, hs92, hs96, hs100, hr101⟩
   refine ⟨_, rfl, ?_⟩
   have hS103 : SH _ _ _ _ _ [_, _, _, _] := SH.call (Lin := [_]) hS81 hS87
   refine wl_buildSlice (t := tGDoc) (n := 1) (pv := [(0, .agg #[.int .i64 r82.1.Id, .slice a89 n90 c91, .slice a93 n94 c95])]) (cs := [.int .i64 r82.1.Id, .slice a89 n90 c91, .slice a93 n94 c95]) (xs := [r82.1]) wn rfl Try.underlying23 tf49 rfl rfl rfl (by kernel_rfl) rfl rfl (lit_cons (u := .agg #[.int .i64 r82.1.Id, .slice a89 n90 c91, .slice a93 n94 c95]) (z := r82.1) ⟨a89, n90, c91, a93, n94, c95, rfl, hr88, hs92, hs96⟩ lit_nil) hS103 ?_
   intro a104 w105 K106 hl107 hs108 hS109
   have hS110 : SH _ _ _ _ _ [_, _, _, _, _] := SH.front (p := [_, _, _, _]) hS109
   obtain ⟨x111, hx112, h113⟩ := ob h84
   refine wl_append (t := tGDoc) wn rfl Try.underlying23 tf49 rfl rfl rfl rfl rfl (SliceAt.mono ((hS73.le.trans hS87.le).trans hl107) hs55) hs108 hx112 hS110 ?_
   intro a114 n115 c116 w117 K118 hl119 hs120 hS121
   refine va rfl rfl ?_
   refine nb ?_
   refine qe_seq ?_
   refine wc_region ?_
   refine vm rfl rfl ?_
   refine wl_val wn rfl (rv_sub rfl rfl) ?_
   refine va rfl rfl ?_
   refine wl_nil ?_
   obtain rfl := oi h113
   have hS122 : SH _ _ _ _ _ [_, _, _, _, _] := SH.front (p := [_, _, _, _]) hS121
   have hS123 : SH _ _ _ _ _ [_, _] := SH.sublist hS122 (.cons_cons _ (.cons_cons _ (.cons _ (.cons _ (.cons _ .slnil)))))
   exact qe_mid' ⟨_, rfl, a114, n115, c116, a97, n98, c99, K118, rfl, hS123, ((((hl49.trans hS73.le).trans hS87.le).trans hl107).trans hl119), hs120, (w64_rng _), (w64_rng _), (SliceAt.mono (hl107.trans hl119) hs100), hr101⟩ ⟨rfl, rfl, rfl, rfl, trivial⟩
  ·have h67 := cond_f hb66 h64
   refine wc_exit ?_
   refine qe_then_exit ?_
   refine qe_then_exit ?_
   obtain rfl := oi h67
   have e124 := hx65 _ rfl
   subst e124
   refine qe_block_eq ?_
   obtain rfl := oi h47
   exact qe_mid' ⟨a52, n53, c54, a58, n59, c60, K48, rfl, hS51, hl49, hs55, hs61, hr62⟩ ⟨rfl, rfl, trivial⟩
 ·rintro _ w33 ⟨a35, n36, c37, a39, n40, c41, K31, rfl, hS34, hl32, hs38, hs42, hr43⟩
  refine qr ?_
  refine vm rfl rfl ?_
  refine va rfl rfl ?_
  refine nq ?_
  refine wc_ret ?_
  obtain rfl := oi h30
  have hS125 : SH _ _ _ _ _ [_, _] := SH.front (p := [_]) hS34
  exact qe_ret (vs := [_]) Try.results77 ⟨rfl, trivial⟩ ⟨a35, n36, c37, a39, n40, c41, K31, rfl, hS125, hs38, hs42, hr43⟩

theorem ok_spec_l30Rd_one (F : Nat) {w : World} {K : KMap} {g1 : Nat} {a2 : Option Addr} {n3 c4 : Nat} {a7 : Option Addr} {n8 c9 : Nat} {p0_r : GL30Rd} {p1_list : List Int} {r : Int × GL30Rd} (hS : SH w K (List.flatMap Item.gs [obj g1 [.slice a2 n3 c4, .int .i64 p0_r.p_] 122]) w K [obj g1 [.slice a2 n3 c4, .int .i64 p0_r.p_] 122]) (hs5 : SliceAt tU8 K a2 n3 c4 p0_r.b_) (hr6 : rng64 p0_r.p_) (hs10 : SliceAt tInt K a7 n8 c9 p1_list) (hm : M.spec_l30Rd_one F p0_r p1_list = some r) :
  Calls Try.prog 112 #[.pointer (some ⟨g1, 0, none⟩), .slice a7 n8 c9] w fun e w' => ∃ (a_2 : Option Addr) (n_3 c_4 : Nat) (K' : KMap), e = .returned (.int .i64 r.1) ∧ SH w K (List.flatMap Item.gs [obj g1 [.slice a2 n3 c4, .int .i64 p0_r.p_] 122]) w' K' [obj g1 [.slice a_2 n_3 c_4, .int .i64 r.2.p_] 122] ∧ rng64 r.1 ∧ SliceAt tU8 K' a_2 n_3 c_4 r.2.b_ ∧ rng64 r.2.p_ := by
 rw [M.spec_l30Rd_one] at hm
 refine calls_in Try.func112 rfl Try.ntmps112 rfl ?_
 refine sr ?_
 refine wl_val wn rfl (rv_assign (v := .int .i64 0) rfl) ?_
 refine nr ?_
 refine vm rfl rfl ?_
 refine vm rfl rfl ?_
 refine vm rfl rfl ?_
 refine wl_val wn rfl (rv_len (t := tInt) Try.underlying24 rfl hs10) ?_
 obtain ⟨r11, hx12, h13⟩ := ob hm
 refine wl_call wn rfl (rt_call (vs := [.pointer (some ⟨g1, 0, none⟩), .int .i64 (p1_list.length : Int)]) co36 rfl) ((ok_spec_l30Rd_pick F) (SH.enter (Lin := [_]) hS) hs5 hr6 (rng_nat (SliceAt.max hs10)) hx12) ?_
 rintro e23 w15 ⟨a18, n19, c20, K14, rfl, hS16, hr17, hs21, hr22⟩
 refine ⟨_, rfl, ?_⟩
 have hS24 : SH _ _ _ _ _ [_] := SH.call (Lin := [_]) hS hS16
 obtain ⟨x25, hx26, h27⟩ := ob h13
 refine wl_indexAddr (t := tInt) wn rfl Try.underlying24 tf3 rfl rfl (SliceAt.mono hS16.le hs10) hx26 ?_
 intro b28 o29 u30 hu31 ha32
 obtain ⟨rfl, hr33⟩ := hu31
 have ha34 : AtK _ b28 o29 [.int .i64 x25] := ha32
 refine wl_val wn rfl (rv_load1 tf3 rfl hS24 (ha34 0 _ rfl)) ?_
 refine va rfl rfl ?_
 refine nq ?_
 refine wc_ret ?_
 obtain rfl := oi h27
 exact qe_ret (vs := [_]) Try.results112 ⟨rfl, trivial⟩ ⟨a18, n19, c20, K14, rfl, hS24, hr33, hs21, hr22⟩

theorem ok_spec_l30AnyText (F : Nat) {w : World} {K : KMap} {g1 : Nat} {a2 : Option Addr} {n3 c4 : Nat} {p0_r : GL30Rd} {r : Str × GL30Rd} (hS : SH w K (List.flatMap Item.gs [obj g1 [.slice a2 n3 c4, .int .i64 p0_r.p_] 122]) w K [obj g1 [.slice a2 n3 c4, .int .i64 p0_r.p_] 122]) (hs5 : SliceAt tU8 K a2 n3 c4 p0_r.b_) (hr6 : rng64 p0_r.p_) (hm : M.spec_l30AnyText F p0_r = some r) :
  Calls Try.prog 113 #[.pointer (some ⟨g1, 0, none⟩)] w fun e w' => ∃ (a_2 : Option Addr) (n_3 c_4 : Nat) (K' : KMap), e = .returned (sv r.1) ∧ SH w K (List.flatMap Item.gs [obj g1 [.slice a2 n3 c4, .int .i64 p0_r.p_] 122]) w' K' [obj g1 [.slice a_2 n_3 c_4, .int .i64 r.2.p_] 122] ∧ r.1.length ≤ maxLen ∧ SliceAt tU8 K' a_2 n_3 c_4 r.2.b_ ∧ rng64 r.2.p_ := by
 rw [M.spec_l30AnyText] at hm
 refine calls_in Try.func113 rfl Try.ntmps113 rfl ?_
 refine sr ?_
 refine wl_val wn rfl (rv_assign (v := sv []) rfl) ?_
 refine nr ?_
 refine vm rfl rfl ?_
 obtain ⟨r7, hx8, h9⟩ := ob hm
 refine wl_call wn rfl (rt_call (vs := [.pointer (some ⟨g1, 0, none⟩)]) co143 rfl) ((ok_spec_l30Text F) (SH.enter (Lin := [_]) hS) hs5 hr6 hx8) ?_
 rintro e19 w11 ⟨a14, n15, c16, K10, rfl, hS12, hl13, hs17, hr18⟩
 refine ⟨_, rfl, ?_⟩
 have hS20 : SH _ _ _ _ _ [_] := SH.call (Lin := [_]) hS hS12
 refine va rfl rfl ?_
 refine nsr ?_
 refine vm rfl rfl ?_
 obtain ⟨r21, hx22, h23⟩ := ob h9
 refine wl_call wn rfl (rt_call (vs := [.pointer (some ⟨g1, 0, none⟩), .int .i64 12]) co36 rfl) ((ok_spec_l30Rd_pick F) (SH.enter (Lin := [_]) hS20) hs17 hr18 (by decide : rng64 12) hx22) ?_
 rintro e33 w25 ⟨a28, n29, c30, K24, rfl, hS26, hr27, hs31, hr32⟩
 refine ⟨_, rfl, ?_⟩
 have hS34 : SH _ _ _ _ _ [_] := SH.call (Lin := [_]) hS20 hS26
 refine wl_val wn rfl (rv_eql rfl rfl) ?_
 refine nq ?_
 refine wc_cond rfl (fun hb35 => ?_) (fun hb35 => ?_)
 ·have h36 := cond_t hb35 h23
  refine sr ?_
  refine vm rfl rfl ?_
  refine vm rfl rfl ?_
  refine wl_buildSlice (t := tStr) (n := 3) (pv := [(0, sv [10]), (1, sv [255]), (2, sv [48, 49, 50, 51, 52, 53, 54, 55, 56, 57, 32, 48, 49, 50, 51, 52, 53, 54, 55, 56, 57, 32, 48, 49, 50, 51, 52, 53, 54, 55, 56, 57, 32, 48, 49, 50, 51, 52, 53, 54, 55, 56, 57, 32, 48, 49, 50, 51, 52, 53, 54, 55, 56, 57, 32, 48, 49, 50, 51, 52, 53, 54, 55, 56, 57, 32, 48, 49, 50, 51, 52, 53, 54, 55, 56, 57, 32, 48, 49, 50, 51, 52, 53, 54, 55, 56, 57, 32, 48, 49, 50, 51, 52, 53, 54, 55, 56, 57, 32, 48, 49, 50, 51, 52, 53, 54, 55, 56, 57, 32, 48, 49, 50, 51, 52, 53, 54, 55, 56, 57, 32, 48, 49, 50, 51, 52, 53, 54, 55, 56, 57, 32, 48, 49, 50, 51, 52, 53, 54, 55, 56, 57, 32, 48, 49, 50, 51, 52, 53, 54, 55, 56, 57, 32, 48, 49, 50, 51, 52, 53, 54, 55])]) (cs := [sv [10], sv [255], sv [48, 49, 50, 51, 52, 53, 54, 55, 56, 57, 32, 48, 49, 50, 51, 52, 53, 54, 55, 56, 57, 32, 48, 49, 50, 51, 52, 53, 54, 55, 56, 57, 32, 48, 49, 50, 51, 52, 53, 54, 55, 56, 57, 32, 48, 49, 50, 51, 52, 53, 54, 55, 56, 57, 32, 48, 49, 50, 51, 52, 53, 54, 55, 56, 57, 32, 48, 49, 50, 51, 52, 53, 54, 55, 56, 57, 32, 48, 49, 50, 51, 52, 53, 54, 55, 56, 57, 32, 48, 49, 50, 51, 52, 53, 54, 55, 56, 57, 32, 48, 49, 50, 51, 52, 53, 54, 55, 56, 57, 32, 48, 49, 50, 51, 52, 53, 54, 55, 56, 57, 32, 48, 49, 50, 51, 52, 53, 54, 55, 56, 57, 32, 48, 49, 50, 51, 52, 53, 54, 55, 56, 57, 32, 48, 49, 50, 51, 52, 53, 54, 55, 56, 57, 32, 48, 49, 50, 51, 52, 53, 54, 55]]) (xs := [([10] : Str), ([255] : Str), ([48, 49, 50, 51, 52, 53, 54, 55, 56, 57, 32, 48, 49, 50, 51, 52, 53, 54, 55, 56, 57, 32, 48, 49, 50, 51, 52, 53, 54, 55, 56, 57, 32, 48, 49, 50, 51, 52, 53, 54, 55, 56, 57, 32, 48, 49, 50, 51, 52, 53, 54, 55, 56, 57, 32, 48, 49, 50, 51, 52, 53, 54, 55, 56, 57, 32, 48, 49, 50, 51, 52, 53, 54, 55, 56, 57, 32, 48, 49, 50, 51, 52, 53, 54, 55, 56, 57, 32, 48, 49, 50, 51, 52, 53, 54, 55, 56, 57, 32, 48, 49, 50, 51, 52, 53, 54, 55, 56, 57, 32, 48, 49, 50, 51, 52, 53, 54, 55, 56, 57, 32, 48, 49, 50, 51, 52, 53, 54, 55, 56, 57, 32, 48, 49, 50, 51, 52, 53, 54, 55, 56, 57, 32, 48, 49, 50, 51, 52, 53, 54, 55, 56, 57, 32, 48, 49, 50, 51, 52, 53, 54, 55] : Str)]) wn rfl Try.underlying36 tf9 rfl rfl rfl (by kernel_rfl) rfl rfl (lit_cons (u := sv [10]) (z := ([10] : Str)) ⟨rfl, (by decide : ([10] : Str).length ≤ maxLen)⟩ (lit_cons (u := sv [255]) (z := ([255] : Str)) ⟨rfl, (by decide : ([255] : Str).length ≤ maxLen)⟩ (lit_cons (u := sv [48, 49, 50, 51, 52, 53, 54, 55, 56, 57, 32, 48, 49, 50, 51, 52, 53, 54, 55, 56, 57, 32, 48, 49, 50, 51, 52, 53, 54, 55, 56, 57, 32, 48, 49, 50, 51, 52, 53, 54, 55, 56, 57, 32, 48, 49, 50, 51, 52, 53, 54, 55, 56, 57, 32, 48, 49, 50, 51, 52, 53, 54, 55, 56, 57, 32, 48, 49, 50, 51, 52, 53, 54, 55, 56, 57, 32, 48, 49, 50, 51, 52, 53, 54, 55, 56, 57, 32, 48, 49, 50, 51, 52, 53, 54, 55, 56, 57, 32, 48, 49, 50, 51, 52, 53, 54, 55, 56, 57, 32, 48, 49, 50, 51, 52, 53, 54, 55, 56, 57, 32, 48, 49, 50, 51, 52, 53, 54, 55, 56, 57, 32, 48, 49, 50, 51, 52, 53, 54, 55, 56, 57, 32, 48, 49, 50, 51, 52, 53, 54, 55, 56, 57, 32, 48, 49, 50, 51, 52, 53, 54, 55]) (z := ([48, 49, 50, 51, 52, 53, 54, 55, 56, 57, 32, 48, 49, 50, 51, 52, 53, 54, 55, 56, 57, 32, 48, 49, 50, 51, 52, 53, 54, 55, 56, 57, 32, 48, 49, 50, 51, 52, 53, 54, 55, 56, 57, 32, 48, 49, 50, 51, 52, 53, 54, 55, 56, 57, 32, 48, 49, 50, 51, 52, 53, 54, 55, 56, 57, 32, 48, 49, 50, 51, 52, 53, 54, 55, 56, 57, 32, 48, 49, 50, 51, 52, 53, 54, 55, 56, 57, 32, 48, 49, 50, 51, 52, 53, 54, 55, 56, 57, 32, 48, 49, 50, 51, 52, 53, 54, 55, 56, 57, 32, 48, 49, 50, 51, 52, 53, 54, 55, 56, 57, 32, 48, 49, 50, 51, 52, 53, 54, 55, 56, 57, 32, 48, 49, 50, 51, 52, 53, 54, 55, 56, 57, 32, 48, 49, 50, 51, 52, 53, 54, 55, 56, 57, 32, 48, 49, 50, 51, 52, 53, 54, 55] : Str)) ⟨rfl, (by decide : ([48, 49, 50, 51, 52, 53, 54, 55, 56, 57, 32, 48, 49, 50, 51, 52, 53, 54, 55, 56, 57, 32, 48, 49, 50, 51, 52, 53, 54, 55, 56, 57, 32, 48, 49, 50, 51, 52, 53, 54, 55, 56, 57, 32, 48, 49, 50, 51, 52, 53, 54, 55, 56, 57, 32, 48, 49, 50, 51, 52, 53, 54, 55, 56, 57, 32, 48, 49, 50, 51, 52, 53, 54, 55, 56, 57, 32, 48, 49, 50, 51, 52, 53, 54, 55, 56, 57, 32, 48, 49, 50, 51, 52, 53, 54, 55, 56, 57, 32, 48, 49, 50, 51, 52, 53, 54, 55, 56, 57, 32, 48, 49, 50, 51, 52, 53, 54, 55, 56, 57, 32, 48, 49, 50, 51, 52, 53, 54, 55, 56, 57, 32, 48, 49, 50, 51, 52, 53, 54, 55, 56, 57, 32, 48, 49, 50, 51, 52, 53, 54, 55, 56, 57, 32, 48, 49, 50, 51, 52, 53, 54, 55] : Str).length ≤ maxLen)⟩ lit_nil))) hS34 ?_
  intro a37 w38 K39 hl40 hs41 hS42
  obtain ⟨r43, hx44, h45⟩ := ob h36
  have hS46 : SH _ _ _ _ _ [_, _] := SH.front (p := [_]) hS42
  refine wl_call wn rfl (rt_call (vs := [.pointer (some ⟨g1, 0, none⟩), .slice a37 3 3]) co38 rfl) ((ok_spec_l30Rd_of F) (SH.enter (Lin := [_]) hS46) (SliceAt.mono hl40 hs31) hr32 hs41 hx44) ?_
  rintro e56 w48 ⟨a51, n52, c53, K47, rfl, hS49, hl50, hs54, hr55⟩
  refine ⟨_, rfl, ?_⟩
  have hS57 : SH _ _ _ _ _ [_, _] := SH.call (Lin := [_]) hS46 hS49
  obtain ⟨x58, hx59, h60⟩ := ob h45
  refine wl_val wn rfl (rv_sadd rfl rfl hx59) ?_
  refine va rfl rfl ?_
  refine nq ?_
  refine rr ?_
  obtain rfl := oi h60
  have hS61 : SH _ _ _ _ _ [_] := SH.sublist hS57 (.cons_cons _ (.cons _ .slnil))
  exact qe_ret (vs := [_]) Try.results113 ⟨rfl, trivial⟩ ⟨a51, n52, c53, K47, rfl, hS61, (len_cat hx59), hs54, hr55⟩
 ·have h36 := cond_f hb35 h23
  refine wc_skip ?_
  refine qr ?_
  refine vm rfl rfl ?_
  refine va rfl rfl ?_
  refine nq ?_
  refine wc_ret ?_
  obtain rfl := oi h36
  exact qe_ret (vs := [_]) Try.results113 ⟨rfl, trivial⟩ ⟨a28, n29, c30, K24, rfl, hS34, hl13, hs31, hr32⟩

set_option maxHeartbeats 2000000 in
theorem ok_spec_l30AnyDoc (F : Nat) {w : World} {K : KMap} {g1 : Nat} {a2 : Option Addr} {n3 c4 : Nat} {p0_r : GL30Rd} {r : GDoc × GL30Rd} (hS : SH w K (List.flatMap Item.gs [obj g1 [.slice a2 n3 c4, .int .i64 p0_r.p_] 122]) w K [obj g1 [.slice a2 n3 c4, .int .i64 p0_r.p_] 122]) (hs5 : SliceAt tU8 K a2 n3 c4 p0_r.b_) (hr6 : rng64 p0_r.p_) (hm : M.spec_l30AnyDoc F p0_r = some r) :
  Calls Try.prog 78 #[.pointer (some ⟨g1, 0, none⟩)] w fun e w' => ∃ (a_2 : Option Addr) (n_3 c_4 : Nat) (a_6 : Option Addr) (n_7 c_8 : Nat) (a_10 : Option Addr) (n_11 c_12 : Nat) (K' : KMap), e = .returned (.agg #[.int .i64 r.1.Id, .slice a_2 n_3 c_4, .slice a_6 n_7 c_8]) ∧ SH w K (List.flatMap Item.gs [obj g1 [.slice a2 n3 c4, .int .i64 p0_r.p_] 122]) w' K' [tail (.slice a_2 n_3 c_4) 107 2, tail (.slice a_6 n_7 c_8) 133 2, obj g1 [.slice a_10 n_11 c_12, .int .i64 r.2.p_] 122] ∧ rng64 r.1.Id ∧ SliceAt tGField K' a_2 n_3 c_4 r.1.Fields ∧ SliceAt tGAttr K' a_6 n_7 c_8 r.1.Nums ∧ SliceAt tU8 K' a_10 n_11 c_12 r.2.b_ ∧ rng64 r.2.p_ := by
 rw [M.spec_l30AnyDoc] at hm
 refine calls_in Try.func78 rfl Try.ntmps78 rfl ?_
 refine sr ?_
 refine wl_alloc wn rfl tf49 hS ?_
 intro g7 w8 hS9
 have hS10 : SH _ _ _ _ _ [obj g7 [.int .i64 0, .slice none 0 0, .slice none 0 0] 49, _] := hS9
 refine nr ?_
 refine vm rfl rfl ?_
 refine vm rfl rfl ?_
 obtain ⟨r11, hx12, h13⟩ := ob hm
 have hS14 : SH _ _ _ _ _ [_, _] := SH.front (p := [_]) hS10
 refine wl_call wn rfl (rt_call (vs := [.pointer (some ⟨g1, 0, none⟩), .int .i64 9]) co36 rfl) ((ok_spec_l30Rd_pick F) (SH.enter (Lin := [_]) hS14) hs5 hr6 (by decide : rng64 9) hx12) ?_
 rintro e24 w16 ⟨a19, n20, c21, K15, rfl, hS17, hr18, hs22, hr23⟩
 refine ⟨_, rfl, ?_⟩
 have hS25 : SH _ _ _ _ _ [_, _] := SH.call (Lin := [_]) hS14 hS17
 refine wl_val wn rfl (rv_add rfl rfl) ?_
 obtain ⟨r26, hx27, h28⟩ := ob h13
 refine wl_call wn rfl (rt_call (vs := [.pointer (some ⟨g1, 0, none⟩), .int .i64 (w64 ((1 : Int) + r11.1))]) co111 rfl) ((ok_spec_l30Doc F) (SH.enter (Lin := [_]) hS25) hs22 hr23 (w64_rng _) hx27) ?_
 rintro e46 w30 ⟨a33, n34, c35, a37, n38, c39, a41, n42, c43, K29, rfl, hS31, hr32, hs36, hs40, hs44, hr45⟩
 refine ⟨_, rfl, ?_⟩
 have hS47 : SH _ _ _ _ _ [_, _, _, _] := SH.call (Lin := [_]) hS25 hS31
 refine wl_alloc wn rfl tf49 hS47 ?_
 intro g48 w49 hS50
 have hS51 : SH _ _ _ _ _ [obj g48 [.int .i64 0, .slice none 0 0, .slice none 0 0] 49, _, _, _, _] := hS50
 refine wl_store (cs' := [.int .i64 r26.1.Id, .slice a33 n34 c35, .slice a37 n38 c39]) (v := .agg #[.int .i64 r26.1.Id, .slice a33 n34 c35, .slice a37 n38 c39]) wn tf49 rfl rfl rfl (by simp [Value.cells, Value.oneCell']) hS51 rfl rfl ?_
 intro w52 hS53
 refine nsr ?_
 refine vm rfl rfl ?_
 obtain ⟨r54, hx55, h56⟩ := ob h28
 have hS57 : SH _ _ _ _ _ [_, _, _, _, _] := SH.front (p := [_, _, _]) hS53
 refine wl_call wn rfl (rt_call (vs := [.pointer (some ⟨g1, 0, none⟩), .int .i64 14]) co36 rfl) ((ok_spec_l30Rd_pick F) (SH.enter (Lin := [_]) hS57) hs44 hr45 (by decide : rng64 14) hx55) ?_
 rintro e67 w59 ⟨a62, n63, c64, K58, rfl, hS60, hr61, hs65, hr66⟩
 refine ⟨_, rfl, ?_⟩
 have hS68 : SH _ _ _ _ _ [_, _, _, _, _] := SH.call (Lin := [_]) hS57 hS60
 refine nq ?_
 refine wc_block ?_
 refine sr ?_
 refine wl_val wn rfl (rv_eql rfl rfl) ?_
 refine va rfl rfl ?_
 refine nq ?_
 refine wc_cond rfl (fun hb69 => ?_) (fun hb69 => ?_)
 ·have h70 := cond_t hb69 h56
  refine wc_region ?_
  refine vm rfl rfl ?_
  refine wl_buildSlice (t := tInt) (n := 3) (pv := [(0, .int .i64 0), (1, .int .i64 10000), (2, .int .i64 9999)]) (cs := [.int .i64 0, .int .i64 10000, .int .i64 9999]) (xs := [(0 : Int), (10000 : Int), (9999 : Int)]) wn rfl Try.underlying24 tf3 rfl rfl rfl (by kernel_rfl) rfl rfl (lit_cons (u := .int .i64 0) (z := (0 : Int)) ⟨rfl, (by decide : rng64 0)⟩ (lit_cons (u := .int .i64 10000) (z := (10000 : Int)) ⟨rfl, (by decide : rng64 10000)⟩ (lit_cons (u := .int .i64 9999) (z := (9999 : Int)) ⟨rfl, (by decide : rng64 9999)⟩ lit_nil))) hS68 ?_
  intro a71 w72 K73 hl74 hs75 hS76
  obtain ⟨r77, hx78, h79⟩ := ob h70
  have hS80 : SH _ _ _ _ _ [_, _, _, _, _, _] := SH.front (p := [_]) hS76
  refine wl_call wn rfl (rt_call (vs := [.pointer (some ⟨g1, 0, none⟩), .slice a71 3 3]) co112 rfl) ((ok_spec_l30Rd_one F) (SH.enter (Lin := [_]) hS80) (SliceAt.mono hl74 hs65) hr66 hs75 hx78) ?_
  rintro e90 w82 ⟨a85, n86, c87, K81, rfl, hS83, hr84, hs88, hr89⟩
  refine ⟨_, rfl, ?_⟩
  have hS91 : SH _ _ _ _ _ [_, _, _, _, _, _] := SH.call (Lin := [_]) hS80 hS83
  refine wl_val wn rfl (rv_fieldAddr ff49_0 rfl) ?_
  have hS92 : SH _ _ _ _ _ [_, _, _, _, _, _] := SH.front (p := [_, _]) hS91
  refine wl_store (cs' := [.int .i64 r77.1, .slice a33 n34 c35, .slice a37 n38 c39]) (v := .int .i64 r77.1) wn tf3 rfl rfl rfl (by simp [Value.cells, Value.oneCell']) hS92 rfl rfl ?_
  intro w93 hS94
  refine nb ?_
  refine qr ?_
  refine wl_val wn rfl (rv_loadmS (ds := [.int .i64 r77.1, .slice a33 n34 c35, .slice a37 n38 c39]) tf49 rfl (.head _) hS94 rfl rfl) ?_
  have hS95 : SH _ _ _ _ _ [_, _, _, _, _, _] := SH.front (p := [_, _, _, _, _]) hS94
  refine wl_store (cs' := [.int .i64 r77.1, .slice a33 n34 c35, .slice a37 n38 c39]) (v := .agg #[.int .i64 r77.1, .slice a33 n34 c35, .slice a37 n38 c39]) wn tf49 rfl rfl rfl (by simp [Value.cells, Value.oneCell']) hS95 rfl rfl ?_
  intro w96 hS97
  refine nq ?_
  refine wc_ret ?_
  obtain rfl := oi h79
  have hS98 : SH _ _ _ _ _ [_, _, _, _, _, _] := SH.front (p := [_, _]) hS97
  have hS99 : SH _ _ _ _ _ [_, _, _, _, _, _] := SH.front (p := [_, _, _, _, _]) hS98
  have hS100 : SH _ _ _ _ _ [_, _, _, _, _, _] := SH.front (p := [_, _, _, _, _]) hS99
  have hS101 : SH _ _ _ _ _ [_, _, _] := SH.sublist hS100 (.cons_cons _ (.cons_cons _ (.cons_cons _ (.cons _ (.cons _ (.cons _ .slnil))))))
  exact qe_ret (vs := [_]) Try.results78 ⟨⟨_, _, rfl, run_loadVar_at tf49 (cs := [.int .i64 r77.1, .slice a33 n34 c35, .slice a37 n38 c39]) (fun j c e => by rw [Nat.zero_add, hS97.mem_obj (.head _)]; exact e) (.inl ⟨rfl, rfl, rfl⟩)⟩, trivial⟩ ⟨a33, n34, c35, a37, n38, c39, a85, n86, c87, K81, rfl, hS101, hr84, (SliceAt.mono ((hS60.le.trans hl74).trans hS83.le) hs36), (SliceAt.mono ((hS60.le.trans hl74).trans hS83.le) hs40), hs88, hr89⟩
 ·have h70 := cond_f hb69 h56
  refine sr ?_
  refine wl_val wn rfl (rv_eql rfl rfl) ?_
  refine va rfl rfl ?_
  refine nq ?_
  refine wc_cond rfl (fun hb102 => ?_) (fun hb102 => ?_)
  ·have h103 := cond_t hb102 h70
   refine wc_region ?_
   refine wl_val wn rfl (rv_fieldAddr ff49_1 rfl) ?_
   refine wl_val wn rfl (rv_loadm1 tf46 rfl (.tail _ (.head _)) hS68 rfl) ?_
   refine wl_val wn rfl (rv_build (cs := #[sv [98, 111, 100, 121], sv [97, 103, 97, 105, 110]]) sp107 tf107 rfl (by kernel_rfl)) ?_
   refine wl_buildSlice (t := tGField) (n := 1) (pv := [(0, .agg #[sv [98, 111, 100, 121], sv [97, 103, 97, 105, 110]])]) (cs := [sv [98, 111, 100, 121], sv [97, 103, 97, 105, 110]]) (xs := [(GField.mk ([98, 111, 100, 121] : Str) ([97, 103, 97, 105, 110] : Str))]) wn rfl Try.underlying46 tf107 rfl rfl rfl (by kernel_rfl) rfl rfl (lit_cons (u := .agg #[sv [98, 111, 100, 121], sv [97, 103, 97, 105, 110]]) (z := (GField.mk ([98, 111, 100, 121] : Str) ([97, 103, 97, 105, 110] : Str))) ⟨rfl, (by decide : ([98, 111, 100, 121] : Str).length ≤ maxLen), (by decide : ([97, 103, 97, 105, 110] : Str).length ≤ maxLen)⟩ lit_nil) hS68 ?_
   intro a104 w105 K106 hl107 hs108 hS109
   have hS110 : SH _ _ _ _ _ [_, _, _, _, _, _] := SH.front (p := [_, _, _]) hS109
   obtain ⟨x111, hx112, h113⟩ := ob h103
   refine wl_append (t := tGField) wn rfl Try.underlying46 tf107 rfl rfl rfl rfl rfl (SliceAt.mono (hS60.le.trans hl107) hs36) hs108 hx112 hS110 ?_
   intro a114 n115 c116 w117 K118 hl119 hs120 hS121
   refine wl_val wn rfl (rv_fieldAddr ff49_1 rfl) ?_
   have hS122 : SH _ _ _ _ _ [_, _, _, _, _, _] := SH.front (p := [_, _, _]) hS121
   refine wl_store (cs' := [.int .i64 r26.1.Id, .slice a114 n115 c116, .slice a37 n38 c39]) (v := .slice a114 n115 c116) wn tf46 rfl rfl rfl (by simp [Value.cells, Value.oneCell']) hS122 rfl rfl ?_
   intro w123 hS124
   refine nb ?_
   refine qr ?_
   refine wl_val wn rfl (rv_loadmS (ds := [.int .i64 r26.1.Id, .slice a114 n115 c116, .slice a37 n38 c39]) tf49 rfl (.head _) hS124 rfl rfl) ?_
   have hS125 : SH _ _ _ _ _ [_, _, _, _, _, _] := SH.front (p := [_, _, _, _, _]) hS124
   refine wl_store (cs' := [.int .i64 r26.1.Id, .slice a114 n115 c116, .slice a37 n38 c39]) (v := .agg #[.int .i64 r26.1.Id, .slice a114 n115 c116, .slice a37 n38 c39]) wn tf49 rfl rfl rfl (by simp [Value.cells, Value.oneCell']) hS125 rfl rfl ?_
   intro w126 hS127
   refine nq ?_
   refine wc_ret ?_
   obtain rfl := oi h113
   have hS128 : SH _ _ _ _ _ [_, _, _, _, _, _] := SH.front (p := [_, _, _, _]) hS127
   have hS129 : SH _ _ _ _ _ [_, _, _, _, _, _] := SH.front (p := [_, _, _, _, _]) hS128
   have hS130 : SH _ _ _ _ _ [_, _, _, _, _, _] := SH.front (p := [_, _, _, _]) hS129
   have hS131 : SH _ _ _ _ _ [_, _, _] := SH.sublist hS130 (.cons_cons _ (.cons_cons _ (.cons_cons _ (.cons _ (.cons _ (.cons _ .slnil))))))
   exact qe_ret (vs := [_]) Try.results78 ⟨⟨_, _, rfl, run_loadVar_at tf49 (cs := [.int .i64 r26.1.Id, .slice a114 n115 c116, .slice a37 n38 c39]) (fun j c e => by rw [Nat.zero_add, hS127.mem_obj (.head _)]; exact e) (.inl ⟨rfl, rfl, rfl⟩)⟩, trivial⟩ ⟨a114, n115, c116, a37, n38, c39, a62, n63, c64, K118, rfl, hS131, hr32, hs120, (SliceAt.mono ((hS60.le.trans hl107).trans hl119) hs40), (SliceAt.mono (hl107.trans hl119) hs65), hr66⟩
  ·have h103 := cond_f hb102 h70
   refine sr ?_
   refine wl_val wn rfl (rv_eql rfl rfl) ?_
   refine va rfl rfl ?_
   refine nq ?_
   refine wc_cond rfl (fun hb132 => ?_) (fun hb132 => ?_)
   ·have h133 := cond_t hb132 h103
    refine wc_held (fun w' => Holds K58 w') (fun w' => HasObj g48 [.int .i64 r26.1.Id, .slice a33 n34 c35, .slice a37 n38 c39] w') 9 [(1, 7), (1, 8), (1, 9), (7, 8), (7, 9), (8, 9)] mixed ?_
    have hS135 := SH.drew hS68
    refine wg_val (i := 0) (listed' := #[true, false, false, false, false, false, false, false, false, false]) (fun _ => True) rfl (by kernel_rfl) (pk_block (pk_then pk_body)) (by kernel_rfl) rfl (by kernel_rfl) (by kernel_rfl) rfl (.inl fun _ _ => trivial) ⟨(hS135.hasK (KLe.refl _)), (fun _ => hS135.hasObj (.tail _ (.head _))), by decide⟩ wn rfl (fun _ _ => (rv_fieldAddr ff49_2 rfl)) ?_
    refine wg_val (i := 1) (listed' := #[true, true, false, false, false, false, false, false, false, false]) (HasObj g48 [.int .i64 r26.1.Id, .slice a33 n34 c35, .slice a37 n38 c39]) rfl (by kernel_rfl) (pk_block (pk_then pk_body)) (by kernel_rfl) rfl (by kernel_rfl) (by kernel_rfl) rfl (.inr ⟨rfl, fun _ _ h => h⟩) ⟨(hS135.hasK (KLe.refl _)), (fun _ => hS135.hasObj (.tail _ (.head _))), by decide⟩ wn rfl (fun _ h => rh_loadm1 tf47 rfl rfl h) ?_
    refine wg_val (i := 2) (listed' := #[true, true, true, false, false, false, false, false, false, false]) (fun _ => True) rfl (by kernel_rfl) (pk_block (pk_then pk_body)) (by kernel_rfl) rfl (by kernel_rfl) (by kernel_rfl) rfl (.inl fun _ _ => trivial) ⟨(hS135.hasK (KLe.refl _)), (fun _ => hS135.hasObj (.tail _ (.head _))), by decide⟩ wn rfl (fun _ _ => (rv_move rfl)) ?_
    refine wg_one (i := 3) (by kernel_rfl) rfl ?_
    refine wl_buildSlice (t := tInt) (n := 2) (pv := [(0, .int .i64 (-1)), (1, .int .i64 1000000000)]) (cs := [.int .i64 (-1), .int .i64 1000000000]) (xs := [(-1 : Int), (1000000000 : Int)]) wn rfl Try.underlying24 tf3 rfl rfl rfl (by kernel_rfl) rfl rfl (lit_cons (u := .int .i64 (-1)) (z := (-1 : Int)) ⟨rfl, (by decide : rng64 (-1))⟩ (lit_cons (u := .int .i64 1000000000) (z := (1000000000 : Int)) ⟨rfl, (by decide : rng64 1000000000)⟩ lit_nil)) hS135 ?_
    intro a136 w137 K138 hl139 hs140 hS141
    refine wl_nil (qe_held (listed' := #[true, true, true, true, false, false, false, false, false, false]) rfl ⟨(hS141.hasK hl139), (fun _ => hS141.hasObj (.tail _ (.tail _ (.head _)))), by decide⟩ ?_)
    refine wg_one (i := 4) (by kernel_rfl) rfl ?_
    obtain ⟨r142, hx143, h144⟩ := ob h133
    have hS145 : SH _ _ _ _ _ [_, _, _, _, _, _] := SH.front (p := [_]) hS141
    refine wl_call wn rfl (rt_call (vs := [.pointer (some ⟨g1, 0, none⟩), .slice a136 2 2]) co112 rfl) ((ok_spec_l30Rd_one F) (SH.enter (Lin := [_]) hS145) (SliceAt.mono hl139 hs65) hr66 hs140 hx143) ?_
    rintro e155 w147 ⟨a150, n151, c152, K146, rfl, hS148, hr149, hs153, hr154⟩
    refine ⟨_, rfl, ?_⟩
    have hS156 : SH _ _ _ _ _ [_, _, _, _, _, _] := SH.call (Lin := [_]) hS145 hS148
    refine wl_nil (qe_held (listed' := #[true, true, true, true, true, false, false, false, false, false]) rfl ⟨(hS156.hasK (hl139.trans hS148.le)), (fun _ => hS156.hasObj (.tail _ (.tail _ (.head _)))), by decide⟩ ?_)
    refine wg_val (i := 5) (listed' := #[true, true, true, true, true, true, false, false, false, false]) (fun _ => True) rfl (by kernel_rfl) (pk_block (pk_then pk_body)) (by kernel_rfl) rfl (by kernel_rfl) (by kernel_rfl) rfl (.inl fun _ _ => trivial) ⟨(hS156.hasK (hl139.trans hS148.le)), (fun _ => hS156.hasObj (.tail _ (.tail _ (.head _)))), by decide⟩ wn rfl (fun _ _ => (rv_build (cs := #[sv [122, 122], .int .i64 r142.1]) sp133 tf133 rfl (by kernel_rfl))) ?_
    refine wg_one (i := 6) (by kernel_rfl) rfl ?_
    refine wl_buildSlice (t := tGAttr) (n := 1) (pv := [(0, .agg #[sv [122, 122], .int .i64 r142.1])]) (cs := [sv [122, 122], .int .i64 r142.1]) (xs := [(GAttr.mk ([122, 122] : Str) r142.1)]) wn rfl Try.underlying47 tf133 rfl rfl rfl (by kernel_rfl) rfl rfl (lit_cons (u := .agg #[sv [122, 122], .int .i64 r142.1]) (z := (GAttr.mk ([122, 122] : Str) r142.1)) ⟨rfl, (by decide : ([122, 122] : Str).length ≤ maxLen), hr149⟩ lit_nil) hS156 ?_
    intro a157 w158 K159 hl160 hs161 hS162
    refine wl_nil (qe_held (listed' := #[true, true, true, true, true, true, true, false, false, false]) rfl ⟨(hS162.hasK ((hl139.trans hS148.le).trans hl160)), (fun _ => hS162.hasObj (.tail _ (.tail _ (.tail _ (.head _))))), by decide⟩ ?_)
    refine wg_one (i := 7) (by kernel_rfl) rfl ?_
    have hS163 : SH _ _ _ _ _ [_, _, _, _, _, _, _] := SH.front (p := [_, _, _, _, _]) hS162
    obtain ⟨x164, hx165, h166⟩ := ob h144
    refine wl_append (t := tGAttr) wn rfl Try.underlying47 tf133 rfl rfl rfl rfl rfl (SliceAt.mono (((hS60.le.trans hl139).trans hS148.le).trans hl160) hs40) hs161 hx165 hS163 ?_
    intro a167 n168 c169 w170 K171 hl172 hs173 hS174
    refine wl_nil (qe_held (listed' := #[true, true, true, true, true, true, true, true, false, false]) rfl ⟨(hS174.hasK (((hl139.trans hS148.le).trans hl160).trans hl172)), (fun _ => hS174.hasObj (.tail _ (.tail _ (.tail _ (.tail _ (.head _)))))), by decide⟩ ?_)
    refine wg_val (i := 8) (listed' := #[true, true, true, true, true, true, true, true, true, false]) (fun _ => True) rfl (by kernel_rfl) (pk_block (pk_then pk_body)) (by kernel_rfl) rfl (by kernel_rfl) (by kernel_rfl) rfl (.inl fun _ _ => trivial) ⟨(hS174.hasK (((hl139.trans hS148.le).trans hl160).trans hl172)), (fun _ => hS174.hasObj (.tail _ (.tail _ (.tail _ (.tail _ (.head _)))))), by decide⟩ wn rfl (fun _ _ => (rv_fieldAddr ff49_2 rfl)) ?_
    refine wg_one (i := 9) (by kernel_rfl) rfl ?_
    have hS175 : SH _ _ _ _ _ [_, _, _, _, _, _, _] := SH.front (p := [_, _, _, _]) hS174
    refine wl_store (cs' := [.int .i64 r26.1.Id, .slice a33 n34 c35, .slice a167 n168 c169]) (v := .slice a167 n168 c169) wn tf47 rfl rfl rfl (by simp [Value.cells, Value.oneCell']) hS175 rfl rfl ?_
    intro w176 hS177
    refine wl_nil (qe_held (listed' := #[true, true, true, true, true, true, true, true, true, true]) rfl ⟨(hS177.hasK (((hl139.trans hS148.le).trans hl160).trans hl172)), (fun h => nomatch h), by decide⟩ ?_)
    refine wg_done (by kernel_rfl) ?_
    refine qe_block ?_
    refine qr ?_
    refine wl_val wn rfl (rv_loadmS (ds := [.int .i64 r26.1.Id, .slice a33 n34 c35, .slice a167 n168 c169]) tf49 rfl (.head _) hS177 rfl rfl) ?_
    have hS178 : SH _ _ _ _ _ [_, _, _, _, _, _, _] := SH.front (p := [_, _, _, _, _, _]) hS177
    refine wl_store (cs' := [.int .i64 r26.1.Id, .slice a33 n34 c35, .slice a167 n168 c169]) (v := .agg #[.int .i64 r26.1.Id, .slice a33 n34 c35, .slice a167 n168 c169]) wn tf49 rfl rfl rfl (by simp [Value.cells, Value.oneCell']) hS178 rfl rfl ?_
    intro w179 hS180
    refine nq ?_
    refine wc_ret ?_
    obtain rfl := oi h166
    have hS181 : SH _ _ _ _ _ [_, _, _, _, _, _, _] := SH.front (p := [_, _, _, _]) hS180
    have hS182 : SH _ _ _ _ _ [_, _, _, _, _, _, _] := SH.front (p := [_, _, _]) hS181
    have hS183 : SH _ _ _ _ _ [_, _, _, _, _, _, _] := SH.front (p := [_, _, _, _, _, _]) hS182
    have hS184 : SH _ _ _ _ _ [_, _, _] := SH.sublist hS183 (.cons_cons _ (.cons_cons _ (.cons_cons _ (.cons _ (.cons _ (.cons _ (.cons _ .slnil)))))))
    exact qe_ret (vs := [_]) Try.results78 ⟨⟨_, _, rfl, run_loadVar_at tf49 (cs := [.int .i64 r26.1.Id, .slice a33 n34 c35, .slice a167 n168 c169]) (fun j c e => by rw [Nat.zero_add, hS180.mem_obj (.head _)]; exact e) (.inl ⟨rfl, rfl, rfl⟩)⟩, trivial⟩ ⟨a33, n34, c35, a167, n168, c169, a150, n151, c152, K171, rfl, hS184, hr32, (SliceAt.mono ((((hS60.le.trans hl139).trans hS148.le).trans hl160).trans hl172) hs36), hs173, (SliceAt.mono (hl160.trans hl172) hs153), hr154⟩
   ·have h133 := cond_f hb132 h103
    refine sr ?_
    refine wl_val wn rfl (rv_eql rfl rfl) ?_
    refine va rfl rfl ?_
    refine nq ?_
    refine wc_cond rfl (fun hb185 => ?_) (fun hb185 => ?_)
    ·have h186 := cond_t hb185 h133
     refine wc_held (fun w' => Holds K58 w') (fun w' => HasObj g48 [.int .i64 r26.1.Id, .slice a33 n34 c35, .slice a37 n38 c39] w') 8 [(1, 6), (1, 7), (1, 8), (6, 7), (6, 8), (7, 8)] mixed ?_
     have hS188 := SH.drew hS68
     refine wg_val (i := 0) (listed' := #[true, false, false, false, false, false, false, false, false]) (fun _ => True) rfl (by kernel_rfl) (pk_block (pk_then pk_body)) (by kernel_rfl) rfl (by kernel_rfl) (by kernel_rfl) rfl (.inl fun _ _ => trivial) ⟨(hS188.hasK (KLe.refl _)), (fun _ => hS188.hasObj (.tail _ (.head _))), by decide⟩ wn rfl (fun _ _ => (rv_fieldAddr ff49_1 rfl)) ?_
     refine wg_val (i := 1) (listed' := #[true, true, false, false, false, false, false, false, false]) (HasObj g48 [.int .i64 r26.1.Id, .slice a33 n34 c35, .slice a37 n38 c39]) rfl (by kernel_rfl) (pk_block (pk_then pk_body)) (by kernel_rfl) rfl (by kernel_rfl) (by kernel_rfl) rfl (.inr ⟨rfl, fun _ _ h => h⟩) ⟨(hS188.hasK (KLe.refl _)), (fun _ => hS188.hasObj (.tail _ (.head _))), by decide⟩ wn rfl (fun _ h => rh_loadm1 tf46 rfl rfl h) ?_
     refine wg_val (i := 2) (listed' := #[true, true, true, false, false, false, false, false, false]) (fun _ => True) rfl (by kernel_rfl) (pk_block (pk_then pk_body)) (by kernel_rfl) rfl (by kernel_rfl) (by kernel_rfl) rfl (.inl fun _ _ => trivial) ⟨(hS188.hasK (KLe.refl _)), (fun _ => hS188.hasObj (.tail _ (.head _))), by decide⟩ wn rfl (fun _ _ => (rv_move rfl)) ?_
     refine wg_one (i := 3) (by kernel_rfl) rfl ?_
     obtain ⟨r189, hx190, h191⟩ := ob h186
     refine wl_call wn rfl (rt_call (vs := [.pointer (some ⟨g1, 0, none⟩)]) co113 rfl) ((ok_spec_l30AnyText F) (SH.enter (Lin := [_]) hS188) hs65 hr66 hx190) ?_
     rintro e201 w193 ⟨a196, n197, c198, K192, rfl, hS194, hl195, hs199, hr200⟩
     refine ⟨_, rfl, ?_⟩
     have hS202 : SH _ _ _ _ _ [_, _, _, _, _] := SH.call (Lin := [_]) hS188 hS194
     refine wl_nil (qe_held (listed' := #[true, true, true, true, false, false, false, false, false]) rfl ⟨(hS202.hasK hS194.le), (fun _ => hS202.hasObj (.tail _ (.head _))), by decide⟩ ?_)
     refine wg_val (i := 4) (listed' := #[true, true, true, true, true, false, false, false, false]) (fun _ => True) rfl (by kernel_rfl) (pk_block (pk_then pk_body)) (by kernel_rfl) rfl (by kernel_rfl) (by kernel_rfl) rfl (.inl fun _ _ => trivial) ⟨(hS202.hasK hS194.le), (fun _ => hS202.hasObj (.tail _ (.head _))), by decide⟩ wn rfl (fun _ _ => (rv_build (cs := #[sv [122, 101, 100], sv r189.1]) sp107 tf107 rfl (by kernel_rfl))) ?_
     refine wg_one (i := 5) (by kernel_rfl) rfl ?_
     refine wl_buildSlice (t := tGField) (n := 1) (pv := [(0, .agg #[sv [122, 101, 100], sv r189.1])]) (cs := [sv [122, 101, 100], sv r189.1]) (xs := [(GField.mk ([122, 101, 100] : Str) r189.1)]) wn rfl Try.underlying46 tf107 rfl rfl rfl (by kernel_rfl) rfl rfl (lit_cons (u := .agg #[sv [122, 101, 100], sv r189.1]) (z := (GField.mk ([122, 101, 100] : Str) r189.1)) ⟨rfl, (by decide : ([122, 101, 100] : Str).length ≤ maxLen), hl195⟩ lit_nil) hS202 ?_
     intro a203 w204 K205 hl206 hs207 hS208
     refine wl_nil (qe_held (listed' := #[true, true, true, true, true, true, false, false, false]) rfl ⟨(hS208.hasK (hS194.le.trans hl206)), (fun _ => hS208.hasObj (.tail _ (.tail _ (.head _)))), by decide⟩ ?_)
     refine wg_one (i := 6) (by kernel_rfl) rfl ?_
     have hS209 : SH _ _ _ _ _ [_, _, _, _, _, _] := SH.front (p := [_, _, _]) hS208
     obtain ⟨x210, hx211, h212⟩ := ob h191
     refine wl_append (t := tGField) wn rfl Try.underlying46 tf107 rfl rfl rfl rfl rfl (SliceAt.mono ((hS60.le.trans hS194.le).trans hl206) hs36) hs207 hx211 hS209 ?_
     intro a213 n214 c215 w216 K217 hl218 hs219 hS220
     refine wl_nil (qe_held (listed' := #[true, true, true, true, true, true, true, false, false]) rfl ⟨(hS220.hasK ((hS194.le.trans hl206).trans hl218)), (fun _ => hS220.hasObj (.tail _ (.tail _ (.tail _ (.head _))))), by decide⟩ ?_)
     refine wg_val (i := 7) (listed' := #[true, true, true, true, true, true, true, true, false]) (fun _ => True) rfl (by kernel_rfl) (pk_block (pk_then pk_body)) (by kernel_rfl) rfl (by kernel_rfl) (by kernel_rfl) rfl (.inl fun _ _ => trivial) ⟨(hS220.hasK ((hS194.le.trans hl206).trans hl218)), (fun _ => hS220.hasObj (.tail _ (.tail _ (.tail _ (.head _))))), by decide⟩ wn rfl (fun _ _ => (rv_fieldAddr ff49_1 rfl)) ?_
     refine wg_one (i := 8) (by kernel_rfl) rfl ?_
     have hS221 : SH _ _ _ _ _ [_, _, _, _, _, _] := SH.front (p := [_, _, _]) hS220
     refine wl_store (cs' := [.int .i64 r26.1.Id, .slice a213 n214 c215, .slice a37 n38 c39]) (v := .slice a213 n214 c215) wn tf46 rfl rfl rfl (by simp [Value.cells, Value.oneCell']) hS221 rfl rfl ?_
     intro w222 hS223
     refine wl_nil (qe_held (listed' := #[true, true, true, true, true, true, true, true, true]) rfl ⟨(hS223.hasK ((hS194.le.trans hl206).trans hl218)), (fun h => nomatch h), by decide⟩ ?_)
     refine wg_done (by kernel_rfl) ?_
     refine qe_block ?_
     refine qr ?_
     refine wl_val wn rfl (rv_loadmS (ds := [.int .i64 r26.1.Id, .slice a213 n214 c215, .slice a37 n38 c39]) tf49 rfl (.head _) hS223 rfl rfl) ?_
     have hS224 : SH _ _ _ _ _ [_, _, _, _, _, _] := SH.front (p := [_, _, _, _, _]) hS223
     refine wl_store (cs' := [.int .i64 r26.1.Id, .slice a213 n214 c215, .slice a37 n38 c39]) (v := .agg #[.int .i64 r26.1.Id, .slice a213 n214 c215, .slice a37 n38 c39]) wn tf49 rfl rfl rfl (by simp [Value.cells, Value.oneCell']) hS224 rfl rfl ?_
     intro w225 hS226
     refine nq ?_
     refine wc_ret ?_
     obtain rfl := oi h212
     have hS227 : SH _ _ _ _ _ [_, _, _, _, _, _] := SH.front (p := [_, _, _, _]) hS226
     have hS228 : SH _ _ _ _ _ [_, _, _, _, _, _] := SH.front (p := [_, _, _, _, _]) hS227
     have hS229 : SH _ _ _ _ _ [_, _, _, _, _, _] := SH.front (p := [_, _, _, _]) hS228
     have hS230 : SH _ _ _ _ _ [_, _, _] := SH.sublist hS229 (.cons_cons _ (.cons_cons _ (.cons_cons _ (.cons _ (.cons _ (.cons _ .slnil))))))
     exact qe_ret (vs := [_]) Try.results78 ⟨⟨_, _, rfl, run_loadVar_at tf49 (cs := [.int .i64 r26.1.Id, .slice a213 n214 c215, .slice a37 n38 c39]) (fun j c e => by rw [Nat.zero_add, hS226.mem_obj (.head _)]; exact e) (.inl ⟨rfl, rfl, rfl⟩)⟩, trivial⟩ ⟨a213, n214, c215, a37, n38, c39, a196, n197, c198, K217, rfl, hS230, hr32, hs219, (SliceAt.mono (((hS60.le.trans hS194.le).trans hl206).trans hl218) hs40), (SliceAt.mono (hl206.trans hl218) hs199), hr200⟩
    ·have h186 := cond_f hb185 h133
     refine wc_skip ?_
     refine qe_block ?_
     refine qr ?_
     refine wl_val wn rfl (rv_loadmS (ds := [.int .i64 r26.1.Id, .slice a33 n34 c35, .slice a37 n38 c39]) tf49 rfl (.tail _ (.head _)) hS68 rfl rfl) ?_
     have hS231 : SH _ _ _ _ _ [_, _, _, _, _] := SH.front (p := [_, _, _, _]) hS68
     refine wl_store (cs' := [.int .i64 r26.1.Id, .slice a33 n34 c35, .slice a37 n38 c39]) (v := .agg #[.int .i64 r26.1.Id, .slice a33 n34 c35, .slice a37 n38 c39]) wn tf49 rfl rfl rfl (by simp [Value.cells, Value.oneCell']) hS231 rfl rfl ?_
     intro w232 hS233
     refine nq ?_
     refine wc_ret ?_
     obtain rfl := oi h186
     have hS234 : SH _ _ _ _ _ [_, _, _, _, _] := SH.front (p := [_]) hS233
     have hS235 : SH _ _ _ _ _ [_, _, _, _, _] := SH.front (p := [_, _, _, _]) hS234
     have hS236 : SH _ _ _ _ _ [_, _, _, _, _] := SH.front (p := [_, _, _, _]) hS235
     have hS237 : SH _ _ _ _ _ [_, _, _] := SH.sublist hS236 (.cons_cons _ (.cons_cons _ (.cons_cons _ (.cons _ (.cons _ .slnil)))))
     exact qe_ret (vs := [_]) Try.results78 ⟨⟨_, _, rfl, run_loadVar_at tf49 (cs := [.int .i64 r26.1.Id, .slice a33 n34 c35, .slice a37 n38 c39]) (fun j c e => by rw [Nat.zero_add, hS233.mem_obj (.head _)]; exact e) (.inl ⟨rfl, rfl, rfl⟩)⟩, trivial⟩ ⟨a33, n34, c35, a37, n38, c39, a62, n63, c64, K58, rfl, hS237, hr32, (SliceAt.mono hS60.le hs36), (SliceAt.mono hS60.le hs40), hs65, hr66⟩
end Go.Proofs.Ytdcmmhjhffcnhaa
