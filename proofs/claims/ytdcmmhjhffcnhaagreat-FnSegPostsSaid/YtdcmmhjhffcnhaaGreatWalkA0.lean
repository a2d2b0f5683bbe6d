/-
 Walks of the functions. Printed by gen.py.
-/
import Derived.Test.YtdcmmhjhffcnhaaGreatFacts
set_option linter.unusedVariables false
set_option maxRecDepth 100000
namespace Go.Proofs.YtdcmmhjhffcnhaaGreat
open Go Go.Fk Go.RowKit

theorem ok_spec_l30Open (F : Nat) {w : World} {K : KMap} {a1 : Option Addr} {n2 c3 : Nat} {p0_code : List UInt8} {r : GL30Rd} (hS : SH w K [] w K []) (hs4 : SliceAt tU8 K a1 n2 c3 p0_code) (hm : M.spec_l30Open F p0_code = some r) :
  Calls Tryz.prog 43 #[.slice a1 n2 c3] w fun e w' => ∃ (g_1 : Nat) (a_2 : Option Addr) (n_3 c_4 : Nat) (K' : KMap), e = .returned (.pointer (some ⟨g_1, 0, none⟩)) ∧ SH w K [] w' K' [obj g_1 [.slice a_2 n_3 c_4, .int .i64 r.p_] 141] ∧ SliceAt tU8 K' a_2 n_3 c_4 r.b_ ∧ rng64 r.p_ := by
 rw [M.spec_l30Open] at hm
 refine calls_in Tryz.func43 rfl Tryz.ntmps43 rfl ?_
 refine sr ?_
 refine wl_val wn rfl (rv_assign (v := .pointer none) rfl) ?_
 refine nsr ?_
 refine vm rfl rfl ?_
 refine wl_val wn rfl (rv_len (t := tU8) Tryz.underlying22 rfl hs4) ?_
 refine wl_val wn rfl (rv_gtr rfl rfl) ?_
 refine nq ?_
 refine wc_cond rfl (fun hb5 => ?_) (fun hb5 => ?_)
 ·have h6 := cond_t hb5 hm
  refine wc_region ?_
  refine vm rfl rfl ?_
  obtain ⟨x7, hx8, h9⟩ := ob h6
  refine wl_sl_h (t := tU8) wn rfl Tryz.underlying22 tf5 rfl rfl hs4 hx8 ?_
  intro a10 n11 c12 hs13
  refine va rfl rfl ?_
  refine nr ?_
  refine vm rfl rfl ?_
  refine wl_val wn rfl (rv_build (cs := #[.slice a10 n11 c12, .int .i64 0]) sp141 tf141 rfl (by kernel_rfl)) ?_
  refine wl_box wn rfl rfl hS ?_
  intro g14 w15 hS16
  have hS17 : SH _ _ _ _ _ [obj g14 [.slice a10 n11 c12, .int .i64 0] 141] := hS16
  refine va rfl rfl ?_
  refine nq ?_
  refine wc_ret ?_
  obtain rfl := oi h9
  exact qe_ret (vs := [_]) Tryz.results43 ⟨rfl, trivial⟩ ⟨g14, a10, n11, c12, K, rfl, hS17, hs13, (by decide : rng64 0)⟩
 ·have h6 := cond_f hb5 hm
  refine wc_skip ?_
  refine qr ?_
  refine vm rfl rfl ?_
  refine wl_val wn rfl (rv_build (cs := #[.slice a1 n2 c3, .int .i64 0]) sp141 tf141 rfl (by kernel_rfl)) ?_
  refine wl_box wn rfl rfl hS ?_
  intro g18 w19 hS20
  have hS21 : SH _ _ _ _ _ [obj g18 [.slice a1 n2 c3, .int .i64 0] 141] := hS20
  refine va rfl rfl ?_
  refine nq ?_
  refine wc_ret ?_
  obtain rfl := oi h6
  exact qe_ret (vs := [_]) Tryz.results43 ⟨rfl, trivial⟩ ⟨g18, a1, n2, c3, K, rfl, hS21, hs4, (by decide : rng64 0)⟩

set_option maxHeartbeats 2000000 in
theorem ok_spec_l7Put (F : Nat) {w : World} {K : KMap} {a1 : Option Addr} {n2 c3 : Nat} {p0_list : List Str} {p1_s : Str} {r : (List Str)} (hS : SH w K (List.flatMap Item.gs [tail (.slice a1 n2 c3) 9 1]) w K [tail (.slice a1 n2 c3) 9 1]) (hs4 : SliceAt tStr K a1 n2 c3 p0_list) (hl5 : p1_s.length ≤ maxLen) (hm : M.spec_l7Put F p0_list p1_s = some r) :
  Calls Tryz.prog 147 #[.slice a1 n2 c3, sv p1_s] w fun e w' => ∃ (a_1 : Option Addr) (n_2 c_3 : Nat) (K' : KMap), e = .returned (.slice a_1 n_2 c_3) ∧ SH w K (List.flatMap Item.gs [tail (.slice a1 n2 c3) 9 1]) w' K' [tail (.slice a_1 n_2 c_3) 9 1] ∧ SliceAt tStr K' a_1 n_2 c_3 r := by
 rw [M.spec_l7Put] at hm
 refine calls_in Tryz.func147 rfl Tryz.ntmps147 rfl ?_
 refine sr ?_
 refine wl_val wn rfl (rv_assign (v := .slice none 0 0) rfl) ?_
 refine nr ?_
 refine wl_val wn rfl (rv_assign (v := .int .i64 0) rfl) ?_
 refine ns ?_
 obtain ⟨o6, h7, h8⟩ := ob hm
 refine wc_cutg (fun E' w' => ∃ (K9 : KMap), E' = [(0, .slice a1 n2 c3), (1, sv p1_s), (5, .int .i64 o6)] ∧ SH w K (List.flatMap Item.gs [tail (.slice a1 n2 c3) 9 1]) w' K9 [tail (.slice a1 n2 c3) 9 1] ∧ KLe K K9 ∧ rng64 o6) ?_ ?_
 ·refine wc_block ?_
  obtain ⟨r15, h16, h17⟩ := ob h7
  refine wc_while' (fun (s14 : Int) E' w' => ∃ (K18 : KMap), E' = [(0, .slice a1 n2 c3), (1, sv p1_s), (5, .int .i64 s14)] ∧ SH w K (List.flatMap Item.gs [tail (.slice a1 n2 c3) 9 1]) w' K18 [tail (.slice a1 n2 c3) 9 1] ∧ KLe K K18 ∧ rng64 s14) h16 ⟨K, rfl, hS, (KLe.refl _), (by decide : rng64 0)⟩ ⟨rfl, rfl, rfl, trivial⟩ ?_
  rintro s14 _ w20 r23 h24 hx25 ⟨K18, rfl, hS21, hl19, hr22⟩
  refine wc_seq ?_
  refine wc_seq ?_
  obtain ⟨o26, h27, h28⟩ := ob h24
  refine wc_cutg (fun E' w' => ∃ (K29 : KMap), E' = [(0, .slice a1 n2 c3), (1, sv p1_s), (5, .int .i64 s14), (18, .bool o26)] ∧ SH w K (List.flatMap Item.gs [tail (.slice a1 n2 c3) 9 1]) w' K29 [tail (.slice a1 n2 c3) 9 1] ∧ KLe K18 K29) ?_ ?_
  ·refine wc_region ?_
   refine vm rfl rfl ?_
   refine vm rfl rfl ?_
   refine wl_val wn rfl (rv_len (t := tStr) Tryz.underlying23 rfl (SliceAt.mono hl19 hs4)) ?_
   refine wl_val wn rfl (rv_lss rfl rfl) ?_
   refine vm rfl rfl ?_
   rcases bool_tf (decide (s14 < (p0_list.length : Int))) with hb33 | hb33
   ·have h34 := cond_t hb33 h27
    refine wl_val (wg rfl rfl hb33) rfl (rv_move rfl) ?_
    refine wl_val (wg rfl rfl hb33) rfl (rv_move rfl) ?_
    obtain ⟨x35, hx36, h37⟩ := ob h34
    refine wl_indexAddr (t := tStr) (wg rfl rfl hb33) rfl Tryz.underlying23 tf9 rfl rfl (SliceAt.mono hl19 hs4) hx36 ?_
    intro b38 o39 u40 hu41 ha42
    obtain ⟨rfl, hl43⟩ := hu41
    have ha44 : AtK _ b38 o39 [sv x35] := ha42
    refine wl_val (wg rfl rfl hb33) rfl (rv_load1 tf9 rfl hS21 (ha44 0 _ rfl)) ?_
    refine wl_val (wg rfl rfl hb33) rfl (rv_move rfl) ?_
    refine wl_val (wg rfl rfl hb33) rfl (rv_slss rfl rfl) ?_
    refine wl_val wn rfl (rv_pick_t rfl hb33 rfl) ?_
    refine wl_nil ?_
    obtain rfl := oi h37
    exact qe_mid' ⟨K18, rfl, hS21, (KLe.refl _)⟩ ⟨rfl, rfl, rfl, rfl, trivial⟩
   ·have h34 := cond_f hb33 h27
    refine wl_un (ug rfl rfl hb33) rfl ?_
    refine wl_un (ug rfl rfl hb33) rfl ?_
    refine wl_un (ug rfl rfl hb33) rfl ?_
    refine wl_un (ug rfl rfl hb33) rfl ?_
    refine wl_un (ug rfl rfl hb33) rfl ?_
    refine wl_un (ug rfl rfl hb33) rfl ?_
    refine wl_val wn rfl (rv_pick_f (v := .bool false) rfl hb33 rfl) ?_
    refine wl_nil ?_
    obtain rfl := oi h34
    exact qe_mid' ⟨K18, rfl, hS21, (KLe.refl _)⟩ ⟨rfl, rfl, rfl, rfl, trivial⟩
  ·rintro _ w31 ⟨K29, rfl, hS32, hl30⟩
   refine qe_seq ?_
   refine wc_cond rfl (fun hb45 => ?_) (fun hb45 => ?_)
   ·have h46 := cond_t hb45 h28
    refine wc_skip ?_
    refine qe_seq ?_
    refine wc_block ?_
    refine wc_region ?_
    refine vm rfl rfl ?_
    refine wl_val wn rfl (rv_add rfl rfl) ?_
    refine va rfl rfl ?_
    refine nb ?_
    obtain rfl := oi h46
    exact qe_mid' ⟨_, rfl, K29, rfl, hS32, (hl19.trans hl30), (w64_rng _)⟩ ⟨rfl, rfl, rfl, trivial⟩
   ·have h46 := cond_f hb45 h28
    refine wc_exit ?_
    refine qe_then_exit ?_
    refine qe_then_exit ?_
    obtain rfl := oi h46
    have e47 := hx25 _ rfl
    subst e47
    refine qe_block_eq ?_
    obtain rfl := oi h17
    exact qe_mid' ⟨K29, rfl, hS32, (hl19.trans hl30), hr22⟩ ⟨rfl, rfl, rfl, trivial⟩
 ·rintro _ w11 ⟨K9, rfl, hS12, hl10, hr13⟩
  refine qs ?_
  refine wc_seq ?_
  obtain ⟨o48, h49, h50⟩ := ob h8
  refine wc_cutg (fun E' w' => ∃ (K51 : KMap), E' = [(0, .slice a1 n2 c3), (1, sv p1_s), (5, .int .i64 o6), (32, .bool o48)] ∧ SH w K (List.flatMap Item.gs [tail (.slice a1 n2 c3) 9 1]) w' K51 [tail (.slice a1 n2 c3) 9 1] ∧ KLe K9 K51) ?_ ?_
  ·refine wc_region ?_
   refine vm rfl rfl ?_
   refine vm rfl rfl ?_
   refine wl_val wn rfl (rv_len (t := tStr) Tryz.underlying23 rfl (SliceAt.mono hl10 hs4)) ?_
   refine wl_val wn rfl (rv_lss rfl rfl) ?_
   refine vm rfl rfl ?_
   rcases bool_tf (decide (o6 < (p0_list.length : Int))) with hb55 | hb55
   ·have h56 := cond_t hb55 h49
    refine wl_val (wg rfl rfl hb55) rfl (rv_move rfl) ?_
    refine wl_val (wg rfl rfl hb55) rfl (rv_move rfl) ?_
    obtain ⟨x57, hx58, h59⟩ := ob h56
    refine wl_indexAddr (t := tStr) (wg rfl rfl hb55) rfl Tryz.underlying23 tf9 rfl rfl (SliceAt.mono hl10 hs4) hx58 ?_
    intro b60 o61 u62 hu63 ha64
    obtain ⟨rfl, hl65⟩ := hu63
    have ha66 : AtK _ b60 o61 [sv x57] := ha64
    refine wl_val (wg rfl rfl hb55) rfl (rv_load1 tf9 rfl hS12 (ha66 0 _ rfl)) ?_
    refine wl_val (wg rfl rfl hb55) rfl (rv_move rfl) ?_
    refine wl_val (wg rfl rfl hb55) rfl (rv_seql rfl rfl) ?_
    refine wl_val wn rfl (rv_pick_t rfl hb55 rfl) ?_
    refine wl_nil ?_
    obtain rfl := oi h59
    exact qe_mid' ⟨K9, rfl, hS12, (KLe.refl _)⟩ ⟨rfl, rfl, rfl, rfl, trivial⟩
   ·have h56 := cond_f hb55 h49
    refine wl_un (ug rfl rfl hb55) rfl ?_
    refine wl_un (ug rfl rfl hb55) rfl ?_
    refine wl_un (ug rfl rfl hb55) rfl ?_
    refine wl_un (ug rfl rfl hb55) rfl ?_
    refine wl_un (ug rfl rfl hb55) rfl ?_
    refine wl_un (ug rfl rfl hb55) rfl ?_
    refine wl_val wn rfl (rv_pick_f (v := .bool false) rfl hb55 rfl) ?_
    refine wl_nil ?_
    obtain rfl := oi h56
    exact qe_mid' ⟨K9, rfl, hS12, (KLe.refl _)⟩ ⟨rfl, rfl, rfl, rfl, trivial⟩
  ·rintro _ w53 ⟨K51, rfl, hS54, hl52⟩
   refine qe_seq ?_
   refine wc_cond rfl (fun hb67 => ?_) (fun hb67 => ?_)
   ·have h68 := cond_t hb67 h50
    refine sr ?_
    refine vm rfl rfl ?_
    refine va rfl rfl ?_
    refine nq ?_
    refine rr ?_
    obtain rfl := oi h68
    exact qe_ret (vs := [_]) Tryz.results147 ⟨rfl, trivial⟩ ⟨a1, n2, c3, K51, rfl, hS54, (SliceAt.mono (hl10.trans hl52) hs4)⟩
   ·have h68 := cond_f hb67 h50
    refine wc_skip ?_
    refine qr ?_
    refine wl_buildSlice0 tStr wn rfl Tryz.underlying23 tf9 hS54 ?_
    intro a69 w70 K71 hl72 hs73 hS74
    refine vm rfl rfl ?_
    refine vm rfl rfl ?_
    obtain ⟨x75, hx76, h77⟩ := ob h68
    refine wl_sl_h (t := tStr) wn rfl Tryz.underlying23 tf9 rfl rfl (SliceAt.mono ((hl10.trans hl52).trans hl72) hs4) hx76 ?_
    intro a78 n79 c80 hs81
    obtain ⟨x82, hx83, h84⟩ := ob h77
    refine wl_append (t := tStr) wn rfl Tryz.underlying23 tf9 rfl rfl rfl rfl rfl hs73 hs81 hx83 hS74 ?_
    intro a85 n86 c87 w88 K89 hl90 hs91 hS92
    refine va rfl rfl ?_
    refine nr ?_
    refine vm rfl rfl ?_
    refine vm rfl rfl ?_
    refine wl_buildSlice (t := tStr) (n := 1) (pv := [(0, sv p1_s)]) (cs := [sv p1_s]) (xs := [p1_s]) wn rfl Tryz.underlying23 tf9 rfl rfl rfl (by kernel_rfl) rfl rfl (lit_cons (u := sv p1_s) (z := p1_s) ⟨rfl, hl5⟩ lit_nil) hS92 ?_
    intro a93 w94 K95 hl96 hs97 hS98
    have hS99 : SH _ _ _ _ _ [_, _, _] := SH.front (p := [_]) hS98
    obtain ⟨x100, hx101, h102⟩ := ob h84
    refine wl_append (t := tStr) wn rfl Tryz.underlying23 tf9 rfl rfl rfl rfl rfl (SliceAt.mono hl96 hs91) hs97 hx101 hS99 ?_
    intro a103 n104 c105 w106 K107 hl108 hs109 hS110
    refine va rfl rfl ?_
    refine nr ?_
    refine vm rfl rfl ?_
    refine vm rfl rfl ?_
    refine vm rfl rfl ?_
    obtain ⟨x111, hx112, h113⟩ := ob h102
    refine wl_sl_l (t := tStr) wn rfl Tryz.underlying23 tf9 rfl rfl (SliceAt.mono (((((hl10.trans hl52).trans hl72).trans hl90).trans hl96).trans hl108) hs4) hx112 ?_
    intro a114 n115 c116 hs117
    obtain ⟨x118, hx119, h120⟩ := ob h113
    refine wl_append (t := tStr) wn rfl Tryz.underlying23 tf9 rfl rfl rfl rfl rfl hs109 hs117 hx119 hS110 ?_
    intro a121 n122 c123 w124 K125 hl126 hs127 hS128
    refine va rfl rfl ?_
    refine nq ?_
    refine wc_ret ?_
    obtain rfl := oi h120
    have hS129 : SH _ _ _ _ _ [_] := SH.sublist hS128 (.cons_cons _ (.cons _ (.cons _ .slnil)))
    exact qe_ret (vs := [_]) Tryz.results147 ⟨rfl, trivial⟩ ⟨a121, n122, c123, K125, rfl, hS129, hs127⟩

set_option maxHeartbeats 2000000 in
theorem ok_spec_l7Names (F : Nat) {w : World} {K : KMap} {a1 : Option Addr} {n2 c3 : Nat} {p0_docs : List GDoc} {r : (List Str)} (hS : SH w K [] w K []) (hs4 : SliceAt tGDoc K a1 n2 c3 p0_docs) (hm : M.spec_l7Names F p0_docs = some r) :
  Calls Tryz.prog 114 #[.slice a1 n2 c3] w fun e w' => ∃ (a_1 : Option Addr) (n_2 c_3 : Nat) (K' : KMap), e = .returned (.slice a_1 n_2 c_3) ∧ SH w K [] w' K' [tail (.slice a_1 n_2 c_3) 9 1] ∧ SliceAt tStr K' a_1 n_2 c_3 r := by
 rw [M.spec_l7Names] at hm
 refine calls_in Tryz.func114 rfl Tryz.ntmps114 rfl ?_
 refine sr ?_
 refine wl_val wn rfl (rv_assign (v := .slice none 0 0) rfl) ?_
 refine nr ?_
 refine wl_buildSlice0 tStr wn rfl Tryz.underlying23 tf9 hS ?_
 intro a5 w6 K7 hl8 hs9 hS10
 refine va rfl rfl ?_
 refine nsr ?_
 refine wl_val wn rfl (rv_assign (v := .int .i64 0) rfl) ?_
 refine nq ?_
 obtain ⟨o11, h12, h13⟩ := ob hm
 refine wc_cutg (fun E' w' => ∃ (a18 : Option Addr) (n19 c20 : Nat) (K14 : KMap), E' = [(3, .slice a18 n19 c20)] ∧ SH w K [] w' K14 [tail (.slice a18 n19 c20) 9 1] ∧ KLe K7 K14 ∧ SliceAt tStr K14 a18 n19 c20 o11) ?_ ?_
 ·refine wc_block ?_
  obtain ⟨r23, h24, h25⟩ := ob h12
  refine wc_while' (fun (s22 : (List Str) × Int) E' w' => ∃ (a30 : Option Addr) (n31 c32 : Nat) (K26 : KMap), E' = [(0, .slice a1 n2 c3), (3, .slice a30 n31 c32), (4, .int .i64 s22.2)] ∧ SH w K [] w' K26 [tail (.slice a30 n31 c32) 9 1] ∧ KLe K7 K26 ∧ SliceAt tStr K26 a30 n31 c32 s22.1 ∧ rng64 s22.2) h24 ⟨a5, 0, 0, K7, rfl, hS10, (KLe.refl _), hs9, (by decide : rng64 0)⟩ ⟨rfl, rfl, rfl, trivial⟩ ?_
  rintro s22 _ w28 r35 h36 hx37 ⟨a30, n31, c32, K26, rfl, hS29, hl27, hs33, hr34⟩
  refine wc_seq ?_
  refine sr ?_
  refine vm rfl rfl ?_
  refine vm rfl rfl ?_
  refine wl_val wn rfl (rv_len (t := tGDoc) Tryz.underlying27 rfl (SliceAt.mono (hl8.trans hl27) hs4)) ?_
  refine wl_val wn rfl (rv_lss rfl rfl) ?_
  refine nq ?_
  refine wc_cond rfl (fun hb38 => ?_) (fun hb38 => ?_)
  ·have h39 := cond_t hb38 h36
   refine wc_skip ?_
   refine qs ?_
   refine wc_block ?_
   refine sr ?_
   refine wl_val wn rfl (rv_assign (v := .int .i64 0) rfl) ?_
   refine nq ?_
   obtain ⟨o40, h41, h42⟩ := ob h39
   refine wc_cutg (fun E' w' => ∃ (a47 : Option Addr) (n48 c49 : Nat) (K43 : KMap), E' = [(0, .slice a1 n2 c3), (3, .slice a47 n48 c49), (4, .int .i64 s22.2)] ∧ SH w K [] w' K43 [tail (.slice a47 n48 c49) 9 1] ∧ KLe K26 K43 ∧ SliceAt tStr K43 a47 n48 c49 o40) ?_ ?_
   ·refine wc_block ?_
    obtain ⟨r52, h53, h54⟩ := ob h41
    refine wc_while' (fun (s51 : (List Str) × Int) E' w' => ∃ (a59 : Option Addr) (n60 c61 : Nat) (K55 : KMap), E' = [(0, .slice a1 n2 c3), (3, .slice a59 n60 c61), (4, .int .i64 s22.2), (5, .int .i64 s51.2)] ∧ SH w K [] w' K55 [tail (.slice a59 n60 c61) 9 1] ∧ KLe K26 K55 ∧ SliceAt tStr K55 a59 n60 c61 s51.1 ∧ rng64 s51.2) h53 ⟨a30, n31, c32, K26, rfl, hS29, (KLe.refl _), hs33, (by decide : rng64 0)⟩ ⟨rfl, rfl, rfl, rfl, trivial⟩ ?_
    rintro s51 _ w57 r64 h65 hx66 ⟨a59, n60, c61, K55, rfl, hS58, hl56, hs62, hr63⟩
    refine wc_seq ?_
    refine sr ?_
    refine vm rfl rfl ?_
    refine vm rfl rfl ?_
    refine vm rfl rfl ?_
    obtain ⟨x67, hx68, h69⟩ := ob h65
    refine wl_indexAddr (t := tGDoc) wn rfl Tryz.underlying27 tf44 rfl rfl (SliceAt.mono ((hl8.trans hl27).trans hl56) hs4) hx68 ?_
    intro b70 o71 u72 hu73 ha74
    obtain ⟨a76, n77, c78, a80, n81, c82, rfl, hr75, hs79, hs83⟩ := hu73
    have ha84 : AtK _ b70 o71 [.int .i64 x67.Id, .slice a76 n77 c78, .slice a80 n81 c82] := ha74
    refine wl_val wn rfl (rv_fieldAddr ff44_1 rfl) ?_
    refine wl_val wn rfl (rv_load1 tf41 rfl hS58 (ha84 1 _ rfl)) ?_
    refine wl_val wn rfl (rv_len (t := tGField) Tryz.underlying41 rfl hs79) ?_
    refine wl_val wn rfl (rv_lss rfl rfl) ?_
    refine nq ?_
    refine wc_cond rfl (fun hb85 => ?_) (fun hb85 => ?_)
    ·have h86 := cond_t hb85 h69
     refine wc_skip ?_
     refine qs ?_
     refine wc_block ?_
     refine wc_region ?_
     refine vm rfl rfl ?_
     refine vm rfl rfl ?_
     refine vm rfl rfl ?_
     obtain ⟨x87, hx88, h89⟩ := ob h86
     refine wl_indexAddr (t := tGDoc) wn rfl Tryz.underlying27 tf44 rfl rfl (SliceAt.mono ((hl8.trans hl27).trans hl56) hs4) hx88 ?_
     intro b90 o91 u92 hu93 ha94
     obtain ⟨a96, n97, c98, a100, n101, c102, rfl, hr95, hs99, hs103⟩ := hu93
     have ha104 : AtK _ b90 o91 [.int .i64 x87.Id, .slice a96 n97 c98, .slice a100 n101 c102] := ha94
     refine wl_val wn rfl (rv_fieldAddr ff44_1 rfl) ?_
     refine wl_val wn rfl (rv_load1 tf41 rfl hS58 (ha104 1 _ rfl)) ?_
     refine vm rfl rfl ?_
     obtain ⟨x105, hx106, h107⟩ := ob h89
     refine wl_indexAddr (t := tGField) wn rfl Tryz.underlying41 tf109 rfl rfl hs99 hx106 ?_
     intro b108 o109 u110 hu111 ha112
     obtain ⟨rfl, hl113, hl114⟩ := hu111
     have ha115 : AtK _ b108 o109 [sv x105.Name, sv x105.Text] := ha112
     refine wl_val wn rfl (rv_fieldAddr ff109_0 rfl) ?_
     refine wl_val wn rfl (rv_load1 tf9 rfl hS58 (ha115 0 _ rfl)) ?_
     obtain ⟨r116, hx117, h118⟩ := ob h107
     refine wl_call wn rfl (rt_call (vs := [.slice a59 n60 c61, sv x105.Name]) co147 rfl) ((ok_spec_l7Put F) (SH.enter (Lin := [_]) hS58) hs62 hl113 hx117) ?_
     rintro e126 w120 ⟨a122, n123, c124, K119, rfl, hS121, hs125⟩
     refine ⟨_, rfl, ?_⟩
     have hS127 : SH _ _ _ _ _ [_] := SH.call (Lin := [_]) hS58 hS121
     refine va rfl rfl ?_
     refine nb ?_
     refine qe_seq ?_
     refine wc_region ?_
     refine vm rfl rfl ?_
     refine wl_val wn rfl (rv_add rfl rfl) ?_
     refine va rfl rfl ?_
     refine wl_nil ?_
     obtain rfl := oi h118
     exact qe_mid' ⟨_, rfl, a122, n123, c124, K119, rfl, hS127, (hl56.trans hS121.le), hs125, (w64_rng _)⟩ ⟨rfl, rfl, rfl, rfl, trivial⟩
    ·have h86 := cond_f hb85 h69
     refine wc_exit ?_
     refine qe_then_exit ?_
     refine qe_then_exit ?_
     obtain rfl := oi h86
     have e128 := hx66 _ rfl
     subst e128
     refine qe_block_eq ?_
     obtain rfl := oi h54
     exact qe_mid' ⟨a59, n60, c61, K55, rfl, hS58, hl56, hs62⟩ ⟨rfl, rfl, rfl, trivial⟩
   ·rintro _ w45 ⟨a47, n48, c49, K43, rfl, hS46, hl44, hs50⟩
    refine qe_block ?_
    refine qe_seq ?_
    refine wc_region ?_
    refine vm rfl rfl ?_
    refine wl_val wn rfl (rv_add rfl rfl) ?_
    refine va rfl rfl ?_
    refine wl_nil ?_
    obtain rfl := oi h42
    exact qe_mid' ⟨_, rfl, a47, n48, c49, K43, rfl, hS46, (hl27.trans hl44), hs50, (w64_rng _)⟩ ⟨rfl, rfl, rfl, trivial⟩
  ·have h39 := cond_f hb38 h36
   refine wc_exit ?_
   refine qe_then_exit ?_
   refine qe_then_exit ?_
   obtain rfl := oi h39
   have e129 := hx37 _ rfl
   subst e129
   refine qe_block_eq ?_
   obtain rfl := oi h25
   exact qe_mid' ⟨a30, n31, c32, K26, rfl, hS29, hl27, hs33⟩ ⟨rfl, trivial⟩
 ·rintro _ w16 ⟨a18, n19, c20, K14, rfl, hS17, hl15, hs21⟩
  refine qr ?_
  refine vm rfl rfl ?_
  refine va rfl rfl ?_
  refine nq ?_
  refine wc_ret ?_
  obtain rfl := oi h13
  exact qe_ret (vs := [_]) Tryz.results114 ⟨rfl, trivial⟩ ⟨a18, n19, c20, K14, rfl, hS17, hs21⟩

theorem ok_spec_l2Ends (F : Nat) {w : World} {K : KMap} {r : (List Str)} (hS : SH w K [] w K []) (hm : M.spec_l2Ends F  = some r) :
  Calls Tryz.prog 168 #[] w fun e w' => ∃ (a_1 : Option Addr) (n_2 c_3 : Nat) (K' : KMap), e = .returned (.slice a_1 n_2 c_3) ∧ SH w K [] w' K' [tail (.slice a_1 n_2 c_3) 9 1] ∧ SliceAt tStr K' a_1 n_2 c_3 r := by
 rw [M.spec_l2Ends] at hm
 refine calls_in Tryz.func168 rfl Tryz.ntmps168 rfl ?_
 refine sr ?_
 refine wl_val wn rfl (rv_assign (v := .slice none 0 0) rfl) ?_
 refine nr ?_
 refine wl_buildSlice (t := tStr) (n := 5) (pv := [(0, sv [105, 110, 103]), (1, sv [101, 100]), (2, sv [101, 115]), (3, sv [108, 121]), (4, sv [115])]) (cs := [sv [105, 110, 103], sv [101, 100], sv [101, 115], sv [108, 121], sv [115]]) (xs := [([105, 110, 103] : Str), ([101, 100] : Str), ([101, 115] : Str), ([108, 121] : Str), ([115] : Str)]) wn rfl Tryz.underlying23 tf9 rfl rfl rfl (by kernel_rfl) rfl rfl (lit_cons (u := sv [105, 110, 103]) (z := ([105, 110, 103] : Str)) ⟨rfl, (by decide : ([105, 110, 103] : Str).length ≤ maxLen)⟩ (lit_cons (u := sv [101, 100]) (z := ([101, 100] : Str)) ⟨rfl, (by decide : ([101, 100] : Str).length ≤ maxLen)⟩ (lit_cons (u := sv [101, 115]) (z := ([101, 115] : Str)) ⟨rfl, (by decide : ([101, 115] : Str).length ≤ maxLen)⟩ (lit_cons (u := sv [108, 121]) (z := ([108, 121] : Str)) ⟨rfl, (by decide : ([108, 121] : Str).length ≤ maxLen)⟩ (lit_cons (u := sv [115]) (z := ([115] : Str)) ⟨rfl, (by decide : ([115] : Str).length ≤ maxLen)⟩ lit_nil))))) hS ?_
 intro a1 w2 K3 hl4 hs5 hS6
 refine va rfl rfl ?_
 refine nq ?_
 refine wc_ret ?_
 obtain rfl := oi hm
 exact qe_ret (vs := [_]) Tryz.results168 ⟨rfl, trivial⟩ ⟨a1, 5, 5, K3, rfl, hS6, hs5⟩

set_option maxHeartbeats 2000000 in
theorem ok_spec_l2Once (F : Nat) {w : World} {K : KMap} {p0_s : Str} {r : Str} (hS : SH w K [] w K []) (hl1 : p0_s.length ≤ maxLen) (hm : M.spec_l2Once F p0_s = some r) :
  Calls Tryz.prog 145 #[sv p0_s] w fun e w' => ∃ (K' : KMap), e = .returned (sv r) ∧ SH w K [] w' K' [] ∧ r.length ≤ maxLen := by
 rw [M.spec_l2Once] at hm
 refine calls_in Tryz.func145 rfl Tryz.ntmps145 rfl ?_
 refine sr ?_
 refine wl_val wn rfl (rv_assign (v := sv []) rfl) ?_
 refine nsr ?_
 refine wl_val wn rfl (rv_assign (v := .int .i64 0) rfl) ?_
 refine nq ?_
 obtain ⟨o2, h3, h4⟩ := ob hm
 refine wc_cutg (fun E' w' => ∃ (s5 : Unit) (K6 : KMap), o2 = .inl s5 ∧ E' = [(0, sv p0_s)] ∧ SH w K [] w' K6 [] ∧ KLe K K6) ?_ ?_
 ·refine wc_block ?_
  obtain ⟨r11, h12, h13⟩ := ob h3
  refine wc_while' (fun (s10 : Int) E' w' => ∃ (K14 : KMap), E' = [(0, sv p0_s), (3, .int .i64 s10)] ∧ SH w K [] w' K14 [] ∧ KLe K K14 ∧ rng64 s10) h12 ⟨K, rfl, hS, (KLe.refl _), (by decide : rng64 0)⟩ ⟨rfl, rfl, trivial⟩ ?_
  rintro s10 _ w16 r19 h20 hx21 ⟨K14, rfl, hS17, hl15, hr18⟩
  refine wc_seq ?_
  refine sr ?_
  refine vm rfl rfl ?_
  obtain ⟨r22, hx23, h24⟩ := ob h20
  refine wl_call wn rfl (rt_call (vs := []) co168 rfl) ((ok_spec_l2Ends F) hS17.enter0  hx23) ?_
  rintro e32 w26 ⟨a28, n29, c30, K25, rfl, hS27, hs31⟩
  refine ⟨_, rfl, ?_⟩
  have hS33 : SH _ _ _ _ _ [_] := SH.call0 hS17 hS27
  refine wl_val wn rfl (rv_len (t := tStr) Tryz.underlying23 rfl hs31) ?_
  refine wl_val wn rfl (rv_lss rfl rfl) ?_
  refine nq ?_
  refine wc_cond rfl (fun hb34 => ?_) (fun hb34 => ?_)
  ·have h35 := cond_t hb34 h24
   refine wc_skip ?_
   refine qs ?_
   refine wc_block ?_
   refine sr ?_
   obtain ⟨r36, hx37, h38⟩ := ob h35
   refine wl_call wn rfl (rt_call (vs := []) co168 rfl) ((ok_spec_l2Ends F) hS33.enter0  hx37) ?_
   rintro e46 w40 ⟨a42, n43, c44, K39, rfl, hS41, hs45⟩
   refine ⟨_, rfl, ?_⟩
   have hS47 : SH _ _ _ _ _ [_, _] := SH.call0 hS33 hS41
   refine vm rfl rfl ?_
   obtain ⟨x48, hx49, h50⟩ := ob h38
   refine wl_indexAddr (t := tStr) wn rfl Tryz.underlying23 tf9 rfl rfl hs45 hx49 ?_
   intro b51 o52 u53 hu54 ha55
   obtain ⟨rfl, hl56⟩ := hu54
   have ha57 : AtK _ b51 o52 [sv x48] := ha55
   refine wl_val wn rfl (rv_load1 tf9 rfl hS47 (ha57 0 _ rfl)) ?_
   refine va rfl rfl ?_
   refine nr ?_
   refine vm rfl rfl ?_
   refine wl_val wn rfl (rv_slen Tryz.underlying9 rfl) ?_
   refine vm rfl rfl ?_
   refine wl_val wn rfl (rv_slen Tryz.underlying9 rfl) ?_
   refine wl_val wn rfl (rv_sub rfl rfl) ?_
   refine va rfl rfl ?_
   refine ns ?_
   obtain ⟨o58, h59, h60⟩ := ob h50
   refine wc_cutg (fun E' w' => ∃ (K61 : KMap), E' = [(0, sv p0_s), (3, .int .i64 s10), (5, .int .i64 (w64 ((p0_s.length : Int) - (x48.length : Int)))), (29, .bool o58)] ∧ SH w K [] w' K61 [] ∧ KLe K39 K61) ?_ ?_
   ·refine wc_region ?_
    refine vm rfl rfl ?_
    refine wl_val wn rfl (rv_geq rfl rfl) ?_
    refine vm rfl rfl ?_
    rcases bool_tf (decide ((3 : Int) ≤ (w64 ((p0_s.length : Int) - (x48.length : Int))))) with hb65 | hb65
    ·have h66 := cond_t hb65 h59
     refine wl_val (wg rfl rfl hb65) rfl (rv_move rfl) ?_
     refine wl_val (wg rfl rfl hb65) rfl (rv_move rfl) ?_
     obtain ⟨x67, hx68, h69⟩ := ob h66
     refine wl_val (wg rfl rfl hb65) rfl (rv_ssl_l Tryz.underlying9 rfl rfl hx68) ?_
     refine wl_val (wg rfl rfl hb65) rfl (rv_move rfl) ?_
     refine wl_val (wg rfl rfl hb65) rfl (rv_seql rfl rfl) ?_
     refine wl_val wn rfl (rv_pick_t rfl hb65 rfl) ?_
     refine wl_nil ?_
     obtain rfl := oi h69
     have hS70 : SH _ _ _ _ _ [] := SH.sublist hS47 (.cons _ (.cons _ .slnil))
     exact qe_mid' ⟨K39, rfl, hS70, (KLe.refl _)⟩ ⟨rfl, rfl, rfl, rfl, trivial⟩
    ·have h66 := cond_f hb65 h59
     refine wl_un (ug rfl rfl hb65) rfl ?_
     refine wl_un (ug rfl rfl hb65) rfl ?_
     refine wl_un (ug rfl rfl hb65) rfl ?_
     refine wl_un (ug rfl rfl hb65) rfl ?_
     refine wl_un (ug rfl rfl hb65) rfl ?_
     refine wl_val wn rfl (rv_pick_f (v := .bool false) rfl hb65 rfl) ?_
     refine wl_nil ?_
     obtain rfl := oi h66
     have hS71 : SH _ _ _ _ _ [] := SH.sublist hS47 (.cons _ (.cons _ .slnil))
     exact qe_mid' ⟨K39, rfl, hS71, (KLe.refl _)⟩ ⟨rfl, rfl, rfl, rfl, trivial⟩
   ·rintro _ w63 ⟨K61, rfl, hS64, hl62⟩
    refine qe_seq ?_
    refine wc_cond rfl (fun hb72 => ?_) (fun hb72 => ?_)
    ·have h73 := cond_t hb72 h60
     refine sr ?_
     refine vm rfl rfl ?_
     refine vm rfl rfl ?_
     obtain ⟨x74, hx75, h76⟩ := ob h73
     refine wl_val wn rfl (rv_ssl_h Tryz.underlying9 rfl rfl hx75) ?_
     refine va rfl rfl ?_
     refine nq ?_
     refine wc_ret ?_
     refine qe_block_ret ?_
     refine qe_then_ret ?_
     refine qe_then_ret ?_
     obtain rfl := oi h76
     have e77 := hx21 _ rfl
     subst e77
     refine qe_block_ret ?_
     refine qe_then_ret ?_
     obtain rfl := oi h13
     refine qe_then_ret ?_
     obtain rfl := oi h4
     exact qe_ret (vs := [_]) Tryz.results145 ⟨rfl, trivial⟩ ⟨K61, rfl, hS64, (len_sub hl1 hx75)⟩
    ·have h73 := cond_f hb72 h60
     refine wc_skip ?_
     refine qe_block ?_
     refine qe_seq ?_
     refine wc_region ?_
     refine vm rfl rfl ?_
     refine wl_val wn rfl (rv_add rfl rfl) ?_
     refine va rfl rfl ?_
     refine wl_nil ?_
     obtain rfl := oi h73
     exact qe_mid' ⟨_, rfl, K61, rfl, hS64, (((hl15.trans hS27.le).trans hS41.le).trans hl62), (w64_rng _)⟩ ⟨rfl, rfl, trivial⟩
  ·have h35 := cond_f hb34 h24
   refine wc_exit ?_
   refine qe_then_exit ?_
   refine qe_then_exit ?_
   obtain rfl := oi h35
   have e78 := hx21 _ rfl
   subst e78
   refine qe_block_eq ?_
   obtain rfl := oi h13
   have hS79 : SH _ _ _ _ _ [] := SH.sublist hS33 (.cons _ .slnil)
   exact qe_mid' ⟨_, K25, rfl, rfl, hS79, (hl15.trans hS27.le)⟩ ⟨rfl, trivial⟩
 ·rintro _ w8 ⟨s5, K6, rfl, rfl, hS9, hl7⟩
  refine qr ?_
  refine vm rfl rfl ?_
  refine va rfl rfl ?_
  refine nq ?_
  refine wc_ret ?_
  obtain rfl := oi h4
  exact qe_ret (vs := [_]) Tryz.results145 ⟨rfl, trivial⟩ ⟨K6, rfl, hS9, hl1⟩

theorem ok_spec_l2Stem (F : Nat) {w : World} {K : KMap} {p0_s : Str} {r : Str} (hS : SH w K [] w K []) (hl1 : p0_s.length ≤ maxLen) (hm : M.spec_l2Stem F p0_s = some r) :
  Calls Tryz.prog 110 #[sv p0_s] w fun e w' => ∃ (K' : KMap), e = .returned (sv r) ∧ SH w K [] w' K' [] ∧ r.length ≤ maxLen := by
 rw [M.spec_l2Stem] at hm
 refine calls_in Tryz.func110 rfl Tryz.ntmps110 rfl ?_
 refine sr ?_
 refine wl_val wn rfl (rv_assign (v := sv []) rfl) ?_
 refine ns ?_
 obtain ⟨o2, h3, h4⟩ := ob hm
 refine wc_cutg (fun E' w' => ∃ (K5 : KMap), E' = [(0, sv o2)] ∧ SH w K [] w' K5 [] ∧ KLe K K5 ∧ o2.length ≤ maxLen) ?_ ?_
 ·refine wc_block ?_
  obtain ⟨r11, h12, h13⟩ := ob h3
  refine wc_while' (fun (s10 : Str) E' w' => ∃ (K14 : KMap), E' = [(0, sv s10)] ∧ SH w K [] w' K14 [] ∧ KLe K K14 ∧ s10.length ≤ maxLen) h12 ⟨K, rfl, hS, (KLe.refl _), hl1⟩ ⟨rfl, trivial⟩ ?_
  rintro s10 _ w16 r19 h20 hx21 ⟨K14, rfl, hS17, hl15, hl18⟩
  refine wc_seq ?_
  refine sr ?_
  refine vm rfl rfl ?_
  obtain ⟨r22, hx23, h24⟩ := ob h20
  refine wl_call wn rfl (rt_call (vs := [sv s10]) co145 rfl) ((ok_spec_l2Once F) hS17.enter0 hl18 hx23) ?_
  rintro e29 w26 ⟨K25, rfl, hS27, hl28⟩
  refine ⟨_, rfl, ?_⟩
  have hS30 : SH _ _ _ _ _ [] := SH.call0 hS17 hS27
  refine vm rfl rfl ?_
  refine wl_val wn rfl (rv_sneq rfl rfl) ?_
  refine nq ?_
  refine wc_cond rfl (fun hb31 => ?_) (fun hb31 => ?_)
  ·have h32 := cond_t hb31 h24
   refine wc_skip ?_
   refine qe_seq ?_
   refine wc_block ?_
   refine wc_region ?_
   refine vm rfl rfl ?_
   obtain ⟨r33, hx34, h35⟩ := ob h32
   refine wl_call wn rfl (rt_call (vs := [sv s10]) co145 rfl) ((ok_spec_l2Once F) hS30.enter0 hl18 hx34) ?_
   rintro e40 w37 ⟨K36, rfl, hS38, hl39⟩
   refine ⟨_, rfl, ?_⟩
   have hS41 : SH _ _ _ _ _ [] := SH.call0 hS30 hS38
   refine va rfl rfl ?_
   refine nb ?_
   obtain rfl := oi h35
   exact qe_mid' ⟨_, rfl, K36, rfl, hS41, ((hl15.trans hS27.le).trans hS38.le), hl39⟩ ⟨rfl, trivial⟩
  ·have h32 := cond_f hb31 h24
   refine wc_exit ?_
   refine qe_then_exit ?_
   refine qe_then_exit ?_
   obtain rfl := oi h32
   have e42 := hx21 _ rfl
   subst e42
   refine qe_block_eq ?_
   obtain rfl := oi h13
   exact qe_mid' ⟨K25, rfl, hS30, (hl15.trans hS27.le), hl18⟩ ⟨rfl, trivial⟩
 ·rintro _ w7 ⟨K5, rfl, hS8, hl6, hl9⟩
  refine qr ?_
  refine vm rfl rfl ?_
  refine va rfl rfl ?_
  refine nq ?_
  refine wc_ret ?_
  obtain rfl := oi h4
  exact qe_ret (vs := [_]) Tryz.results110 ⟨rfl, trivial⟩ ⟨K5, rfl, hS8, hl9⟩

theorem ok_spec_l2Has (F : Nat) {w : World} {K : KMap} {a1 : Option Addr} {n2 c3 : Nat} {p0_list : List Str} {p1_s : Str} {r : Bool} (hS : SH w K [] w K []) (hs4 : SliceAt tStr K a1 n2 c3 p0_list) (hl5 : p1_s.length ≤ maxLen) (hm : M.spec_l2Has F p0_list p1_s = some r) :
  Calls Tryz.prog 111 #[.slice a1 n2 c3, sv p1_s] w fun e w' => ∃ (K' : KMap), e = .returned (.bool r) ∧ SH w K [] w' K' [] := by
 rw [M.spec_l2Has] at hm
 refine calls_in Tryz.func111 rfl Tryz.ntmps111 rfl ?_
 refine sr ?_
 refine wl_val wn rfl (rv_assign (v := .bool false) rfl) ?_
 refine nsr ?_
 refine wl_val wn rfl (rv_assign (v := .int .i64 0) rfl) ?_
 refine nq ?_
 obtain ⟨o6, h7, h8⟩ := ob hm
 refine wc_cutg (fun E' w' => ∃ (s9 : Unit) (K10 : KMap), o6 = .inl s9 ∧ E' = [] ∧ SH w K [] w' K10 [] ∧ KLe K K10) ?_ ?_
 ·refine wc_block ?_
  obtain ⟨r15, h16, h17⟩ := ob h7
  refine wc_while' (fun (s14 : Int) E' w' => ∃ (K18 : KMap), E' = [(0, .slice a1 n2 c3), (1, sv p1_s), (5, .int .i64 s14)] ∧ SH w K [] w' K18 [] ∧ KLe K K18 ∧ rng64 s14) h16 ⟨K, rfl, hS, (KLe.refl _), (by decide : rng64 0)⟩ ⟨rfl, rfl, rfl, trivial⟩ ?_
  rintro s14 _ w20 r23 h24 hx25 ⟨K18, rfl, hS21, hl19, hr22⟩
  refine wc_seq ?_
  refine sr ?_
  refine vm rfl rfl ?_
  refine vm rfl rfl ?_
  refine wl_val wn rfl (rv_len (t := tStr) Tryz.underlying23 rfl (SliceAt.mono hl19 hs4)) ?_
  refine wl_val wn rfl (rv_lss rfl rfl) ?_
  refine nq ?_
  refine wc_cond rfl (fun hb26 => ?_) (fun hb26 => ?_)
  ·have h27 := cond_t hb26 h24
   refine wc_skip ?_
   refine qs ?_
   refine wc_block ?_
   refine sr ?_
   refine vm rfl rfl ?_
   refine vm rfl rfl ?_
   obtain ⟨x28, hx29, h30⟩ := ob h27
   refine wl_indexAddr (t := tStr) wn rfl Tryz.underlying23 tf9 rfl rfl (SliceAt.mono hl19 hs4) hx29 ?_
   intro b31 o32 u33 hu34 ha35
   obtain ⟨rfl, hl36⟩ := hu34
   have ha37 : AtK _ b31 o32 [sv x28] := ha35
   refine wl_val wn rfl (rv_load1 tf9 rfl hS21 (ha37 0 _ rfl)) ?_
   refine vm rfl rfl ?_
   refine wl_val wn rfl (rv_seql rfl rfl) ?_
   refine nq ?_
   refine wc_cond rfl (fun hb38 => ?_) (fun hb38 => ?_)
   ·have h39 := cond_t hb38 h30
    refine sr ?_
    refine wl_val wn rfl (rv_assign (v := .bool true) rfl) ?_
    refine nq ?_
    refine wc_ret ?_
    refine qe_block_ret ?_
    refine qe_then_ret ?_
    refine qe_then_ret ?_
    obtain rfl := oi h39
    have e40 := hx25 _ rfl
    subst e40
    refine qe_block_ret ?_
    refine qe_then_ret ?_
    obtain rfl := oi h17
    refine qe_then_ret ?_
    obtain rfl := oi h8
    exact qe_ret (vs := [_]) Tryz.results111 ⟨rfl, trivial⟩ ⟨K18, rfl, hS21⟩
   ·have h39 := cond_f hb38 h30
    refine wc_skip ?_
    refine qe_block ?_
    refine qe_seq ?_
    refine wc_region ?_
    refine vm rfl rfl ?_
    refine wl_val wn rfl (rv_add rfl rfl) ?_
    refine va rfl rfl ?_
    refine wl_nil ?_
    obtain rfl := oi h39
    exact qe_mid' ⟨_, rfl, K18, rfl, hS21, hl19, (w64_rng _)⟩ ⟨rfl, rfl, rfl, trivial⟩
  ·have h27 := cond_f hb26 h24
   refine wc_exit ?_
   refine qe_then_exit ?_
   refine qe_then_exit ?_
   obtain rfl := oi h27
   have e41 := hx25 _ rfl
   subst e41
   refine qe_block_eq ?_
   obtain rfl := oi h17
   exact qe_mid' ⟨_, K18, rfl, rfl, hS21, hl19⟩ trivial
 ·rintro _ w12 ⟨s9, K10, rfl, rfl, hS13, hl11⟩
  refine qr ?_
  refine wl_val wn rfl (rv_assign (v := .bool false) rfl) ?_
  refine nq ?_
  refine wc_ret ?_
  obtain rfl := oi h8
  exact qe_ret (vs := [_]) Tryz.results111 ⟨rfl, trivial⟩ ⟨K10, rfl, hS13⟩

set_option maxHeartbeats 2000000 in
theorem ok_spec_l1Fold (F : Nat) {w : World} {K : KMap} {p0_b : UInt8} {r : UInt8} (hS : SH w K [] w K []) (hm : M.spec_l1Fold F p0_b = some r) :
  Calls Tryz.prog 144 #[iv8 p0_b] w fun e w' => ∃ (K' : KMap), e = .returned (iv8 r) ∧ SH w K [] w' K' [] := by
 rw [M.spec_l1Fold] at hm
 refine calls_in Tryz.func144 rfl Tryz.ntmps144 rfl ?_
 refine sr ?_
 refine wl_val wn rfl (rv_assign (v := iv8 0) rfl) ?_
 refine ns ?_
 refine wc_block ?_
 refine wc_seq ?_
 obtain ⟨o1, h2, h3⟩ := ob hm
 refine wc_cutg (fun E' w' => ∃ (K4 : KMap), E' = [(0, iv8 p0_b), (3, .bool o1)] ∧ SH w K [] w' K4 [] ∧ KLe K K4) ?_ ?_
 ·refine wc_region ?_
  refine vm rfl rfl ?_
  refine wl_val wn rfl (rv_bge (b := (65 : UInt8)) rfl rfl) ?_
  refine vm rfl rfl ?_
  rcases bool_tf (decide ((65 : UInt8) ≤ p0_b)) with hb8 | hb8
  ·have h9 := cond_t hb8 h2
   refine wl_val (wg rfl rfl hb8) rfl (rv_move rfl) ?_
   refine wl_val (wg rfl rfl hb8) rfl (rv_ble (b := (90 : UInt8)) rfl rfl) ?_
   refine wl_val wn rfl (rv_pick_t rfl hb8 rfl) ?_
   refine va rfl rfl ?_
   refine wl_nil ?_
   obtain rfl := oi h9
   exact qe_mid' ⟨K, rfl, hS, (KLe.refl _)⟩ ⟨rfl, rfl, trivial⟩
  ·have h9 := cond_f hb8 h2
   refine wl_un (ug rfl rfl hb8) rfl ?_
   refine wl_un (ug rfl rfl hb8) rfl ?_
   refine wl_val wn rfl (rv_pick_f (v := .bool false) rfl hb8 rfl) ?_
   refine va rfl rfl ?_
   refine wl_nil ?_
   obtain rfl := oi h9
   exact qe_mid' ⟨K, rfl, hS, (KLe.refl _)⟩ ⟨rfl, rfl, trivial⟩
 ·rintro _ w6 ⟨K4, rfl, hS7, hl5⟩
  refine qe_seq ?_
  refine wc_cond rfl (fun hb10 => ?_) (fun hb10 => ?_)
  ·have h11 := cond_t hb10 h3
   refine sr ?_
   refine vm rfl rfl ?_
   refine wl_val wn rfl (rv_badd (b := (32 : UInt8)) rfl rfl) ?_
   refine va rfl rfl ?_
   refine nq ?_
   refine wc_ret ?_
   refine qe_block_ret ?_
   refine qe_then_ret ?_
   obtain rfl := oi h11
   exact qe_ret (vs := [_]) Tryz.results144 ⟨rfl, trivial⟩ ⟨K4, rfl, hS7⟩
  ·have h11 := cond_f hb10 h3
   refine wc_seq ?_
   obtain ⟨o12, h13, h14⟩ := ob h11
   refine wc_cutg (fun E' w' => ∃ (K15 : KMap), E' = [(0, iv8 p0_b), (12, .bool o12)] ∧ SH w K [] w' K15 [] ∧ KLe K4 K15) ?_ ?_
   ·refine wc_region ?_
    refine vm rfl rfl ?_
    refine wl_val wn rfl (rv_bge (b := (97 : UInt8)) rfl rfl) ?_
    refine vm rfl rfl ?_
    rcases bool_tf (decide ((97 : UInt8) ≤ p0_b)) with hb19 | hb19
    ·have h20 := cond_t hb19 h13
     refine wl_val (wg rfl rfl hb19) rfl (rv_move rfl) ?_
     refine wl_val (wg rfl rfl hb19) rfl (rv_ble (b := (122 : UInt8)) rfl rfl) ?_
     refine wl_val wn rfl (rv_pick_t rfl hb19 rfl) ?_
     refine vm rfl rfl ?_
     rcases bool_tf (decide (p0_b ≤ (122 : UInt8))) with hb21 | hb21
     ·have h22 := cond_t hb21 h20
      refine wl_un (ug rfl rfl hb21) rfl ?_
      refine wl_un (ug rfl rfl hb21) rfl ?_
      refine wl_un (ug rfl rfl hb21) rfl ?_
      refine wl_un (uu rfl rfl) rfl ?_
      refine wl_un (uu rfl rfl) rfl ?_
      refine wl_un (ug rfl rfl hb21) rfl ?_
      refine wl_val wn rfl (rv_pick_t (v := .bool true) rfl hb21 rfl) ?_
      refine va rfl rfl ?_
      refine wl_nil ?_
      obtain rfl := oi h22
      exact qe_mid' ⟨K4, rfl, hS7, (KLe.refl _)⟩ ⟨rfl, rfl, trivial⟩
     ·have h22 := cond_f hb21 h20
      refine wl_val (wg rfl rfl hb21) rfl (rv_move rfl) ?_
      refine wl_val (wg rfl rfl hb21) rfl (rv_bge (b := (48 : UInt8)) rfl rfl) ?_
      refine wl_val (wg rfl rfl hb21) rfl (rv_move rfl) ?_
      rcases bool_tf (decide ((48 : UInt8) ≤ p0_b)) with hb23 | hb23
      ·have h24 := cond_t hb23 h22
       refine wl_val (wg rfl rfl hb23) rfl (rv_move rfl) ?_
       refine wl_val (wg rfl rfl hb23) rfl (rv_ble (b := (57 : UInt8)) rfl rfl) ?_
       refine wl_val (wg rfl rfl hb21) rfl (rv_pick_t rfl hb23 rfl) ?_
       refine wl_val wn rfl (rv_pick_f rfl hb21 rfl) ?_
       refine va rfl rfl ?_
       refine wl_nil ?_
       obtain rfl := oi h24
       exact qe_mid' ⟨K4, rfl, hS7, (KLe.refl _)⟩ ⟨rfl, rfl, trivial⟩
      ·have h24 := cond_f hb23 h22
       refine wl_un (ug rfl rfl hb23) rfl ?_
       refine wl_un (ug rfl rfl hb23) rfl ?_
       refine wl_val (wg rfl rfl hb21) rfl (rv_pick_f (v := .bool false) rfl hb23 rfl) ?_
       refine wl_val wn rfl (rv_pick_f rfl hb21 rfl) ?_
       refine va rfl rfl ?_
       refine wl_nil ?_
       obtain rfl := oi h24
       exact qe_mid' ⟨K4, rfl, hS7, (KLe.refl _)⟩ ⟨rfl, rfl, trivial⟩
    ·have h20 := cond_f hb19 h13
     refine wl_un (ug rfl rfl hb19) rfl ?_
     refine wl_un (ug rfl rfl hb19) rfl ?_
     refine wl_val wn rfl (rv_pick_f (v := .bool false) rfl hb19 rfl) ?_
     refine vm rfl rfl ?_
     refine wl_val (wg rfl rfl rfl) rfl (rv_move rfl) ?_
     refine wl_val (wg rfl rfl rfl) rfl (rv_bge (b := (48 : UInt8)) rfl rfl) ?_
     refine wl_val (wg rfl rfl rfl) rfl (rv_move rfl) ?_
     rcases bool_tf (decide ((48 : UInt8) ≤ p0_b)) with hb25 | hb25
     ·have h26 := cond_t hb25 h20
      refine wl_val (wg rfl rfl hb25) rfl (rv_move rfl) ?_
      refine wl_val (wg rfl rfl hb25) rfl (rv_ble (b := (57 : UInt8)) rfl rfl) ?_
      refine wl_val (wg rfl rfl rfl) rfl (rv_pick_t rfl hb25 rfl) ?_
      refine wl_val wn rfl (rv_pick_f rfl rfl rfl) ?_
      refine va rfl rfl ?_
      refine wl_nil ?_
      obtain rfl := oi h26
      exact qe_mid' ⟨K4, rfl, hS7, (KLe.refl _)⟩ ⟨rfl, rfl, trivial⟩
     ·have h26 := cond_f hb25 h20
      refine wl_un (ug rfl rfl hb25) rfl ?_
      refine wl_un (ug rfl rfl hb25) rfl ?_
      refine wl_val (wg rfl rfl rfl) rfl (rv_pick_f (v := .bool false) rfl hb25 rfl) ?_
      refine wl_val wn rfl (rv_pick_f rfl rfl rfl) ?_
      refine va rfl rfl ?_
      refine wl_nil ?_
      obtain rfl := oi h26
      exact qe_mid' ⟨K4, rfl, hS7, (KLe.refl _)⟩ ⟨rfl, rfl, trivial⟩
   ·rintro _ w17 ⟨K15, rfl, hS18, hl16⟩
    refine qe_seq ?_
    refine wc_cond rfl (fun hb27 => ?_) (fun hb27 => ?_)
    ·have h28 := cond_t hb27 h14
     refine sr ?_
     refine vm rfl rfl ?_
     refine va rfl rfl ?_
     refine nq ?_
     refine wc_ret ?_
     refine qe_block_ret ?_
     refine qe_then_ret ?_
     obtain rfl := oi h28
     exact qe_ret (vs := [_]) Tryz.results144 ⟨rfl, trivial⟩ ⟨K15, rfl, hS18⟩
    ·have h28 := cond_f hb27 h14
     refine wc_skip ?_
     refine qe_block ?_
     refine qr ?_
     refine wl_val wn rfl (rv_assign (v := iv8 0) rfl) ?_
     refine nq ?_
     refine wc_ret ?_
     obtain rfl := oi h28
     exact qe_ret (vs := [_]) Tryz.results144 ⟨rfl, trivial⟩ ⟨K15, rfl, hS18⟩

set_option maxHeartbeats 2000000 in
theorem ok_spec_l1Words (F : Nat) {w : World} {K : KMap} {p0_s : Str} {r : (List GWord)} (hS : SH w K [] w K []) (hl1 : p0_s.length ≤ maxLen) (hm : M.spec_l1Words F p0_s = some r) :
  Calls Tryz.prog 179 #[sv p0_s] w fun e w' => ∃ (a_1 : Option Addr) (n_2 c_3 : Nat) (K' : KMap), e = .returned (.slice a_1 n_2 c_3) ∧ SH w K [] w' K' [tail (.slice a_1 n_2 c_3) 100 4] ∧ SliceAt tGWord K' a_1 n_2 c_3 r := by
 rw [M.spec_l1Words] at hm
 refine calls_in Tryz.func179 rfl Tryz.ntmps179 rfl ?_
 refine sr ?_
 refine wl_val wn rfl (rv_assign (v := .slice none 0 0) rfl) ?_
 refine nr ?_
 refine wl_buildSlice0 tGWord wn rfl Tryz.underlying97 tf100 hS ?_
 intro a2 w3 K4 hl5 hs6 hS7
 refine va rfl rfl ?_
 refine nsr ?_
 refine wl_val wn rfl (rv_assign (v := .int .i64 0) rfl) ?_
 refine nq ?_
 obtain ⟨o8, h9, h10⟩ := ob hm
 refine wc_cutg (fun E' w' => ∃ (a15 : Option Addr) (n16 c17 : Nat) (K11 : KMap), E' = [(3, .slice a15 n16 c17)] ∧ SH w K [] w' K11 [tail (.slice a15 n16 c17) 100 4] ∧ KLe K4 K11 ∧ SliceAt tGWord K11 a15 n16 c17 o8) ?_ ?_
 ·refine wc_block ?_
  obtain ⟨r20, h21, h22⟩ := ob h9
  refine wc_while' (fun (s19 : (List GWord) × Int) E' w' => ∃ (a27 : Option Addr) (n28 c29 : Nat) (K23 : KMap), E' = [(0, sv p0_s), (3, .slice a27 n28 c29), (4, .int .i64 s19.2)] ∧ SH w K [] w' K23 [tail (.slice a27 n28 c29) 100 4] ∧ KLe K4 K23 ∧ SliceAt tGWord K23 a27 n28 c29 s19.1 ∧ rng64 s19.2) h21 ⟨a2, 0, 0, K4, rfl, hS7, (KLe.refl _), hs6, (by decide : rng64 0)⟩ ⟨rfl, rfl, rfl, trivial⟩ ?_
  rintro s19 _ w25 r32 h33 hx34 ⟨a27, n28, c29, K23, rfl, hS26, hl24, hs30, hr31⟩
  refine wc_seq ?_
  refine sr ?_
  refine vm rfl rfl ?_
  refine vm rfl rfl ?_
  refine wl_val wn rfl (rv_slen Tryz.underlying9 rfl) ?_
  refine wl_val wn rfl (rv_lss rfl rfl) ?_
  refine nq ?_
  refine wc_cond rfl (fun hb35 => ?_) (fun hb35 => ?_)
  ·have h36 := cond_t hb35 h33
   refine wc_skip ?_
   refine qs ?_
   refine wc_block ?_
   refine sr ?_
   refine wl_buildSlice0 tU8 wn rfl Tryz.underlying22 tf5 hS26 ?_
   intro a37 w38 K39 hl40 hs41 hS42
   refine va rfl rfl ?_
   refine nr ?_
   refine vm rfl rfl ?_
   refine va rfl rfl ?_
   refine ns ?_
   obtain ⟨o43, h44, h45⟩ := ob h36
   refine wc_cutg (fun E' w' => ∃ (a51 : Option Addr) (n52 c53 : Nat) (K46 : KMap), E' = [(0, sv p0_s), (3, .slice a27 n28 c29), (4, .int .i64 o43.1), (5, .slice a51 n52 c53), (6, .int .i64 s19.2)] ∧ SH w K [] w' K46 [tail (.slice a27 n28 c29) 100 4, tail (.slice a51 n52 c53) 5 1] ∧ KLe K39 K46 ∧ rng64 o43.1 ∧ SliceAt tU8 K46 a51 n52 c53 o43.2) ?_ ?_
   ·refine wc_block ?_
    obtain ⟨r56, h57, h58⟩ := ob h44
    have hS68 : SH _ _ _ _ _ [_, _] := SH.front (p := [_]) hS42
    refine wc_while' (fun (s55 : Int × (List UInt8)) E' w' => ∃ (a64 : Option Addr) (n65 c66 : Nat) (K59 : KMap), E' = [(0, sv p0_s), (3, .slice a27 n28 c29), (4, .int .i64 s55.1), (5, .slice a64 n65 c66), (6, .int .i64 s19.2)] ∧ SH w K [] w' K59 [tail (.slice a27 n28 c29) 100 4, tail (.slice a64 n65 c66) 5 1] ∧ KLe K39 K59 ∧ rng64 s55.1 ∧ SliceAt tU8 K59 a64 n65 c66 s55.2) h57 ⟨a37, 0, 0, K39, rfl, hS68, (KLe.refl _), hr31, hs41⟩ ⟨rfl, rfl, rfl, rfl, rfl, trivial⟩ ?_
    rintro s55 _ w61 r69 h70 hx71 ⟨a64, n65, c66, K59, rfl, hS62, hl60, hr63, hs67⟩
    refine wc_seq ?_
    refine wc_seq ?_
    obtain ⟨o72, h73, h74⟩ := ob h70
    refine wc_cutg (fun E' w' => ∃ (K75 : KMap), E' = [(0, sv p0_s), (3, .slice a27 n28 c29), (4, .int .i64 s55.1), (5, .slice a64 n65 c66), (6, .int .i64 s19.2), (26, .bool o72)] ∧ SH w K [] w' K75 [tail (.slice a27 n28 c29) 100 4, tail (.slice a64 n65 c66) 5 1] ∧ KLe K59 K75) ?_ ?_
    ·refine wc_region ?_
     refine vm rfl rfl ?_
     refine vm rfl rfl ?_
     refine wl_val wn rfl (rv_slen Tryz.underlying9 rfl) ?_
     refine wl_val wn rfl (rv_lss rfl rfl) ?_
     refine vm rfl rfl ?_
     rcases bool_tf (decide (s55.1 < (p0_s.length : Int))) with hb79 | hb79
     ·have h80 := cond_t hb79 h73
      refine wl_val (wg rfl rfl hb79) rfl (rv_move rfl) ?_
      refine wl_val (wg rfl rfl hb79) rfl (rv_move rfl) ?_
      obtain ⟨x81, hx82, h83⟩ := ob h80
      refine wl_val (wg rfl rfl hb79) rfl (rv_sidx Tryz.underlying9 rfl rfl hx82) ?_
      obtain ⟨r84, hx85, h86⟩ := ob h83
      refine wl_call (wg rfl rfl hb79) rfl (rt_call (vs := [iv8 x81]) co144 rfl) ((ok_spec_l1Fold F) hS62.enter0  hx85) ?_
      rintro e90 w88 ⟨K87, rfl, hS89⟩
      refine ⟨_, rfl, ?_⟩
      have hS91 : SH _ _ _ _ _ [_, _] := SH.call0 hS62 hS89
      refine wl_val (wg rfl rfl hb79) rfl (rv_bne (b := (0 : UInt8)) rfl rfl) ?_
      refine wl_val wn rfl (rv_pick_t rfl hb79 rfl) ?_
      refine wl_nil ?_
      obtain rfl := oi h86
      exact qe_mid' ⟨K87, rfl, hS91, hS89.le⟩ ⟨rfl, rfl, rfl, rfl, rfl, rfl, trivial⟩
     ·have h80 := cond_f hb79 h73
      refine wl_un (ug rfl rfl hb79) rfl ?_
      refine wl_un (ug rfl rfl hb79) rfl ?_
      refine wl_un (ug rfl rfl hb79) rfl ?_
      refine wl_un (ug rfl rfl hb79) rfl ?_
      refine wl_un (ug rfl rfl hb79) rfl ?_
      refine wl_val wn rfl (rv_pick_f (v := .bool false) rfl hb79 rfl) ?_
      refine wl_nil ?_
      obtain rfl := oi h80
      exact qe_mid' ⟨K59, rfl, hS62, (KLe.refl _)⟩ ⟨rfl, rfl, rfl, rfl, rfl, rfl, trivial⟩
    ·rintro _ w77 ⟨K75, rfl, hS78, hl76⟩
     refine qe_seq ?_
     refine wc_cond rfl (fun hb92 => ?_) (fun hb92 => ?_)
     ·have h93 := cond_t hb92 h74
      refine wc_skip ?_
      refine qe_seq ?_
      refine wc_block ?_
      refine sr ?_
      refine vm rfl rfl ?_
      refine vm rfl rfl ?_
      refine vm rfl rfl ?_
      obtain ⟨x94, hx95, h96⟩ := ob h93
      refine wl_val wn rfl (rv_sidx Tryz.underlying9 rfl rfl hx95) ?_
      obtain ⟨r97, hx98, h99⟩ := ob h96
      refine wl_call wn rfl (rt_call (vs := [iv8 x94]) co144 rfl) ((ok_spec_l1Fold F) hS78.enter0  hx98) ?_
      rintro e103 w101 ⟨K100, rfl, hS102⟩
      refine ⟨_, rfl, ?_⟩
      have hS104 : SH _ _ _ _ _ [_, _] := SH.call0 hS78 hS102
      refine wl_buildSlice (t := tU8) (n := 1) (pv := [(0, iv8 r97)]) (cs := [iv8 r97]) (xs := [r97]) wn rfl Tryz.underlying22 tf5 rfl rfl rfl (by kernel_rfl) rfl rfl (lit_cons (u := iv8 r97) (z := r97) rfl lit_nil) hS104 ?_
      intro a105 w106 K107 hl108 hs109 hS110
      have hS111 : SH _ _ _ _ _ [_, _, _] := SH.front (p := [_, _]) hS110
      obtain ⟨x112, hx113, h114⟩ := ob h99
      refine wl_append (t := tU8) wn rfl Tryz.underlying22 tf5 rfl rfl rfl rfl rfl (SliceAt.mono ((hl76.trans hS102.le).trans hl108) hs67) hs109 hx113 hS111 ?_
      intro a115 n116 c117 w118 K119 hl120 hs121 hS122
      refine va rfl rfl ?_
      refine nq ?_
      refine wc_region ?_
      refine vm rfl rfl ?_
      refine wl_val wn rfl (rv_add rfl rfl) ?_
      refine va rfl rfl ?_
      refine nb ?_
      obtain rfl := oi h114
      have hS123 : SH _ _ _ _ _ [_, _, _] := SH.front (p := [_, _]) hS122
      have hS124 : SH _ _ _ _ _ [_, _] := SH.sublist hS123 (.cons_cons _ (.cons_cons _ (.cons _ .slnil)))
      exact qe_mid' ⟨_, rfl, a115, n116, c117, K119, rfl, hS124, ((((hl60.trans hl76).trans hS102.le).trans hl108).trans hl120), (w64_rng _), hs121⟩ ⟨rfl, rfl, rfl, rfl, rfl, trivial⟩
     ·have h93 := cond_f hb92 h74
      refine wc_exit ?_
      refine qe_then_exit ?_
      refine qe_then_exit ?_
      obtain rfl := oi h93
      have e125 := hx71 _ rfl
      subst e125
      refine qe_block_eq ?_
      obtain rfl := oi h58
      exact qe_mid' ⟨a64, n65, c66, K75, rfl, hS78, (hl60.trans hl76), hr63, (SliceAt.mono hl76 hs67)⟩ ⟨rfl, rfl, rfl, rfl, rfl, trivial⟩
   ·rintro _ w48 ⟨a51, n52, c53, K46, rfl, hS49, hl47, hr50, hs54⟩
    refine qs ?_
    refine sr ?_
    refine vm rfl rfl ?_
    refine wl_val wn rfl (rv_len (t := tU8) Tryz.underlying22 rfl hs54) ?_
    refine wl_val wn rfl (rv_gtr rfl rfl) ?_
    refine nq ?_
    obtain ⟨o126, h127, h128⟩ := ob h45
    refine wc_cutg (fun E' w' => ∃ (a133 : Option Addr) (n134 c135 : Nat) (K129 : KMap), E' = [(0, sv p0_s), (3, .slice a27 n28 c29), (4, .int .i64 o43.1), (5, .slice a133 n134 c135), (6, .int .i64 s19.2)] ∧ SH w K [] w' K129 [tail (.slice a27 n28 c29) 100 4] ∧ KLe K46 K129 ∧ SliceAt tU8 K129 a133 n134 c135 o126) ?_ ?_
    ·refine wc_cond rfl (fun hb137 => ?_) (fun hb137 => ?_)
     ·have h138 := cond_t hb137 h127
      refine wc_region ?_
      refine vm rfl rfl ?_
      obtain ⟨x139, hx140, h141⟩ := ob h138
      refine wl_sl_h (t := tU8) wn rfl Tryz.underlying22 tf5 rfl rfl hs54 hx140 ?_
      intro a142 n143 c144 hs145
      refine va rfl rfl ?_
      refine wl_nil ?_
      obtain rfl := oi h141
      have hS146 : SH _ _ _ _ _ [_] := SH.sublist hS49 (.cons_cons _ (.cons _ .slnil))
      exact qe_mid' ⟨a142, n143, c144, K46, rfl, hS146, (KLe.refl _), hs145⟩ ⟨rfl, rfl, rfl, rfl, rfl, trivial⟩
     ·have h138 := cond_f hb137 h127
      refine wc_skip ?_
      obtain rfl := oi h138
      have hS147 : SH _ _ _ _ _ [_] := SH.sublist hS49 (.cons_cons _ (.cons _ .slnil))
      exact qe_mid' ⟨a51, n52, c53, K46, rfl, hS147, (KLe.refl _), hs54⟩ ⟨rfl, rfl, rfl, rfl, rfl, trivial⟩
    ·rintro _ w131 ⟨a133, n134, c135, K129, rfl, hS132, hl130, hs136⟩
     refine qr ?_
     refine vm rfl rfl ?_
     refine wl_val wn rfl (rv_len (t := tU8) Tryz.underlying22 rfl hs136) ?_
     refine wl_val wn rfl (rv_gtr rfl rfl) ?_
     refine nq ?_
     refine wc_cond rfl (fun hb148 => ?_) (fun hb148 => ?_)
     ·have h149 := cond_t hb148 h128
      refine wc_region ?_
      refine vm rfl rfl ?_
      refine vm rfl rfl ?_
      refine wl_val wn rfl (rv_b2s Tryz.underlying22 Tryz.underlying5 Tryz.underlying9 rfl hs136 hS132) ?_
      refine vm rfl rfl ?_
      refine wl_val wn rfl (rv_len (t := tGWord) Tryz.underlying97 rfl (SliceAt.mono ((hl40.trans hl47).trans hl130) hs30)) ?_
      refine vm rfl rfl ?_
      refine vm rfl rfl ?_
      refine wl_val wn rfl (rv_build (cs := #[sv o126, .int .i64 (s19.1.length : Int), .int .i64 s19.2, .int .i64 o43.1]) sp100 tf100 rfl (by kernel_rfl)) ?_
      refine wl_buildSlice (t := tGWord) (n := 1) (pv := [(0, .agg #[sv o126, .int .i64 (s19.1.length : Int), .int .i64 s19.2, .int .i64 o43.1])]) (cs := [sv o126, .int .i64 (s19.1.length : Int), .int .i64 s19.2, .int .i64 o43.1]) (xs := [(GWord.mk o126 (s19.1.length : Int) s19.2 o43.1)]) wn rfl Tryz.underlying97 tf100 rfl rfl rfl (by kernel_rfl) rfl rfl (lit_cons (u := .agg #[sv o126, .int .i64 (s19.1.length : Int), .int .i64 s19.2, .int .i64 o43.1]) (z := (GWord.mk o126 (s19.1.length : Int) s19.2 o43.1)) ⟨rfl, (SliceAt.max hs136), (rng_nat (SliceAt.max (SliceAt.mono ((hl40.trans hl47).trans hl130) hs30))), hr31, hr50⟩ lit_nil) hS132 ?_
      intro a150 w151 K152 hl153 hs154 hS155
      have hS156 : SH _ _ _ _ _ [_, _] := SH.front (p := [_]) hS155
      obtain ⟨x157, hx158, h159⟩ := ob h149
      refine wl_append (t := tGWord) wn rfl Tryz.underlying97 tf100 rfl rfl rfl rfl rfl (SliceAt.mono (((hl40.trans hl47).trans hl130).trans hl153) hs30) hs154 hx158 hS156 ?_
      intro a160 n161 c162 w163 K164 hl165 hs166 hS167
      refine va rfl rfl ?_
      refine nb ?_
      refine qe_seq ?_
      refine wc_region ?_
      refine vm rfl rfl ?_
      refine wl_val wn rfl (rv_add rfl rfl) ?_
      refine va rfl rfl ?_
      refine wl_nil ?_
      obtain rfl := oi h159
      have hS168 : SH _ _ _ _ _ [_] := SH.sublist hS167 (.cons_cons _ (.cons _ .slnil))
      exact qe_mid' ⟨_, rfl, a160, n161, c162, K164, rfl, hS168, (((((hl24.trans hl40).trans hl47).trans hl130).trans hl153).trans hl165), hs166, (w64_rng _)⟩ ⟨rfl, rfl, rfl, trivial⟩
     ·have h149 := cond_f hb148 h128
      refine wc_skip ?_
      refine qe_block ?_
      refine qe_seq ?_
      refine wc_region ?_
      refine vm rfl rfl ?_
      refine wl_val wn rfl (rv_add rfl rfl) ?_
      refine va rfl rfl ?_
      refine wl_nil ?_
      obtain rfl := oi h149
      exact qe_mid' ⟨_, rfl, a27, n28, c29, K129, rfl, hS132, (((hl24.trans hl40).trans hl47).trans hl130), (SliceAt.mono ((hl40.trans hl47).trans hl130) hs30), (w64_rng _)⟩ ⟨rfl, rfl, rfl, trivial⟩
  ·have h36 := cond_f hb35 h33
   refine wc_exit ?_
   refine qe_then_exit ?_
   refine qe_then_exit ?_
   obtain rfl := oi h36
   have e169 := hx34 _ rfl
   subst e169
   refine qe_block_eq ?_
   obtain rfl := oi h22
   exact qe_mid' ⟨a27, n28, c29, K23, rfl, hS26, hl24, hs30⟩ ⟨rfl, trivial⟩
 ·rintro _ w13 ⟨a15, n16, c17, K11, rfl, hS14, hl12, hs18⟩
  refine qr ?_
  refine vm rfl rfl ?_
  refine va rfl rfl ?_
  refine nq ?_
  refine wc_ret ?_
  obtain rfl := oi h10
  exact qe_ret (vs := [_]) Tryz.results179 ⟨rfl, trivial⟩ ⟨a15, n16, c17, K11, rfl, hS14, hs18⟩

set_option maxHeartbeats 2000000 in
theorem ok_spec_l2Plain (F : Nat) {w : World} {K : KMap} {a1 : Option Addr} {n2 c3 : Nat} {a5 : Option Addr} {n6 c7 : Nat} {p0_c : GConf} {p1_s : Str} {r : (List GTerm)} (hS : SH w K [] w K []) (hs4 : SliceAt tStr K a1 n2 c3 p0_c.Stops) (hs8 : SliceAt tGSyn K a5 n6 c7 p0_c.Syns) (hl9 : p1_s.length ≤ maxLen) (hm : M.spec_l2Plain F p0_c p1_s = some r) :
  Calls Tryz.prog 169 #[.agg #[.slice a1 n2 c3, .slice a5 n6 c7], sv p1_s] w fun e w' => ∃ (a_1 : Option Addr) (n_2 c_3 : Nat) (K' : KMap), e = .returned (.slice a_1 n_2 c_3) ∧ SH w K [] w' K' [tail (.slice a_1 n_2 c_3) 46 2] ∧ SliceAt tGTerm K' a_1 n_2 c_3 r := by
 rw [M.spec_l2Plain] at hm
 refine calls_in Tryz.func169 rfl Tryz.ntmps169 rfl ?_
 refine sr ?_
 refine wl_box wn rfl rfl hS ?_
 intro g10 w11 hS12
 have hS13 : SH _ _ _ _ _ [obj g10 [.slice a1 n2 c3, .slice a5 n6 c7] 26] := hS12
 refine wl_val wn rfl (rv_assign (v := .slice none 0 0) rfl) ?_
 refine nr ?_
 refine wl_buildSlice0 tGTerm wn rfl Tryz.underlying38 tf46 hS13 ?_
 intro a14 w15 K16 hl17 hs18 hS19
 refine va rfl rfl ?_
 refine nr ?_
 refine vm rfl rfl ?_
 obtain ⟨r20, hx21, h22⟩ := ob hm
 refine wl_call wn rfl (rt_call (vs := [sv p1_s]) co179 rfl) ((ok_spec_l1Words F) hS19.enter0 hl9 hx21) ?_
 rintro e30 w24 ⟨a26, n27, c28, K23, rfl, hS25, hs29⟩
 refine ⟨_, rfl, ?_⟩
 have hS31 : SH _ _ _ _ _ [_, _, _] := SH.call0 hS19 hS25
 refine va rfl rfl ?_
 refine nsr ?_
 refine wl_val wn rfl (rv_assign (v := .int .i64 0) rfl) ?_
 refine nq ?_
 obtain ⟨o32, h33, h34⟩ := ob h22
 refine wc_cutg (fun E' w' => ∃ (a39 : Option Addr) (n40 c41 : Nat) (K35 : KMap), E' = [(5, .slice a39 n40 c41)] ∧ SH w K [] w' K35 [tail (.slice a39 n40 c41) 46 2] ∧ KLe K23 K35 ∧ SliceAt tGTerm K35 a39 n40 c41 o32) ?_ ?_
 ·refine wc_block ?_
  obtain ⟨r44, h45, h46⟩ := ob h33
  have hS56 : SH _ _ _ _ _ [_, _, _] := SH.front (p := [_]) hS31
  have hS57 : SH _ _ _ _ _ [_, _, _] := SH.front (p := [_, _]) hS56
  have hS58 : SH _ _ _ _ _ [_, _] := SH.sublist hS57 (.cons_cons _ (.cons_cons _ (.cons _ .slnil)))
  refine wc_while' (fun (s43 : (List GTerm) × Int) E' w' => ∃ (a51 : Option Addr) (n52 c53 : Nat) (K47 : KMap), E' = [(2, .pointer (some ⟨g10, 0, none⟩)), (5, .slice a51 n52 c53), (6, .slice a26 n27 c28), (7, .int .i64 s43.2)] ∧ SH w K [] w' K47 [obj g10 [.slice a1 n2 c3, .slice a5 n6 c7] 26, tail (.slice a51 n52 c53) 46 2] ∧ KLe K23 K47 ∧ SliceAt tGTerm K47 a51 n52 c53 s43.1 ∧ rng64 s43.2) h45 ⟨a14, 0, 0, K23, rfl, hS58, (KLe.refl _), (SliceAt.mono hS25.le hs18), (by decide : rng64 0)⟩ ⟨rfl, rfl, rfl, rfl, trivial⟩ ?_
  rintro s43 _ w49 r59 h60 hx61 ⟨a51, n52, c53, K47, rfl, hS50, hl48, hs54, hr55⟩
  refine wc_seq ?_
  refine sr ?_
  refine vm rfl rfl ?_
  refine vm rfl rfl ?_
  refine wl_val wn rfl (rv_len (t := tGWord) Tryz.underlying97 rfl (SliceAt.mono hl48 hs29)) ?_
  refine wl_val wn rfl (rv_lss rfl rfl) ?_
  refine nq ?_
  refine wc_cond rfl (fun hb62 => ?_) (fun hb62 => ?_)
  ·have h63 := cond_t hb62 h60
   refine wc_skip ?_
   refine qs ?_
   refine wc_block ?_
   refine sr ?_
   refine vm rfl rfl ?_
   refine vm rfl rfl ?_
   obtain ⟨x64, hx65, h66⟩ := ob h63
   refine wl_indexAddr (t := tGWord) wn rfl Tryz.underlying97 tf100 rfl rfl (SliceAt.mono hl48 hs29) hx65 ?_
   intro b67 o68 u69 hu70 ha71
   obtain ⟨rfl, hl72, hr73, hr74, hr75⟩ := hu70
   have ha76 : AtK _ b67 o68 [sv x64.Text, .int .i64 x64.At, .int .i64 x64.From, .int .i64 x64.To] := ha71
   refine wl_val wn rfl (rv_fieldAddr ff100_0 rfl) ?_
   refine wl_val wn rfl (rv_load1 tf9 rfl hS50 (ha76 0 _ rfl)) ?_
   obtain ⟨r77, hx78, h79⟩ := ob h66
   refine wl_call wn rfl (rt_call (vs := [sv x64.Text]) co110 rfl) ((ok_spec_l2Stem F) hS50.enter0 hl72 hx78) ?_
   rintro e84 w81 ⟨K80, rfl, hS82, hl83⟩
   refine ⟨_, rfl, ?_⟩
   have hS85 : SH _ _ _ _ _ [_, _] := SH.call0 hS50 hS82
   refine va rfl rfl ?_
   refine ns ?_
   obtain ⟨o86, h87, h88⟩ := ob h79
   refine wc_cutg (fun E' w' => ∃ (K89 : KMap), E' = [(2, .pointer (some ⟨g10, 0, none⟩)), (5, .slice a51 n52 c53), (6, .slice a26 n27 c28), (7, .int .i64 s43.2), (8, sv r77), (39, .bool o86)] ∧ SH w K [] w' K89 [obj g10 [.slice a1 n2 c3, .slice a5 n6 c7] 26, tail (.slice a51 n52 c53) 46 2] ∧ KLe K80 K89) ?_ ?_
   ·refine wc_quiet mixed (by kernel_rfl) hS85 ?_
    refine wq_val wn rfl (fun _ _ => (rv_fieldAddr ff26_0 rfl)) ?_
    refine wq_val wn rfl (rq_loadm1 tf23 rfl (.head _) rfl) ?_
    refine qm rfl rfl ?_
    refine qm rfl rfl ?_
    obtain ⟨x93, hx94, h95⟩ := ob h87
    refine wq_indexAddr (t := tGWord) wn rfl Tryz.underlying97 tf100 rfl rfl (SliceAt.mono (hl48.trans hS82.le) hs29) hx94 ?_
    intro b96 o97 u98 hu99 ha100
    obtain ⟨rfl, hl101, hr102, hr103, hr104⟩ := hu99
    have ha105 : AtK _ b96 o97 [sv x93.Text, .int .i64 x93.At, .int .i64 x93.From, .int .i64 x93.To] := ha100
    refine wq_val wn rfl (fun _ _ => (rv_fieldAddr ff100_0 rfl)) ?_
    refine wq_val wn rfl (rq_load1 tf9 rfl (ha105 0 _ rfl)) ?_
    obtain ⟨r106, hx107, h108⟩ := ob h95
    refine wq_call (v := .bool r106) wn rfl (fun _ => rt_call (vs := [.slice a1 n2 c3, sv x93.Text]) co111 rfl) (fun w111 ⟨K109, hS110, hl112⟩ => ((ok_spec_l2Has F) hS110.enter0 (SliceAt.mono ((((hl17.trans hS25.le).trans hl48).trans hS82.le).trans hl112) hs4) hl101 hx107).mono fun e w' ⟨K', he, hS'⟩ => ⟨he, K', hS110.call0 hS', hl112.trans hS'.le⟩) ?_
    refine wq_val wn rfl (fun _ _ => (rv_not rfl)) ?_
    refine qm rfl rfl ?_
    rcases bool_tf ((!r106)) with hb113 | hb113
    ·have h114 := cond_t hb113 h108
     refine wq_val (wg rfl rfl hb113) rfl (fun _ _ => (rv_fieldAddr ff26_0 rfl)) ?_
     refine wq_val (wg rfl rfl hb113) rfl (rq_loadm1 tf23 rfl (.head _) rfl) ?_
     refine wq_val (wg rfl rfl hb113) rfl (fun _ _ => (rv_move rfl)) ?_
     obtain ⟨r115, hx116, h117⟩ := ob h114
     refine wq_call (v := .bool r115) (wg rfl rfl hb113) rfl (fun _ => rt_call (vs := [.slice a1 n2 c3, sv r77]) co111 rfl) (fun w120 ⟨K118, hS119, hl121⟩ => ((ok_spec_l2Has F) hS119.enter0 (SliceAt.mono ((((hl17.trans hS25.le).trans hl48).trans hS82.le).trans hl121) hs4) hl83 hx116).mono fun e w' ⟨K', he, hS'⟩ => ⟨he, K', hS119.call0 hS', hl121.trans hS'.le⟩) ?_
     refine wq_val (wg rfl rfl hb113) rfl (fun _ _ => (rv_not rfl)) ?_
     refine wq_val wn rfl (fun _ _ => (rv_pick_t rfl hb113 rfl)) ?_
     refine wq_nil ?_
     rintro w123 ⟨K122, hS124, hl125⟩
     obtain rfl := oi h117
     exact qe_mid' ⟨K122, rfl, hS124, hl125⟩ ⟨rfl, rfl, rfl, rfl, rfl, rfl, trivial⟩
    ·have h114 := cond_f hb113 h108
     refine wq_un (ug rfl rfl hb113) rfl ?_
     refine wq_un (ug rfl rfl hb113) rfl ?_
     refine wq_un (ug rfl rfl hb113) rfl ?_
     refine wq_un (ug rfl rfl hb113) rfl ?_
     refine wq_un (ug rfl rfl hb113) rfl ?_
     refine wq_val wn rfl (fun _ _ => (rv_pick_f (v := .bool false) rfl hb113 rfl)) ?_
     refine wq_nil ?_
     rintro w127 ⟨K126, hS128, hl129⟩
     obtain rfl := oi h114
     exact qe_mid' ⟨K126, rfl, hS128, hl129⟩ ⟨rfl, rfl, rfl, rfl, rfl, rfl, trivial⟩
   ·rintro _ w91 ⟨K89, rfl, hS92, hl90⟩
    refine qe_seq ?_
    refine wc_cond rfl (fun hb130 => ?_) (fun hb130 => ?_)
    ·have h131 := cond_t hb130 h88
     refine wc_region ?_
     refine vm rfl rfl ?_
     refine vm rfl rfl ?_
     refine vm rfl rfl ?_
     refine vm rfl rfl ?_
     obtain ⟨x132, hx133, h134⟩ := ob h131
     refine wl_indexAddr (t := tGWord) wn rfl Tryz.underlying97 tf100 rfl rfl (SliceAt.mono ((hl48.trans hS82.le).trans hl90) hs29) hx133 ?_
     intro b135 o136 u137 hu138 ha139
     obtain ⟨rfl, hl140, hr141, hr142, hr143⟩ := hu138
     have ha144 : AtK _ b135 o136 [sv x132.Text, .int .i64 x132.At, .int .i64 x132.From, .int .i64 x132.To] := ha139
     refine wl_val wn rfl (rv_fieldAddr ff100_1 rfl) ?_
     refine wl_val wn rfl (rv_load1 tf3 rfl hS92 (ha144 1 _ rfl)) ?_
     refine wl_val wn rfl (rv_build (cs := #[sv r77, .int .i64 x132.At]) sp46 tf46 rfl (by kernel_rfl)) ?_
     refine wl_buildSlice (t := tGTerm) (n := 1) (pv := [(0, .agg #[sv r77, .int .i64 x132.At])]) (cs := [sv r77, .int .i64 x132.At]) (xs := [(GTerm.mk r77 x132.At)]) wn rfl Tryz.underlying38 tf46 rfl rfl rfl (by kernel_rfl) rfl rfl (lit_cons (u := .agg #[sv r77, .int .i64 x132.At]) (z := (GTerm.mk r77 x132.At)) ⟨rfl, hl83, hr141⟩ lit_nil) hS92 ?_
     intro a145 w146 K147 hl148 hs149 hS150
     have hS151 : SH _ _ _ _ _ [_, _, _] := SH.front (p := [_, _]) hS150
     obtain ⟨x152, hx153, h154⟩ := ob h134
     refine wl_append (t := tGTerm) wn rfl Tryz.underlying38 tf46 rfl rfl rfl rfl rfl (SliceAt.mono ((hS82.le.trans hl90).trans hl148) hs54) hs149 hx153 hS151 ?_
     intro a155 n156 c157 w158 K159 hl160 hs161 hS162
     refine va rfl rfl ?_
     refine nb ?_
     refine qe_seq ?_
     refine wc_region ?_
     refine vm rfl rfl ?_
     refine wl_val wn rfl (rv_add rfl rfl) ?_
     refine va rfl rfl ?_
     refine wl_nil ?_
     obtain rfl := oi h154
     have hS163 : SH _ _ _ _ _ [_, _, _] := SH.front (p := [_, _]) hS162
     have hS164 : SH _ _ _ _ _ [_, _] := SH.sublist hS163 (.cons_cons _ (.cons_cons _ (.cons _ .slnil)))
     exact qe_mid' ⟨_, rfl, a155, n156, c157, K159, rfl, hS164, ((((hl48.trans hS82.le).trans hl90).trans hl148).trans hl160), hs161, (w64_rng _)⟩ ⟨rfl, rfl, rfl, rfl, trivial⟩
    ·have h131 := cond_f hb130 h88
     refine wc_skip ?_
     refine qe_block ?_
     refine qe_seq ?_
     refine wc_region ?_
     refine vm rfl rfl ?_
     refine wl_val wn rfl (rv_add rfl rfl) ?_
     refine va rfl rfl ?_
     refine wl_nil ?_
     obtain rfl := oi h131
     exact qe_mid' ⟨_, rfl, a51, n52, c53, K89, rfl, hS92, ((hl48.trans hS82.le).trans hl90), (SliceAt.mono (hS82.le.trans hl90) hs54), (w64_rng _)⟩ ⟨rfl, rfl, rfl, rfl, trivial⟩
  ·have h63 := cond_f hb62 h60
   refine wc_exit ?_
   refine qe_then_exit ?_
   refine qe_then_exit ?_
   obtain rfl := oi h63
   have e165 := hx61 _ rfl
   subst e165
   refine qe_block_eq ?_
   obtain rfl := oi h46
   have hS166 : SH _ _ _ _ _ [_] := SH.sublist hS50 (.cons _ (.cons_cons _ .slnil))
   exact qe_mid' ⟨a51, n52, c53, K47, rfl, hS166, hl48, hs54⟩ ⟨rfl, trivial⟩
 ·rintro _ w37 ⟨a39, n40, c41, K35, rfl, hS38, hl36, hs42⟩
  refine qr ?_
  refine vm rfl rfl ?_
  refine va rfl rfl ?_
  refine nq ?_
  refine wc_ret ?_
  obtain rfl := oi h34
  exact qe_ret (vs := [_]) Tryz.results169 ⟨rfl, trivial⟩ ⟨a39, n40, c41, K35, rfl, hS38, hs42⟩

set_option maxHeartbeats 2000000 in
theorem ok_spec_l2Begins (F : Nat) {w : World} {K : KMap} {a1 : Option Addr} {n2 c3 : Nat} {a5 : Option Addr} {n6 c7 : Nat} {p0_list : List GTerm} {p1_from : List Str} {r : Bool} (hS : SH w K [] w K []) (hs4 : SliceAt tGTerm K a1 n2 c3 p0_list) (hs8 : SliceAt tStr K a5 n6 c7 p1_from) (hm : M.spec_l2Begins F p0_list p1_from = some r) :
  Calls Tryz.prog 180 #[.slice a1 n2 c3, .slice a5 n6 c7] w fun e w' => ∃ (K' : KMap), e = .returned (.bool r) ∧ SH w K [] w' K' [] := by
 rw [M.spec_l2Begins] at hm
 refine calls_in Tryz.func180 rfl Tryz.ntmps180 rfl ?_
 refine sr ?_
 refine wl_val wn rfl (rv_assign (v := .bool false) rfl) ?_
 refine nsr ?_
 refine wl_val wn rfl (rv_assign (v := .int .i64 0) rfl) ?_
 refine nq ?_
 obtain ⟨o9, h10, h11⟩ := ob hm
 refine wc_cutg (fun E' w' => ∃ (s12 : Unit) (K13 : KMap), o9 = .inl s12 ∧ E' = [] ∧ SH w K [] w' K13 [] ∧ KLe K K13) ?_ ?_
 ·refine wc_block ?_
  obtain ⟨r18, h19, h20⟩ := ob h10
  refine wc_while' (fun (s17 : Int) E' w' => ∃ (K21 : KMap), E' = [(0, .slice a1 n2 c3), (1, .slice a5 n6 c7), (5, .int .i64 s17)] ∧ SH w K [] w' K21 [] ∧ KLe K K21 ∧ rng64 s17) h19 ⟨K, rfl, hS, (KLe.refl _), (by decide : rng64 0)⟩ ⟨rfl, rfl, rfl, trivial⟩ ?_
  rintro s17 _ w23 r26 h27 hx28 ⟨K21, rfl, hS24, hl22, hr25⟩
  refine wc_seq ?_
  refine sr ?_
  refine vm rfl rfl ?_
  refine vm rfl rfl ?_
  refine wl_val wn rfl (rv_len (t := tStr) Tryz.underlying23 rfl (SliceAt.mono hl22 hs8)) ?_
  refine wl_val wn rfl (rv_lss rfl rfl) ?_
  refine nq ?_
  refine wc_cond rfl (fun hb29 => ?_) (fun hb29 => ?_)
  ·have h30 := cond_t hb29 h27
   refine wc_skip ?_
   refine qs ?_
   refine wc_block ?_
   refine wc_seq ?_
   obtain ⟨o31, h32, h33⟩ := ob h30
   refine wc_cutg (fun E' w' => ∃ (K34 : KMap), E' = [(0, .slice a1 n2 c3), (1, .slice a5 n6 c7), (5, .int .i64 s17), (41, .bool o31)] ∧ SH w K [] w' K34 [] ∧ KLe K21 K34) ?_ ?_
   ·refine wc_quiet mixed (by kernel_rfl) hS24 ?_
    refine qm rfl rfl ?_
    refine qm rfl rfl ?_
    refine wq_val wn rfl (fun _ _ => (rv_len (t := tGTerm) Tryz.underlying38 rfl (SliceAt.mono hl22 hs4))) ?_
    refine wq_val wn rfl (fun _ _ => (rv_geq rfl rfl)) ?_
    refine qm rfl rfl ?_
    rcases bool_tf (decide ((p0_list.length : Int) ≤ s17)) with hb38 | hb38
    ·have h39 := cond_t hb38 h32
     refine wq_un (ug rfl rfl hb38) rfl ?_
     refine wq_un (ug rfl rfl hb38) rfl ?_
     refine wq_un (ug rfl rfl hb38) rfl ?_
     refine wq_un (ug rfl rfl hb38) rfl ?_
     refine wq_un (ug rfl rfl hb38) rfl ?_
     refine wq_un (ug rfl rfl hb38) rfl ?_
     refine wq_un (ug rfl rfl hb38) rfl ?_
     refine wq_un (ug rfl rfl hb38) rfl ?_
     refine wq_un (ug rfl rfl hb38) rfl ?_
     refine wq_un (ug rfl rfl hb38) rfl ?_
     refine wq_val wn rfl (fun _ _ => (rv_pick_t (v := .bool true) rfl hb38 rfl)) ?_
     refine qm rfl rfl ?_
     refine qv rfl rfl rfl rfl ?_
     refine qv rfl rfl rfl rfl ?_
     refine qv rfl rfl rfl rfl ?_
     refine qv rfl rfl rfl rfl ?_
     refine qv rfl rfl rfl rfl ?_
     refine qv rfl rfl rfl rfl ?_
     refine qv rfl rfl rfl rfl ?_
     refine qv rfl rfl rfl rfl ?_
     refine qv rfl rfl rfl rfl ?_
     refine qv rfl rfl rfl rfl ?_
     refine qv rfl rfl rfl rfl ?_
     refine qv rfl rfl rfl rfl ?_
     refine wq_val wn rfl (fun _ _ => (rv_pick_t (v := .bool true) rfl rfl rfl)) ?_
     refine wq_nil ?_
     rintro w41 ⟨K40, hS42, hl43⟩
     obtain rfl := oi h39
     exact qe_mid' ⟨K40, rfl, hS42, hl43⟩ ⟨rfl, rfl, rfl, rfl, trivial⟩
    ·have h39 := cond_f hb38 h32
     refine wq_val (wg rfl rfl hb38) rfl (fun _ _ => (rv_move rfl)) ?_
     refine wq_val (wg rfl rfl hb38) rfl (fun _ _ => (rv_move rfl)) ?_
     obtain ⟨x44, hx45, h46⟩ := ob h39
     refine wq_indexAddr (t := tGTerm) (wg rfl rfl hb38) rfl Tryz.underlying38 tf46 rfl rfl (SliceAt.mono hl22 hs4) hx45 ?_
     intro b47 o48 u49 hu50 ha51
     obtain ⟨rfl, hl52, hr53⟩ := hu50
     have ha54 : AtK _ b47 o48 [sv x44.Text, .int .i64 x44.At] := ha51
     refine wq_val (wg rfl rfl hb38) rfl (fun _ _ => (rv_fieldAddr ff46_0 rfl)) ?_
     refine wq_val (wg rfl rfl hb38) rfl (rq_load1 tf9 rfl (ha54 0 _ rfl)) ?_
     refine wq_val (wg rfl rfl hb38) rfl (fun _ _ => (rv_move rfl)) ?_
     refine wq_val (wg rfl rfl hb38) rfl (fun _ _ => (rv_move rfl)) ?_
     obtain ⟨x55, hx56, h57⟩ := ob h46
     refine wq_indexAddr (t := tStr) (wg rfl rfl hb38) rfl Tryz.underlying23 tf9 rfl rfl (SliceAt.mono hl22 hs8) hx56 ?_
     intro b58 o59 u60 hu61 ha62
     obtain ⟨rfl, hl63⟩ := hu61
     have ha64 : AtK _ b58 o59 [sv x55] := ha62
     refine wq_val (wg rfl rfl hb38) rfl (rq_load1 tf9 rfl (ha64 0 _ rfl)) ?_
     refine wq_val (wg rfl rfl hb38) rfl (fun _ _ => (rv_sneq rfl rfl)) ?_
     refine wq_val wn rfl (fun _ _ => (rv_pick_f rfl hb38 rfl)) ?_
     refine qm rfl rfl ?_
     rcases bool_tf ((!(x44.Text == x55))) with hb65 | hb65
     ·have h66 := cond_t hb65 h57
      refine wq_un (ug rfl rfl hb65) rfl ?_
      refine wq_un (ug rfl rfl hb65) rfl ?_
      refine wq_un (ug rfl rfl hb65) rfl ?_
      refine wq_un (ug rfl rfl hb65) rfl ?_
      refine wq_un (ug rfl rfl hb65) rfl ?_
      refine wq_un (ug rfl rfl hb65) rfl ?_
      refine wq_un (ug rfl rfl hb65) rfl ?_
      refine wq_un (ug rfl rfl hb65) rfl ?_
      refine wq_un (ug rfl rfl hb65) rfl ?_
      refine wq_un (ug rfl rfl hb65) rfl ?_
      refine wq_un (ug rfl rfl hb65) rfl ?_
      refine wq_un (ug rfl rfl hb65) rfl ?_
      refine wq_val wn rfl (fun _ _ => (rv_pick_t (v := .bool true) rfl hb65 rfl)) ?_
      refine wq_nil ?_
      rintro w68 ⟨K67, hS69, hl70⟩
      obtain rfl := oi h66
      exact qe_mid' ⟨K67, rfl, hS69, hl70⟩ ⟨rfl, rfl, rfl, rfl, trivial⟩
     ·have h66 := cond_f hb65 h57
      refine wq_val (wg rfl rfl hb65) rfl (fun _ _ => (rv_move rfl)) ?_
      refine wq_val (wg rfl rfl hb65) rfl (fun _ _ => (rv_move rfl)) ?_
      obtain ⟨x71, hx72, h73⟩ := ob h66
      refine wq_indexAddr (t := tGTerm) (wg rfl rfl hb65) rfl Tryz.underlying38 tf46 rfl rfl (SliceAt.mono hl22 hs4) hx72 ?_
      intro b74 o75 u76 hu77 ha78
      obtain ⟨rfl, hl79, hr80⟩ := hu77
      have ha81 : AtK _ b74 o75 [sv x71.Text, .int .i64 x71.At] := ha78
      refine wq_val (wg rfl rfl hb65) rfl (fun _ _ => (rv_fieldAddr ff46_1 rfl)) ?_
      refine wq_val (wg rfl rfl hb65) rfl (rq_load1 tf3 rfl (ha81 1 _ rfl)) ?_
      refine wq_val (wg rfl rfl hb65) rfl (fun _ _ => (rv_move rfl)) ?_
      obtain ⟨x82, hx83, h84⟩ := ob h73
      refine wq_indexAddr (t := tGTerm) (wg rfl rfl hb65) rfl Tryz.underlying38 tf46 rfl rfl (SliceAt.mono hl22 hs4) hx83 ?_
      intro b85 o86 u87 hu88 ha89
      obtain ⟨rfl, hl90, hr91⟩ := hu88
      have ha92 : AtK _ b85 o86 [sv x82.Text, .int .i64 x82.At] := ha89
      refine wq_val (wg rfl rfl hb65) rfl (fun _ _ => (rv_fieldAddr ff46_1 rfl)) ?_
      refine wq_val (wg rfl rfl hb65) rfl (rq_load1 tf3 rfl (ha92 1 _ rfl)) ?_
      refine wq_val (wg rfl rfl hb65) rfl (fun _ _ => (rv_move rfl)) ?_
      refine wq_val (wg rfl rfl hb65) rfl (fun _ _ => (rv_add rfl rfl)) ?_
      refine wq_val (wg rfl rfl hb65) rfl (fun _ _ => (rv_neq rfl rfl)) ?_
      refine wq_val wn rfl (fun _ _ => (rv_pick_f rfl hb65 rfl)) ?_
      refine wq_nil ?_
      rintro w94 ⟨K93, hS95, hl96⟩
      obtain rfl := oi h84
      exact qe_mid' ⟨K93, rfl, hS95, hl96⟩ ⟨rfl, rfl, rfl, rfl, trivial⟩
   ·rintro _ w36 ⟨K34, rfl, hS37, hl35⟩
    refine qe_seq ?_
    refine wc_cond rfl (fun hb97 => ?_) (fun hb97 => ?_)
    ·have h98 := cond_t hb97 h33
     refine sr ?_
     refine wl_val wn rfl (rv_assign (v := .bool false) rfl) ?_
     refine nq ?_
     refine wc_ret ?_
     refine qe_block_ret ?_
     refine qe_then_ret ?_
     refine qe_then_ret ?_
     obtain rfl := oi h98
     have e99 := hx28 _ rfl
     subst e99
     refine qe_block_ret ?_
     refine qe_then_ret ?_
     obtain rfl := oi h20
     refine qe_then_ret ?_
     obtain rfl := oi h11
     exact qe_ret (vs := [_]) Tryz.results180 ⟨rfl, trivial⟩ ⟨K34, rfl, hS37⟩
    ·have h98 := cond_f hb97 h33
     refine wc_skip ?_
     refine qe_block ?_
     refine qe_seq ?_
     refine wc_region ?_
     refine vm rfl rfl ?_
     refine wl_val wn rfl (rv_add rfl rfl) ?_
     refine va rfl rfl ?_
     refine wl_nil ?_
     obtain rfl := oi h98
     exact qe_mid' ⟨_, rfl, K34, rfl, hS37, (hl22.trans hl35), (w64_rng _)⟩ ⟨rfl, rfl, rfl, trivial⟩
  ·have h30 := cond_f hb29 h27
   refine wc_exit ?_
   refine qe_then_exit ?_
   refine qe_then_exit ?_
   obtain rfl := oi h30
   have e100 := hx28 _ rfl
   subst e100
   refine qe_block_eq ?_
   obtain rfl := oi h20
   exact qe_mid' ⟨_, K21, rfl, rfl, hS24, hl22⟩ trivial
 ·rintro _ w15 ⟨s12, K13, rfl, rfl, hS16, hl14⟩
  refine qr ?_
  refine wl_val wn rfl (rv_assign (v := .bool true) rfl) ?_
  refine nq ?_
  refine wc_ret ?_
  obtain rfl := oi h11
  exact qe_ret (vs := [_]) Tryz.results180 ⟨rfl, trivial⟩ ⟨K13, rfl, hS16⟩

set_option maxHeartbeats 2000000 in
theorem ok_spec_l2Syn (F : Nat) {w : World} {K : KMap} {a1 : Option Addr} {n2 c3 : Nat} {a5 : Option Addr} {n6 c7 : Nat} {a9 : Option Addr} {n10 c11 : Nat} {p0_c : GConf} {p1_list : List GTerm} {r : Int} (hS : SH w K [] w K []) (hs4 : SliceAt tStr K a1 n2 c3 p0_c.Stops) (hs8 : SliceAt tGSyn K a5 n6 c7 p0_c.Syns) (hs12 : SliceAt tGTerm K a9 n10 c11 p1_list) (hm : M.spec_l2Syn F p0_c p1_list = some r) :
  Calls Tryz.prog 170 #[.agg #[.slice a1 n2 c3, .slice a5 n6 c7], .slice a9 n10 c11] w fun e w' => ∃ (K' : KMap), e = .returned (.int .i64 r) ∧ SH w K [] w' K' [] ∧ rng64 r := by
 rw [M.spec_l2Syn] at hm
 refine calls_in Tryz.func170 rfl Tryz.ntmps170 rfl ?_
 refine sr ?_
 refine wl_box wn rfl rfl hS ?_
 intro g13 w14 hS15
 have hS16 : SH _ _ _ _ _ [obj g13 [.slice a1 n2 c3, .slice a5 n6 c7] 26] := hS15
 refine wl_val wn rfl (rv_assign (v := .int .i64 0) rfl) ?_
 refine nr ?_
 refine wl_val wn rfl (rv_assign (v := .int .i64 (-1)) rfl) ?_
 refine nsr ?_
 refine wl_val wn rfl (rv_assign (v := .int .i64 0) rfl) ?_
 refine nq ?_
 obtain ⟨o17, h18, h19⟩ := ob hm
 refine wc_cutg (fun E' w' => ∃ (K20 : KMap), E' = [(5, .int .i64 o17)] ∧ SH w K [] w' K20 [] ∧ KLe K K20 ∧ rng64 o17) ?_ ?_
 ·refine wc_block ?_
  obtain ⟨r26, h27, h28⟩ := ob h18
  refine wc_while' (fun (s25 : Int × Int) E' w' => ∃ (K29 : KMap), E' = [(1, .slice a9 n10 c11), (2, .pointer (some ⟨g13, 0, none⟩)), (5, .int .i64 s25.1), (6, .int .i64 s25.2)] ∧ SH w K [] w' K29 [obj g13 [.slice a1 n2 c3, .slice a5 n6 c7] 26] ∧ KLe K K29 ∧ rng64 s25.1 ∧ rng64 s25.2) h27 ⟨K, rfl, hS16, (KLe.refl _), (by decide : rng64 (-1)), (by decide : rng64 0)⟩ ⟨rfl, rfl, rfl, rfl, trivial⟩ ?_
  rintro s25 _ w31 r35 h36 hx37 ⟨K29, rfl, hS32, hl30, hr33, hr34⟩
  refine wc_seq ?_
  refine sr ?_
  refine vm rfl rfl ?_
  refine wl_val wn rfl (rv_fieldAddr ff26_1 rfl) ?_
  refine wl_val wn rfl (rv_loadm1 tf24 rfl (.head _) hS32 rfl) ?_
  refine wl_val wn rfl (rv_len (t := tGSyn) Tryz.underlying24 rfl (SliceAt.mono hl30 hs8)) ?_
  refine wl_val wn rfl (rv_lss rfl rfl) ?_
  refine nq ?_
  refine wc_cond rfl (fun hb38 => ?_) (fun hb38 => ?_)
  ·have h39 := cond_t hb38 h36
   refine wc_skip ?_
   refine qs ?_
   refine wc_block ?_
   refine wc_seq ?_
   obtain ⟨o40, h41, h42⟩ := ob h39
   refine wc_cutg (fun E' w' => ∃ (K43 : KMap), E' = [(1, .slice a9 n10 c11), (2, .pointer (some ⟨g13, 0, none⟩)), (5, .int .i64 s25.1), (6, .int .i64 s25.2), (42, .bool o40)] ∧ SH w K [] w' K43 [obj g13 [.slice a1 n2 c3, .slice a5 n6 c7] 26] ∧ KLe K29 K43) ?_ ?_
   ·refine wc_quiet mixed (by kernel_rfl) hS32 ?_
    refine qm rfl rfl ?_
    refine wq_val wn rfl (fun _ _ => (rv_fieldAddr ff26_1 rfl)) ?_
    refine wq_val wn rfl (rq_loadm1 tf24 rfl (.head _) rfl) ?_
    refine qm rfl rfl ?_
    obtain ⟨x47, hx48, h49⟩ := ob h41
    refine wq_indexAddr (t := tGSyn) wn rfl Tryz.underlying24 tf106 rfl rfl (SliceAt.mono hl30 hs8) hx48 ?_
    intro b50 o51 u52 hu53 ha54
    obtain ⟨a55, n56, c57, rfl, hs58, hl59⟩ := hu53
    have ha60 : AtK _ b50 o51 [.slice a55 n56 c57, sv x47.To] := ha54
    refine wq_val wn rfl (fun _ _ => (rv_fieldAddr ff106_0 rfl)) ?_
    refine wq_val wn rfl (rq_load1 tf23 rfl (ha60 0 _ rfl)) ?_
    obtain ⟨r61, hx62, h63⟩ := ob h49
    refine wq_call (v := .bool r61) wn rfl (fun _ => rt_call (vs := [.slice a9 n10 c11, .slice a55 n56 c57]) co180 rfl) (fun w66 ⟨K64, hS65, hl67⟩ => ((ok_spec_l2Begins F) hS65.enter0 (SliceAt.mono (hl30.trans hl67) hs12) (SliceAt.mono hl67 hs58) hx62).mono fun e w' ⟨K', he, hS'⟩ => ⟨he, K', hS65.call0 hS', hl67.trans hS'.le⟩) ?_
    refine qm rfl rfl ?_
    rcases bool_tf (r61) with hb68 | hb68
    ·have h69 := cond_t hb68 h63
     refine wq_val (wg rfl rfl hb68) rfl (fun _ _ => (rv_move rfl)) ?_
     refine wq_val (wg rfl rfl hb68) rfl (fun _ _ => (rv_lss rfl rfl)) ?_
     refine wq_val (wg rfl rfl hb68) rfl (fun _ _ => (rv_move rfl)) ?_
     rcases bool_tf (decide (s25.1 < (0 : Int))) with hb70 | hb70
     ·have h71 := cond_t hb70 h69
      refine wq_un (ug rfl rfl hb70) rfl ?_
      refine wq_un (ug rfl rfl hb70) rfl ?_
      refine wq_un (ug rfl rfl hb70) rfl ?_
      refine wq_un (ug rfl rfl hb70) rfl ?_
      refine wq_un (ug rfl rfl hb70) rfl ?_
      refine wq_un (ug rfl rfl hb70) rfl ?_
      refine wq_un (ug rfl rfl hb70) rfl ?_
      refine wq_un (ug rfl rfl hb70) rfl ?_
      refine wq_un (ug rfl rfl hb70) rfl ?_
      refine wq_un (ug rfl rfl hb70) rfl ?_
      refine wq_un (ug rfl rfl hb70) rfl ?_
      refine wq_un (ug rfl rfl hb70) rfl ?_
      refine wq_un (ug rfl rfl hb70) rfl ?_
      refine wq_un (ug rfl rfl hb70) rfl ?_
      refine wq_un (ug rfl rfl hb70) rfl ?_
      refine wq_val (wg rfl rfl hb68) rfl (fun _ _ => (rv_pick_t (v := .bool true) rfl hb70 rfl)) ?_
      refine wq_val wn rfl (fun _ _ => (rv_pick_t rfl hb68 rfl)) ?_
      refine wq_nil ?_
      rintro w73 ⟨K72, hS74, hl75⟩
      obtain rfl := oi h71
      exact qe_mid' ⟨K72, rfl, hS74, hl75⟩ ⟨rfl, rfl, rfl, rfl, rfl, trivial⟩
     ·have h71 := cond_f hb70 h69
      refine wq_val (wg rfl rfl hb70) rfl (fun _ _ => (rv_fieldAddr ff26_1 rfl)) ?_
      refine wq_val (wg rfl rfl hb70) rfl (rq_loadm1 tf24 rfl (.head _) rfl) ?_
      refine wq_val (wg rfl rfl hb70) rfl (fun _ _ => (rv_move rfl)) ?_
      obtain ⟨x76, hx77, h78⟩ := ob h71
      refine wq_indexAddr (t := tGSyn) (wg rfl rfl hb70) rfl Tryz.underlying24 tf106 rfl rfl (SliceAt.mono hl30 hs8) hx77 ?_
      intro b79 o80 u81 hu82 ha83
      obtain ⟨a84, n85, c86, rfl, hs87, hl88⟩ := hu82
      have ha89 : AtK _ b79 o80 [.slice a84 n85 c86, sv x76.To] := ha83
      refine wq_val (wg rfl rfl hb70) rfl (fun _ _ => (rv_fieldAddr ff106_0 rfl)) ?_
      refine wq_val (wg rfl rfl hb70) rfl (rq_load1 tf23 rfl (ha89 0 _ rfl)) ?_
      refine wq_val (wg rfl rfl hb70) rfl (fun _ _ => (rv_len (t := tStr) Tryz.underlying23 rfl hs87)) ?_
      refine wq_val (wg rfl rfl hb70) rfl (fun _ _ => (rv_fieldAddr ff26_1 rfl)) ?_
      refine wq_val (wg rfl rfl hb70) rfl (rq_loadm1 tf24 rfl (.head _) rfl) ?_
      refine wq_val (wg rfl rfl hb70) rfl (fun _ _ => (rv_move rfl)) ?_
      obtain ⟨x90, hx91, h92⟩ := ob h78
      refine wq_indexAddr (t := tGSyn) (wg rfl rfl hb70) rfl Tryz.underlying24 tf106 rfl rfl (SliceAt.mono hl30 hs8) hx91 ?_
      intro b93 o94 u95 hu96 ha97
      obtain ⟨a98, n99, c100, rfl, hs101, hl102⟩ := hu96
      have ha103 : AtK _ b93 o94 [.slice a98 n99 c100, sv x90.To] := ha97
      refine wq_val (wg rfl rfl hb70) rfl (fun _ _ => (rv_fieldAddr ff106_0 rfl)) ?_
      refine wq_val (wg rfl rfl hb70) rfl (rq_load1 tf23 rfl (ha103 0 _ rfl)) ?_
      refine wq_val (wg rfl rfl hb70) rfl (fun _ _ => (rv_len (t := tStr) Tryz.underlying23 rfl hs101)) ?_
      refine wq_val (wg rfl rfl hb70) rfl (fun _ _ => (rv_gtr rfl rfl)) ?_
      refine wq_val (wg rfl rfl hb68) rfl (fun _ _ => (rv_pick_f rfl hb70 rfl)) ?_
      refine wq_val wn rfl (fun _ _ => (rv_pick_t rfl hb68 rfl)) ?_
      refine wq_nil ?_
      rintro w105 ⟨K104, hS106, hl107⟩
      obtain rfl := oi h92
      exact qe_mid' ⟨K104, rfl, hS106, hl107⟩ ⟨rfl, rfl, rfl, rfl, rfl, trivial⟩
    ·have h69 := cond_f hb68 h63
     refine wq_un (ug rfl rfl hb68) rfl ?_
     refine wq_un (ug rfl rfl hb68) rfl ?_
     refine wq_un (ug rfl rfl hb68) rfl ?_
     refine qu rfl rfl rfl ?_
     refine qu rfl rfl rfl ?_
     refine qu rfl rfl rfl ?_
     refine qu rfl rfl rfl ?_
     refine qu rfl rfl rfl ?_
     refine qu rfl rfl rfl ?_
     refine qu rfl rfl rfl ?_
     refine qu rfl rfl rfl ?_
     refine qu rfl rfl rfl ?_
     refine qu rfl rfl rfl ?_
     refine qu rfl rfl rfl ?_
     refine qu rfl rfl rfl ?_
     refine qu rfl rfl rfl ?_
     refine qu rfl rfl rfl ?_
     refine qu rfl rfl rfl ?_
     refine wq_un (ug rfl rfl hb68) rfl ?_
     refine wq_val wn rfl (fun _ _ => (rv_pick_f (v := .bool false) rfl hb68 rfl)) ?_
     refine wq_nil ?_
     rintro w109 ⟨K108, hS110, hl111⟩
     obtain rfl := oi h69
     exact qe_mid' ⟨K108, rfl, hS110, hl111⟩ ⟨rfl, rfl, rfl, rfl, rfl, trivial⟩
   ·rintro _ w45 ⟨K43, rfl, hS46, hl44⟩
    refine qe_seq ?_
    refine wc_cond rfl (fun hb112 => ?_) (fun hb112 => ?_)
    ·have h113 := cond_t hb112 h42
     refine wc_region ?_
     refine vm rfl rfl ?_
     refine va rfl rfl ?_
     refine nb ?_
     refine qe_seq ?_
     refine wc_region ?_
     refine vm rfl rfl ?_
     refine wl_val wn rfl (rv_add rfl rfl) ?_
     refine va rfl rfl ?_
     refine wl_nil ?_
     obtain rfl := oi h113
     exact qe_mid' ⟨_, rfl, K43, rfl, hS46, (hl30.trans hl44), hr34, (w64_rng _)⟩ ⟨rfl, rfl, rfl, rfl, trivial⟩
    ·have h113 := cond_f hb112 h42
     refine wc_skip ?_
     refine qe_block ?_
     refine qe_seq ?_
     refine wc_region ?_
     refine vm rfl rfl ?_
     refine wl_val wn rfl (rv_add rfl rfl) ?_
     refine va rfl rfl ?_
     refine wl_nil ?_
     obtain rfl := oi h113
     exact qe_mid' ⟨_, rfl, K43, rfl, hS46, (hl30.trans hl44), hr33, (w64_rng _)⟩ ⟨rfl, rfl, rfl, rfl, trivial⟩
  ·have h39 := cond_f hb38 h36
   refine wc_exit ?_
   refine qe_then_exit ?_
   refine qe_then_exit ?_
   obtain rfl := oi h39
   have e114 := hx37 _ rfl
   subst e114
   refine qe_block_eq ?_
   obtain rfl := oi h28
   have hS115 : SH _ _ _ _ _ [] := SH.sublist hS32 (.cons _ .slnil)
   exact qe_mid' ⟨K29, rfl, hS115, hl30, hr33⟩ ⟨rfl, trivial⟩
 ·rintro _ w22 ⟨K20, rfl, hS23, hl21, hr24⟩
  refine qr ?_
  refine vm rfl rfl ?_
  refine va rfl rfl ?_
  refine nq ?_
  refine wc_ret ?_
  obtain rfl := oi h19
  exact qe_ret (vs := [_]) Tryz.results170 ⟨rfl, trivial⟩ ⟨K20, rfl, hS23, hr24⟩

set_option maxHeartbeats 2000000 in
theorem ok_spec_l2Terms (F : Nat) {w : World} {K : KMap} {a1 : Option Addr} {n2 c3 : Nat} {a5 : Option Addr} {n6 c7 : Nat} {p0_c : GConf} {p1_s : Str} {r : (List GTerm)} (hS : SH w K [] w K []) (hs4 : SliceAt tStr K a1 n2 c3 p0_c.Stops) (hs8 : SliceAt tGSyn K a5 n6 c7 p0_c.Syns) (hl9 : p1_s.length ≤ maxLen) (hm : M.spec_l2Terms F p0_c p1_s = some r) :
  Calls Tryz.prog 148 #[.agg #[.slice a1 n2 c3, .slice a5 n6 c7], sv p1_s] w fun e w' => ∃ (a_1 : Option Addr) (n_2 c_3 : Nat) (K' : KMap), e = .returned (.slice a_1 n_2 c_3) ∧ SH w K [] w' K' [tail (.slice a_1 n_2 c_3) 46 2] ∧ SliceAt tGTerm K' a_1 n_2 c_3 r := by
 rw [M.spec_l2Terms] at hm
 refine calls_in Tryz.func148 rfl Tryz.ntmps148 rfl ?_
 refine sr ?_
 refine wl_box wn rfl rfl hS ?_
 intro g10 w11 hS12
 have hS13 : SH _ _ _ _ _ [obj g10 [.slice a1 n2 c3, .slice a5 n6 c7] 26] := hS12
 refine wl_val wn rfl (rv_assign (v := .slice none 0 0) rfl) ?_
 refine nr ?_
 refine wl_buildSlice0 tGTerm wn rfl Tryz.underlying38 tf46 hS13 ?_
 intro a14 w15 K16 hl17 hs18 hS19
 refine va rfl rfl ?_
 refine nr ?_
 refine wl_val wn rfl (rv_loadmS (ds := [.slice a1 n2 c3, .slice a5 n6 c7]) tf26 rfl (.tail _ (.head _)) hS19 rfl rfl) ?_
 refine vm rfl rfl ?_
 obtain ⟨r20, hx21, h22⟩ := ob hm
 refine wl_call wn rfl (rt_call (vs := [.agg #[.slice a1 n2 c3, .slice a5 n6 c7], sv p1_s]) co169 rfl) ((ok_spec_l2Plain F) hS19.enter0 (SliceAt.mono hl17 hs4) (SliceAt.mono hl17 hs8) hl9 hx21) ?_
 rintro e30 w24 ⟨a26, n27, c28, K23, rfl, hS25, hs29⟩
 refine ⟨_, rfl, ?_⟩
 have hS31 : SH _ _ _ _ _ [_, _, _] := SH.call0 hS19 hS25
 refine va rfl rfl ?_
 refine ns ?_
 obtain ⟨o32, h33, h34⟩ := ob h22
 refine wc_cutg (fun E' w' => ∃ (a39 : Option Addr) (n40 c41 : Nat) (K35 : KMap), E' = [(5, .slice a39 n40 c41)] ∧ SH w K [] w' K35 [tail (.slice a39 n40 c41) 46 2] ∧ KLe K23 K35 ∧ SliceAt tGTerm K35 a39 n40 c41 o32) ?_ ?_
 ·refine wc_block ?_
  obtain ⟨r44, h45, h46⟩ := ob h33
  have hS59 : SH _ _ _ _ _ [_, _, _] := SH.front (p := [_]) hS31
  have hS60 : SH _ _ _ _ _ [_, _, _] := SH.front (p := [_, _]) hS59
  have hS61 : SH _ _ _ _ _ [_, _] := SH.sublist hS60 (.cons_cons _ (.cons_cons _ (.cons _ .slnil)))
  refine wc_while' (fun (s43 : (List GTerm) × (List GTerm)) E' w' => ∃ (a51 : Option Addr) (n52 c53 : Nat) (a55 : Option Addr) (n56 c57 : Nat) (K47 : KMap), E' = [(2, .pointer (some ⟨g10, 0, none⟩)), (5, .slice a51 n52 c53), (6, .slice a55 n56 c57)] ∧ SH w K [] w' K47 [obj g10 [.slice a1 n2 c3, .slice a5 n6 c7] 26, tail (.slice a51 n52 c53) 46 2] ∧ KLe K23 K47 ∧ SliceAt tGTerm K47 a51 n52 c53 s43.1 ∧ SliceAt tGTerm K47 a55 n56 c57 s43.2) h45 ⟨a14, 0, 0, a26, n27, c28, K23, rfl, hS61, (KLe.refl _), (SliceAt.mono hS25.le hs18), hs29⟩ ⟨rfl, rfl, rfl, trivial⟩ ?_
  rintro s43 _ w49 r62 h63 hx64 ⟨a51, n52, c53, a55, n56, c57, K47, rfl, hS50, hl48, hs54, hs58⟩
  refine wc_seq ?_
  refine sr ?_
  refine vm rfl rfl ?_
  refine wl_val wn rfl (rv_len (t := tGTerm) Tryz.underlying38 rfl hs58) ?_
  refine wl_val wn rfl (rv_gtr rfl rfl) ?_
  refine nq ?_
  refine wc_cond rfl (fun hb65 => ?_) (fun hb65 => ?_)
  ·have h66 := cond_t hb65 h63
   refine wc_skip ?_
   refine qe_seq ?_
   refine wc_block ?_
   refine sr ?_
   refine wl_val wn rfl (rv_loadmS (ds := [.slice a1 n2 c3, .slice a5 n6 c7]) tf26 rfl (.head _) hS50 rfl rfl) ?_
   refine vm rfl rfl ?_
   obtain ⟨r67, hx68, h69⟩ := ob h66
   refine wl_call wn rfl (rt_call (vs := [.agg #[.slice a1 n2 c3, .slice a5 n6 c7], .slice a55 n56 c57]) co170 rfl) ((ok_spec_l2Syn F) hS50.enter0 (SliceAt.mono ((hl17.trans hS25.le).trans hl48) hs4) (SliceAt.mono ((hl17.trans hS25.le).trans hl48) hs8) hs58 hx68) ?_
   rintro e74 w71 ⟨K70, rfl, hS72, hr73⟩
   refine ⟨_, rfl, ?_⟩
   have hS75 : SH _ _ _ _ _ [_, _] := SH.call0 hS50 hS72
   refine va rfl rfl ?_
   refine nsr ?_
   refine vm rfl rfl ?_
   refine wl_val wn rfl (rv_lss rfl rfl) ?_
   refine nq ?_
   refine wc_cond rfl (fun hb76 => ?_) (fun hb76 => ?_)
   ·have h77 := cond_t hb76 h69
    refine sr ?_
    refine vm rfl rfl ?_
    refine vm rfl rfl ?_
    obtain ⟨x78, hx79, h80⟩ := ob h77
    refine wl_indexAddr (t := tGTerm) wn rfl Tryz.underlying38 tf46 rfl rfl (SliceAt.mono hS72.le hs58) hx79 ?_
    intro b81 o82 u83 hu84 ha85
    obtain ⟨rfl, hl86, hr87⟩ := hu84
    have ha88 : AtK _ b81 o82 [sv x78.Text, .int .i64 x78.At] := ha85
    refine wl_val wn rfl (rv_loadS (cs := [sv x78.Text, .int .i64 x78.At]) tf46 rfl hS75 ha88 rfl) ?_
    refine wl_buildSlice (t := tGTerm) (n := 1) (pv := [(0, .agg #[sv x78.Text, .int .i64 x78.At])]) (cs := [sv x78.Text, .int .i64 x78.At]) (xs := [x78]) wn rfl Tryz.underlying38 tf46 rfl rfl rfl (by kernel_rfl) rfl rfl (lit_cons (u := .agg #[sv x78.Text, .int .i64 x78.At]) (z := x78) ⟨rfl, hl86, hr87⟩ lit_nil) hS75 ?_
    intro a89 w90 K91 hl92 hs93 hS94
    have hS95 : SH _ _ _ _ _ [_, _, _] := SH.front (p := [_, _]) hS94
    obtain ⟨x96, hx97, h98⟩ := ob h80
    refine wl_append (t := tGTerm) wn rfl Tryz.underlying38 tf46 rfl rfl rfl rfl rfl (SliceAt.mono (hS72.le.trans hl92) hs54) hs93 hx97 hS95 ?_
    intro a99 n100 c101 w102 K103 hl104 hs105 hS106
    refine va rfl rfl ?_
    refine nr ?_
    refine vm rfl rfl ?_
    obtain ⟨x107, hx108, h109⟩ := ob h98
    refine wl_sl_l (t := tGTerm) wn rfl Tryz.underlying38 tf46 rfl rfl (SliceAt.mono ((hS72.le.trans hl92).trans hl104) hs58) hx108 ?_
    intro a110 n111 c112 hs113
    refine va rfl rfl ?_
    refine nq ?_
    refine wc_exit ?_
    refine qe_then_exit ?_
    refine qe_block_eq ?_
    obtain rfl := oi h109
    have hS114 : SH _ _ _ _ _ [_, _, _] := SH.front (p := [_, _]) hS106
    have hS115 : SH _ _ _ _ _ [_, _] := SH.sublist hS114 (.cons_cons _ (.cons_cons _ (.cons _ .slnil)))
    exact qe_mid' ⟨_, rfl, a99, n100, c101, a110, n111, c112, K103, rfl, hS115, (((hl48.trans hS72.le).trans hl92).trans hl104), hs105, hs113⟩ ⟨rfl, rfl, rfl, trivial⟩
   ·have h77 := cond_f hb76 h69
    refine wc_skip ?_
    refine qs ?_
    refine wc_held (fun w' => Holds K70 w' ∧ HasObj g10 [.slice a1 n2 c3, .slice a5 n6 c7] w') (fun w' => True) 15 [] mixed ?_
    have hS117 := SH.drew hS75
    refine wg_val (i := 0) (listed' := #[true, false, false, false, false, false, false, false, false, false, false, false, false, false, false]) (fun _ => True) rfl (by kernel_rfl) (pk_then (pk_block (pk_then (pk_block (pk_then (pk_then pk_body)))))) (by kernel_rfl) rfl (by kernel_rfl) (by kernel_rfl) rfl (.inl fun _ _ => trivial) ⟨⟨hS117.hasK (KLe.refl _), hS117.hasObj (.head _)⟩, (fun _ => trivial), by decide⟩ wn rfl (fun _ _ => (rv_move rfl)) ?_
    refine wg_val (i := 1) (listed' := #[true, true, false, false, false, false, false, false, false, false, false, false, false, false, false]) (fun _ => True) rfl (by kernel_rfl) (pk_then (pk_block (pk_then (pk_block (pk_then (pk_then pk_body)))))) (by kernel_rfl) rfl (by kernel_rfl) (by kernel_rfl) rfl (.inl fun _ _ => trivial) ⟨⟨hS117.hasK (KLe.refl _), hS117.hasObj (.head _)⟩, (fun _ => trivial), by decide⟩ wn rfl (fun _ _ => (rv_fieldAddr ff26_1 rfl)) ?_
    refine wg_val (i := 2) (listed' := #[true, true, true, false, false, false, false, false, false, false, false, false, false, false, false]) (HasObj g10 [.slice a1 n2 c3, .slice a5 n6 c7]) rfl (by kernel_rfl) (pk_then (pk_block (pk_then (pk_block (pk_then (pk_then pk_body)))))) (by kernel_rfl) rfl (by kernel_rfl) (by kernel_rfl) rfl (.inl fun _ h => h.2) ⟨⟨hS117.hasK (KLe.refl _), hS117.hasObj (.head _)⟩, (fun _ => trivial), by decide⟩ wn rfl (fun _ h => rh_loadm1 tf24 rfl rfl h) ?_
    refine wg_val (i := 3) (listed' := #[true, true, true, true, false, false, false, false, false, false, false, false, false, false, false]) (fun _ => True) rfl (by kernel_rfl) (pk_then (pk_block (pk_then (pk_block (pk_then (pk_then pk_body)))))) (by kernel_rfl) rfl (by kernel_rfl) (by kernel_rfl) rfl (.inl fun _ _ => trivial) ⟨⟨hS117.hasK (KLe.refl _), hS117.hasObj (.head _)⟩, (fun _ => trivial), by decide⟩ wn rfl (fun _ _ => (rv_move rfl)) ?_
    obtain ⟨x118, hx119, h120⟩ := ob h77
    refine wg_indexAddr (t := tGSyn) (j := 4) (listed' := #[true, true, true, true, true, false, false, false, false, false, false, false, false, false, false]) rfl (by kernel_rfl) (pk_then (pk_block (pk_then (pk_block (pk_then (pk_then pk_body)))))) (by kernel_rfl) rfl (by kernel_rfl) (by kernel_rfl) rfl ⟨⟨hS117.hasK (KLe.refl _), hS117.hasObj (.head _)⟩, (fun _ => trivial), by decide⟩ wn rfl Tryz.underlying24 tf106 rfl rfl (SliceAt.mono (((hl17.trans hS25.le).trans hl48).trans hS72.le) hs8) hx119 ?_
    intro b121 o122 u123 hu124 ha125
    obtain ⟨a126, n127, c128, rfl, hs129, hl130⟩ := hu124
    have ha131 : AtK _ b121 o122 [.slice a126 n127 c128, sv x118.To] := ha125
    refine wg_val (i := 5) (listed' := #[true, true, true, true, true, true, false, false, false, false, false, false, false, false, false]) (fun _ => True) rfl (by kernel_rfl) (pk_then (pk_block (pk_then (pk_block (pk_then (pk_then pk_body)))))) (by kernel_rfl) rfl (by kernel_rfl) (by kernel_rfl) rfl (.inl fun _ _ => trivial) ⟨⟨hS117.hasK (KLe.refl _), hS117.hasObj (.head _)⟩, (fun _ => trivial), by decide⟩ wn rfl (fun _ _ => (rv_fieldAddr ff106_1 rfl)) ?_
    refine wg_val (i := 6) (listed' := #[true, true, true, true, true, true, true, false, false, false, false, false, false, false, false]) (Holds K70) rfl (by kernel_rfl) (pk_then (pk_block (pk_then (pk_block (pk_then (pk_then pk_body)))))) (by kernel_rfl) rfl (by kernel_rfl) (by kernel_rfl) rfl (.inl fun _ h => h.1) ⟨⟨hS117.hasK (KLe.refl _), hS117.hasObj (.head _)⟩, (fun _ => trivial), by decide⟩ wn rfl (fun _ h => rh_load1 tf9 rfl (ha131 1 _ rfl) h) ?_
    refine wg_val (i := 7) (listed' := #[true, true, true, true, true, true, true, true, false, false, false, false, false, false, false]) (fun _ => True) rfl (by kernel_rfl) (pk_then (pk_block (pk_then (pk_block (pk_then (pk_then pk_body)))))) (by kernel_rfl) rfl (by kernel_rfl) (by kernel_rfl) rfl (.inl fun _ _ => trivial) ⟨⟨hS117.hasK (KLe.refl _), hS117.hasObj (.head _)⟩, (fun _ => trivial), by decide⟩ wn rfl (fun _ _ => (rv_move rfl)) ?_
    obtain ⟨x132, hx133, h134⟩ := ob h120
    refine wg_indexAddr (t := tGTerm) (j := 8) (listed' := #[true, true, true, true, true, true, true, true, true, false, false, false, false, false, false]) rfl (by kernel_rfl) (pk_then (pk_block (pk_then (pk_block (pk_then (pk_then pk_body)))))) (by kernel_rfl) rfl (by kernel_rfl) (by kernel_rfl) rfl ⟨⟨hS117.hasK (KLe.refl _), hS117.hasObj (.head _)⟩, (fun _ => trivial), by decide⟩ wn rfl Tryz.underlying38 tf46 rfl rfl (SliceAt.mono hS72.le hs58) hx133 ?_
    intro b135 o136 u137 hu138 ha139
    obtain ⟨rfl, hl140, hr141⟩ := hu138
    have ha142 : AtK _ b135 o136 [sv x132.Text, .int .i64 x132.At] := ha139
    refine wg_val (i := 9) (listed' := #[true, true, true, true, true, true, true, true, true, true, false, false, false, false, false]) (fun _ => True) rfl (by kernel_rfl) (pk_then (pk_block (pk_then (pk_block (pk_then (pk_then pk_body)))))) (by kernel_rfl) rfl (by kernel_rfl) (by kernel_rfl) rfl (.inl fun _ _ => trivial) ⟨⟨hS117.hasK (KLe.refl _), hS117.hasObj (.head _)⟩, (fun _ => trivial), by decide⟩ wn rfl (fun _ _ => (rv_fieldAddr ff46_1 rfl)) ?_
    refine wg_val (i := 10) (listed' := #[true, true, true, true, true, true, true, true, true, true, true, false, false, false, false]) (Holds K70) rfl (by kernel_rfl) (pk_then (pk_block (pk_then (pk_block (pk_then (pk_then pk_body)))))) (by kernel_rfl) rfl (by kernel_rfl) (by kernel_rfl) rfl (.inl fun _ h => h.1) ⟨⟨hS117.hasK (KLe.refl _), hS117.hasObj (.head _)⟩, (fun _ => trivial), by decide⟩ wn rfl (fun _ h => rh_load1 tf3 rfl (ha142 1 _ rfl) h) ?_
    refine wg_val (i := 11) (listed' := #[true, true, true, true, true, true, true, true, true, true, true, true, false, false, false]) (fun _ => True) rfl (by kernel_rfl) (pk_then (pk_block (pk_then (pk_block (pk_then (pk_then pk_body)))))) (by kernel_rfl) rfl (by kernel_rfl) (by kernel_rfl) rfl (.inl fun _ _ => trivial) ⟨⟨hS117.hasK (KLe.refl _), hS117.hasObj (.head _)⟩, (fun _ => trivial), by decide⟩ wn rfl (fun _ _ => (rv_build (cs := #[sv x118.To, .int .i64 x132.At]) sp46 tf46 rfl (by kernel_rfl))) ?_
    refine wg_one (i := 12) (by kernel_rfl) rfl ?_
    refine wl_buildSlice (t := tGTerm) (n := 1) (pv := [(0, .agg #[sv x118.To, .int .i64 x132.At])]) (cs := [sv x118.To, .int .i64 x132.At]) (xs := [(GTerm.mk x118.To x132.At)]) wn rfl Tryz.underlying38 tf46 rfl rfl rfl (by kernel_rfl) rfl rfl (lit_cons (u := .agg #[sv x118.To, .int .i64 x132.At]) (z := (GTerm.mk x118.To x132.At)) ⟨rfl, hl130, hr141⟩ lit_nil) hS117 ?_
    intro a143 w144 K145 hl146 hs147 hS148
    refine wl_nil (qe_held (listed' := #[true, true, true, true, true, true, true, true, true, true, true, true, true, false, false]) rfl ⟨⟨hS148.hasK hl146, hS148.hasObj (.tail _ (.head _))⟩, (fun _ => trivial), by decide⟩ ?_)
    refine wg_one (i := 13) (by kernel_rfl) rfl ?_
    have hS149 : SH _ _ _ _ _ [_, _, _] := SH.front (p := [_, _]) hS148
    obtain ⟨x150, hx151, h152⟩ := ob h134
    refine wl_append (t := tGTerm) wn rfl Tryz.underlying38 tf46 rfl rfl rfl rfl rfl (SliceAt.mono (hS72.le.trans hl146) hs54) hs147 hx151 hS149 ?_
    intro a153 n154 c155 w156 K157 hl158 hs159 hS160
    refine wl_nil (qe_held (listed' := #[true, true, true, true, true, true, true, true, true, true, true, true, true, true, false]) rfl ⟨⟨hS160.hasK (hl146.trans hl158), hS160.hasObj (.tail _ (.tail _ (.head _)))⟩, (fun _ => trivial), by decide⟩ ?_)
    refine wg_val (i := 14) (listed' := #[true, true, true, true, true, true, true, true, true, true, true, true, true, true, true]) (fun _ => True) rfl (by kernel_rfl) (pk_then (pk_block (pk_then (pk_block (pk_then (pk_then pk_body)))))) (by kernel_rfl) rfl (by kernel_rfl) (by kernel_rfl) rfl (.inl fun _ _ => trivial) ⟨⟨hS160.hasK (hl146.trans hl158), hS160.hasObj (.tail _ (.tail _ (.head _)))⟩, (fun _ => trivial), by decide⟩ wn rfl (fun _ _ => (rv_assign rfl)) ?_
    refine wg_done (by kernel_rfl) ?_
    refine qe_seq ?_
    refine wc_region ?_
    refine vm rfl rfl ?_
    refine wl_val wn rfl (rv_fieldAddr ff26_1 rfl) ?_
    refine wl_val wn rfl (rv_loadm1 tf24 rfl (.tail _ (.tail _ (.head _))) hS160 rfl) ?_
    refine vm rfl rfl ?_
    obtain ⟨x161, hx162, h163⟩ := ob h152
    refine wl_indexAddr (t := tGSyn) wn rfl Tryz.underlying24 tf106 rfl rfl (SliceAt.mono (((((hl17.trans hS25.le).trans hl48).trans hS72.le).trans hl146).trans hl158) hs8) hx162 ?_
    intro b164 o165 u166 hu167 ha168
    obtain ⟨a169, n170, c171, rfl, hs172, hl173⟩ := hu167
    have ha174 : AtK _ b164 o165 [.slice a169 n170 c171, sv x161.To] := ha168
    refine wl_val wn rfl (rv_fieldAddr ff106_0 rfl) ?_
    refine wl_val wn rfl (rv_load1 tf23 rfl hS160 (ha174 0 _ rfl)) ?_
    refine wl_val wn rfl (rv_len (t := tStr) Tryz.underlying23 rfl hs172) ?_
    obtain ⟨x175, hx176, h177⟩ := ob h163
    refine wl_sl_l (t := tGTerm) wn rfl Tryz.underlying38 tf46 rfl rfl (SliceAt.mono ((hS72.le.trans hl146).trans hl158) hs58) hx176 ?_
    intro a178 n179 c180 hs181
    refine va rfl rfl ?_
    refine nb ?_
    obtain rfl := oi h177
    have hS182 : SH _ _ _ _ _ [_, _, _] := SH.front (p := [_, _]) hS160
    have hS183 : SH _ _ _ _ _ [_, _] := SH.sublist hS182 (.cons_cons _ (.cons_cons _ (.cons _ .slnil)))
    exact qe_mid' ⟨_, rfl, a153, n154, c155, a178, n179, c180, K157, rfl, hS183, (((hl48.trans hS72.le).trans hl146).trans hl158), hs159, hs181⟩ ⟨rfl, rfl, rfl, trivial⟩
  ·have h66 := cond_f hb65 h63
   refine wc_exit ?_
   refine qe_then_exit ?_
   refine qe_then_exit ?_
   obtain rfl := oi h66
   have e184 := hx64 _ rfl
   subst e184
   refine qe_block_eq ?_
   obtain rfl := oi h46
   have hS185 : SH _ _ _ _ _ [_] := SH.sublist hS50 (.cons _ (.cons_cons _ .slnil))
   exact qe_mid' ⟨a51, n52, c53, K47, rfl, hS185, hl48, hs54⟩ ⟨rfl, trivial⟩
 ·rintro _ w37 ⟨a39, n40, c41, K35, rfl, hS38, hl36, hs42⟩
  refine qr ?_
  refine vm rfl rfl ?_
  refine va rfl rfl ?_
  refine nq ?_
  refine wc_ret ?_
  obtain rfl := oi h34
  exact qe_ret (vs := [_]) Tryz.results148 ⟨rfl, trivial⟩ ⟨a39, n40, c41, K35, rfl, hS38, hs42⟩

theorem ok_spec_l6Field (F : Nat) {w : World} {K : KMap} {a2 : Option Addr} {n3 c4 : Nat} {a6 : Option Addr} {n7 c8 : Nat} {p0_d : GDoc} {p1_name : Str} {r : Str} (hS : SH w K [] w K []) (hr1 : rng64 p0_d.Id) (hs5 : SliceAt tGField K a2 n3 c4 p0_d.Fields) (hs9 : SliceAt tGAttr K a6 n7 c8 p0_d.Nums) (hl10 : p1_name.length ≤ maxLen) (hm : M.spec_l6Field F p0_d p1_name = some r) :
  Calls Tryz.prog 149 #[.agg #[.int .i64 p0_d.Id, .slice a2 n3 c4, .slice a6 n7 c8], sv p1_name] w fun e w' => ∃ (K' : KMap), e = .returned (sv r) ∧ SH w K [] w' K' [] ∧ r.length ≤ maxLen := by
 rw [M.spec_l6Field] at hm
 refine calls_in Tryz.func149 rfl Tryz.ntmps149 rfl ?_
 refine sr ?_
 refine wl_box wn rfl rfl hS ?_
 intro g11 w12 hS13
 have hS14 : SH _ _ _ _ _ [obj g11 [.int .i64 p0_d.Id, .slice a2 n3 c4, .slice a6 n7 c8] 44] := hS13
 refine wl_val wn rfl (rv_assign (v := sv []) rfl) ?_
 refine nsr ?_
 refine wl_val wn rfl (rv_assign (v := .int .i64 0) rfl) ?_
 refine nq ?_
 obtain ⟨o15, h16, h17⟩ := ob hm
 refine wc_cutg (fun E' w' => ∃ (s18 : Unit) (K19 : KMap), o15 = .inl s18 ∧ E' = [] ∧ SH w K [] w' K19 [] ∧ KLe K K19) ?_ ?_
 ·refine wc_block ?_
  obtain ⟨r24, h25, h26⟩ := ob h16
  refine wc_while' (fun (s23 : Int) E' w' => ∃ (K27 : KMap), E' = [(1, sv p1_name), (2, .pointer (some ⟨g11, 0, none⟩)), (5, .int .i64 s23)] ∧ SH w K [] w' K27 [obj g11 [.int .i64 p0_d.Id, .slice a2 n3 c4, .slice a6 n7 c8] 44] ∧ KLe K K27 ∧ rng64 s23) h25 ⟨K, rfl, hS14, (KLe.refl _), (by decide : rng64 0)⟩ ⟨rfl, rfl, rfl, trivial⟩ ?_
  rintro s23 _ w29 r32 h33 hx34 ⟨K27, rfl, hS30, hl28, hr31⟩
  refine wc_seq ?_
  refine sr ?_
  refine vm rfl rfl ?_
  refine wl_val wn rfl (rv_fieldAddr ff44_1 rfl) ?_
  refine wl_val wn rfl (rv_loadm1 tf41 rfl (.head _) hS30 rfl) ?_
  refine wl_val wn rfl (rv_len (t := tGField) Tryz.underlying41 rfl (SliceAt.mono hl28 hs5)) ?_
  refine wl_val wn rfl (rv_lss rfl rfl) ?_
  refine nq ?_
  refine wc_cond rfl (fun hb35 => ?_) (fun hb35 => ?_)
  ·have h36 := cond_t hb35 h33
   refine wc_skip ?_
   refine qs ?_
   refine wc_block ?_
   refine sr ?_
   refine wl_val wn rfl (rv_fieldAddr ff44_1 rfl) ?_
   refine wl_val wn rfl (rv_loadm1 tf41 rfl (.head _) hS30 rfl) ?_
   refine vm rfl rfl ?_
   obtain ⟨x37, hx38, h39⟩ := ob h36
   refine wl_indexAddr (t := tGField) wn rfl Tryz.underlying41 tf109 rfl rfl (SliceAt.mono hl28 hs5) hx38 ?_
   intro b40 o41 u42 hu43 ha44
   obtain ⟨rfl, hl45, hl46⟩ := hu43
   have ha47 : AtK _ b40 o41 [sv x37.Name, sv x37.Text] := ha44
   refine wl_val wn rfl (rv_fieldAddr ff109_0 rfl) ?_
   refine wl_val wn rfl (rv_load1 tf9 rfl hS30 (ha47 0 _ rfl)) ?_
   refine vm rfl rfl ?_
   refine wl_val wn rfl (rv_seql rfl rfl) ?_
   refine nq ?_
   refine wc_cond rfl (fun hb48 => ?_) (fun hb48 => ?_)
   ·have h49 := cond_t hb48 h39
    refine sr ?_
    refine wl_val wn rfl (rv_fieldAddr ff44_1 rfl) ?_
    refine wl_val wn rfl (rv_loadm1 tf41 rfl (.head _) hS30 rfl) ?_
    refine vm rfl rfl ?_
    obtain ⟨x50, hx51, h52⟩ := ob h49
    refine wl_indexAddr (t := tGField) wn rfl Tryz.underlying41 tf109 rfl rfl (SliceAt.mono hl28 hs5) hx51 ?_
    intro b53 o54 u55 hu56 ha57
    obtain ⟨rfl, hl58, hl59⟩ := hu56
    have ha60 : AtK _ b53 o54 [sv x50.Name, sv x50.Text] := ha57
    refine wl_val wn rfl (rv_fieldAddr ff109_1 rfl) ?_
    refine wl_val wn rfl (rv_load1 tf9 rfl hS30 (ha60 1 _ rfl)) ?_
    refine va rfl rfl ?_
    refine nq ?_
    refine wc_ret ?_
    refine qe_block_ret ?_
    refine qe_then_ret ?_
    refine qe_then_ret ?_
    obtain rfl := oi h52
    have e61 := hx34 _ rfl
    subst e61
    refine qe_block_ret ?_
    refine qe_then_ret ?_
    obtain rfl := oi h26
    refine qe_then_ret ?_
    obtain rfl := oi h17
    have hS62 : SH _ _ _ _ _ [] := SH.sublist hS30 (.cons _ .slnil)
    exact qe_ret (vs := [_]) Tryz.results149 ⟨rfl, trivial⟩ ⟨K27, rfl, hS62, hl59⟩
   ·have h49 := cond_f hb48 h39
    refine wc_skip ?_
    refine qe_block ?_
    refine qe_seq ?_
    refine wc_region ?_
    refine vm rfl rfl ?_
    refine wl_val wn rfl (rv_add rfl rfl) ?_
    refine va rfl rfl ?_
    refine wl_nil ?_
    obtain rfl := oi h49
    exact qe_mid' ⟨_, rfl, K27, rfl, hS30, hl28, (w64_rng _)⟩ ⟨rfl, rfl, rfl, trivial⟩
  ·have h36 := cond_f hb35 h33
   refine wc_exit ?_
   refine qe_then_exit ?_
   refine qe_then_exit ?_
   obtain rfl := oi h36
   have e63 := hx34 _ rfl
   subst e63
   refine qe_block_eq ?_
   obtain rfl := oi h26
   have hS64 : SH _ _ _ _ _ [] := SH.sublist hS30 (.cons _ .slnil)
   exact qe_mid' ⟨_, K27, rfl, rfl, hS64, hl28⟩ trivial
 ·rintro _ w21 ⟨s18, K19, rfl, rfl, hS22, hl20⟩
  refine qr ?_
  refine wl_val wn rfl (rv_assign (v := sv []) rfl) ?_
  refine nq ?_
  refine wc_ret ?_
  obtain rfl := oi h17
  exact qe_ret (vs := [_]) Tryz.results149 ⟨rfl, trivial⟩ ⟨K19, rfl, hS22, (by decide : ([] : Str).length ≤ maxLen)⟩

set_option maxHeartbeats 2000000 in
theorem ok_spec_l7Terms (F : Nat) {w : World} {K : KMap} {a1 : Option Addr} {n2 c3 : Nat} {a5 : Option Addr} {n6 c7 : Nat} {a9 : Option Addr} {n10 c11 : Nat} {p0_c : GConf} {p1_docs : List GDoc} {p2_field : Str} {r : (List Str)} (hS : SH w K [] w K []) (hs4 : SliceAt tStr K a1 n2 c3 p0_c.Stops) (hs8 : SliceAt tGSyn K a5 n6 c7 p0_c.Syns) (hs12 : SliceAt tGDoc K a9 n10 c11 p1_docs) (hl13 : p2_field.length ≤ maxLen) (hm : M.spec_l7Terms F p0_c p1_docs p2_field = some r) :
  Calls Tryz.prog 115 #[.agg #[.slice a1 n2 c3, .slice a5 n6 c7], .slice a9 n10 c11, sv p2_field] w fun e w' => ∃ (a_1 : Option Addr) (n_2 c_3 : Nat) (K' : KMap), e = .returned (.slice a_1 n_2 c_3) ∧ SH w K [] w' K' [tail (.slice a_1 n_2 c_3) 9 1] ∧ SliceAt tStr K' a_1 n_2 c_3 r := by
 rw [M.spec_l7Terms] at hm
 refine calls_in Tryz.func115 rfl Tryz.ntmps115 rfl ?_
 refine sr ?_
 refine wl_box wn rfl rfl hS ?_
 intro g14 w15 hS16
 have hS17 : SH _ _ _ _ _ [obj g14 [.slice a1 n2 c3, .slice a5 n6 c7] 26] := hS16
 refine wl_val wn rfl (rv_assign (v := .slice none 0 0) rfl) ?_
 refine nr ?_
 refine wl_buildSlice0 tStr wn rfl Tryz.underlying23 tf9 hS17 ?_
 intro a18 w19 K20 hl21 hs22 hS23
 refine va rfl rfl ?_
 refine nsr ?_
 refine wl_val wn rfl (rv_assign (v := .int .i64 0) rfl) ?_
 refine nq ?_
 obtain ⟨o24, h25, h26⟩ := ob hm
 refine wc_cutg (fun E' w' => ∃ (a31 : Option Addr) (n32 c33 : Nat) (K27 : KMap), E' = [(7, .slice a31 n32 c33)] ∧ SH w K [] w' K27 [tail (.slice a31 n32 c33) 9 1] ∧ KLe K20 K27 ∧ SliceAt tStr K27 a31 n32 c33 o24) ?_ ?_
 ·refine wc_block ?_
  obtain ⟨r36, h37, h38⟩ := ob h25
  have hS48 : SH _ _ _ _ _ [_, _] := SH.front (p := [_]) hS23
  refine wc_while' (fun (s35 : (List Str) × Int) E' w' => ∃ (a43 : Option Addr) (n44 c45 : Nat) (K39 : KMap), E' = [(1, .slice a9 n10 c11), (2, sv p2_field), (3, .pointer (some ⟨g14, 0, none⟩)), (7, .slice a43 n44 c45), (8, .int .i64 s35.2)] ∧ SH w K [] w' K39 [obj g14 [.slice a1 n2 c3, .slice a5 n6 c7] 26, tail (.slice a43 n44 c45) 9 1] ∧ KLe K20 K39 ∧ SliceAt tStr K39 a43 n44 c45 s35.1 ∧ rng64 s35.2) h37 ⟨a18, 0, 0, K20, rfl, hS48, (KLe.refl _), hs22, (by decide : rng64 0)⟩ ⟨rfl, rfl, rfl, rfl, rfl, trivial⟩ ?_
  rintro s35 _ w41 r49 h50 hx51 ⟨a43, n44, c45, K39, rfl, hS42, hl40, hs46, hr47⟩
  refine wc_seq ?_
  refine sr ?_
  refine vm rfl rfl ?_
  refine vm rfl rfl ?_
  refine wl_val wn rfl (rv_len (t := tGDoc) Tryz.underlying27 rfl (SliceAt.mono (hl21.trans hl40) hs12)) ?_
  refine wl_val wn rfl (rv_lss rfl rfl) ?_
  refine nq ?_
  refine wc_cond rfl (fun hb52 => ?_) (fun hb52 => ?_)
  ·have h53 := cond_t hb52 h50
   refine wc_skip ?_
   refine qs ?_
   refine wc_block ?_
   refine wc_seq ?_
   refine wc_held (fun w' => Holds K39 w' ∧ HasObj g14 [.slice a1 n2 c3, .slice a5 n6 c7] w') (fun w' => True) 9 [] mixed ?_
   have hS55 := SH.drew hS42
   refine wg_val (i := 0) (listed' := #[true, false, false, false, false, false, false, false, false]) (HasObj g14 [.slice a1 n2 c3, .slice a5 n6 c7]) rfl (by kernel_rfl) (pk_then (pk_block (pk_then (pk_then (pk_block (pk_then (pk_then pk_body))))))) (by kernel_rfl) rfl (by kernel_rfl) (by kernel_rfl) rfl (.inl fun _ h => h.2) ⟨⟨hS55.hasK (KLe.refl _), hS55.hasObj (.head _)⟩, (fun _ => trivial), by decide⟩ wn rfl (fun _ h => rh_loadmS (ds := [.slice a1 n2 c3, .slice a5 n6 c7]) tf26 rfl rfl rfl h) ?_
   refine wg_val (i := 1) (listed' := #[true, true, false, false, false, false, false, false, false]) (fun _ => True) rfl (by kernel_rfl) (pk_then (pk_block (pk_then (pk_then (pk_block (pk_then (pk_then pk_body))))))) (by kernel_rfl) rfl (by kernel_rfl) (by kernel_rfl) rfl (.inl fun _ _ => trivial) ⟨⟨hS55.hasK (KLe.refl _), hS55.hasObj (.head _)⟩, (fun _ => trivial), by decide⟩ wn rfl (fun _ _ => (rv_move rfl)) ?_
   refine wg_val (i := 2) (listed' := #[true, true, true, false, false, false, false, false, false]) (fun _ => True) rfl (by kernel_rfl) (pk_then (pk_block (pk_then (pk_then (pk_block (pk_then (pk_then pk_body))))))) (by kernel_rfl) rfl (by kernel_rfl) (by kernel_rfl) rfl (.inl fun _ _ => trivial) ⟨⟨hS55.hasK (KLe.refl _), hS55.hasObj (.head _)⟩, (fun _ => trivial), by decide⟩ wn rfl (fun _ _ => (rv_move rfl)) ?_
   obtain ⟨x56, hx57, h58⟩ := ob h53
   refine wg_indexAddr (t := tGDoc) (j := 3) (listed' := #[true, true, true, true, false, false, false, false, false]) rfl (by kernel_rfl) (pk_then (pk_block (pk_then (pk_then (pk_block (pk_then (pk_then pk_body))))))) (by kernel_rfl) rfl (by kernel_rfl) (by kernel_rfl) rfl ⟨⟨hS55.hasK (KLe.refl _), hS55.hasObj (.head _)⟩, (fun _ => trivial), by decide⟩ wn rfl Tryz.underlying27 tf44 rfl rfl (SliceAt.mono (hl21.trans hl40) hs12) hx57 ?_
   intro b59 o60 u61 hu62 ha63
   obtain ⟨a65, n66, c67, a69, n70, c71, rfl, hr64, hs68, hs72⟩ := hu62
   have ha73 : AtK _ b59 o60 [.int .i64 x56.Id, .slice a65 n66 c67, .slice a69 n70 c71] := ha63
   refine wg_val (i := 4) (listed' := #[true, true, true, true, true, false, false, false, false]) (Holds K39) rfl (by kernel_rfl) (pk_then (pk_block (pk_then (pk_then (pk_block (pk_then (pk_then pk_body))))))) (by kernel_rfl) rfl (by kernel_rfl) (by kernel_rfl) rfl (.inl fun _ h => h.1) ⟨⟨hS55.hasK (KLe.refl _), hS55.hasObj (.head _)⟩, (fun _ => trivial), by decide⟩ wn rfl (fun _ h => rh_loadS (cs := [.int .i64 x56.Id, .slice a65 n66 c67, .slice a69 n70 c71]) tf44 rfl ha73 rfl h) ?_
   refine wg_val (i := 5) (listed' := #[true, true, true, true, true, true, false, false, false]) (fun _ => True) rfl (by kernel_rfl) (pk_then (pk_block (pk_then (pk_then (pk_block (pk_then (pk_then pk_body))))))) (by kernel_rfl) rfl (by kernel_rfl) (by kernel_rfl) rfl (.inl fun _ _ => trivial) ⟨⟨hS55.hasK (KLe.refl _), hS55.hasObj (.head _)⟩, (fun _ => trivial), by decide⟩ wn rfl (fun _ _ => (rv_move rfl)) ?_
   refine wg_one (i := 6) (by kernel_rfl) rfl ?_
   obtain ⟨r74, hx75, h76⟩ := ob h58
   refine wl_call wn rfl (rt_call (vs := [.agg #[.int .i64 x56.Id, .slice a65 n66 c67, .slice a69 n70 c71], sv p2_field]) co149 rfl) ((ok_spec_l6Field F) hS55.enter0 hr64 hs68 hs72 hl13 hx75) ?_
   rintro e81 w78 ⟨K77, rfl, hS79, hl80⟩
   refine ⟨_, rfl, ?_⟩
   have hS82 : SH _ _ _ _ _ [_, _] := SH.call0 hS55 hS79
   refine wl_nil (qe_held (listed' := #[true, true, true, true, true, true, true, false, false]) rfl ⟨⟨hS82.hasK hS79.le, hS82.hasObj (.head _)⟩, (fun _ => trivial), by decide⟩ ?_)
   refine wg_one (i := 7) (by kernel_rfl) rfl ?_
   obtain ⟨r83, hx84, h85⟩ := ob h76
   refine wl_call wn rfl (rt_call (vs := [.agg #[.slice a1 n2 c3, .slice a5 n6 c7], sv r74]) co148 rfl) ((ok_spec_l2Terms F) hS82.enter0 (SliceAt.mono ((hl21.trans hl40).trans hS79.le) hs4) (SliceAt.mono ((hl21.trans hl40).trans hS79.le) hs8) hl80 hx84) ?_
   rintro e93 w87 ⟨a89, n90, c91, K86, rfl, hS88, hs92⟩
   refine ⟨_, rfl, ?_⟩
   have hS94 : SH _ _ _ _ _ [_, _, _] := SH.call0 hS82 hS88
   refine wl_nil (qe_held (listed' := #[true, true, true, true, true, true, true, true, false]) rfl ⟨⟨hS94.hasK (hS79.le.trans hS88.le), hS94.hasObj (.tail _ (.head _))⟩, (fun _ => trivial), by decide⟩ ?_)
   refine wg_val (i := 8) (listed' := #[true, true, true, true, true, true, true, true, true]) (fun _ => True) rfl (by kernel_rfl) (pk_then (pk_block (pk_then (pk_then (pk_block (pk_then (pk_then pk_body))))))) (by kernel_rfl) rfl (by kernel_rfl) (by kernel_rfl) rfl (.inl fun _ _ => trivial) ⟨⟨hS94.hasK (hS79.le.trans hS88.le), hS94.hasObj (.tail _ (.head _))⟩, (fun _ => trivial), by decide⟩ wn rfl (fun _ _ => (rv_assign rfl)) ?_
   refine wg_done (by kernel_rfl) ?_
   refine qr ?_
   refine wl_val wn rfl (rv_assign (v := .int .i64 0) rfl) ?_
   refine nq ?_
   obtain ⟨o95, h96, h97⟩ := ob h85
   refine wc_cutg (fun E' w' => ∃ (a102 : Option Addr) (n103 c104 : Nat) (K98 : KMap), E' = [(1, .slice a9 n10 c11), (2, sv p2_field), (3, .pointer (some ⟨g14, 0, none⟩)), (7, .slice a102 n103 c104), (8, .int .i64 s35.2)] ∧ SH w K [] w' K98 [obj g14 [.slice a1 n2 c3, .slice a5 n6 c7] 26, tail (.slice a102 n103 c104) 9 1] ∧ KLe K86 K98 ∧ SliceAt tStr K98 a102 n103 c104 o95) ?_ ?_
   ·refine wc_block ?_
    obtain ⟨r107, h108, h109⟩ := ob h96
    have hS119 : SH _ _ _ _ _ [_, _] := SH.sublist hS94 (.cons _ (.cons_cons _ (.cons_cons _ .slnil)))
    refine wc_while' (fun (s106 : (List Str) × Int) E' w' => ∃ (a114 : Option Addr) (n115 c116 : Nat) (K110 : KMap), E' = [(1, .slice a9 n10 c11), (2, sv p2_field), (3, .pointer (some ⟨g14, 0, none⟩)), (7, .slice a114 n115 c116), (8, .int .i64 s35.2), (9, .slice a89 n90 c91), (10, .int .i64 s106.2)] ∧ SH w K [] w' K110 [obj g14 [.slice a1 n2 c3, .slice a5 n6 c7] 26, tail (.slice a114 n115 c116) 9 1] ∧ KLe K86 K110 ∧ SliceAt tStr K110 a114 n115 c116 s106.1 ∧ rng64 s106.2) h108 ⟨a43, n44, c45, K86, rfl, hS119, (KLe.refl _), (SliceAt.mono (hS79.le.trans hS88.le) hs46), (by decide : rng64 0)⟩ ⟨rfl, rfl, rfl, rfl, rfl, rfl, rfl, trivial⟩ ?_
    rintro s106 _ w112 r120 h121 hx122 ⟨a114, n115, c116, K110, rfl, hS113, hl111, hs117, hr118⟩
    refine wc_seq ?_
    refine sr ?_
    refine vm rfl rfl ?_
    refine vm rfl rfl ?_
    refine wl_val wn rfl (rv_len (t := tGTerm) Tryz.underlying38 rfl (SliceAt.mono hl111 hs92)) ?_
    refine wl_val wn rfl (rv_lss rfl rfl) ?_
    refine nq ?_
    refine wc_cond rfl (fun hb123 => ?_) (fun hb123 => ?_)
    ·have h124 := cond_t hb123 h121
     refine wc_skip ?_
     refine qs ?_
     refine wc_block ?_
     refine wc_region ?_
     refine vm rfl rfl ?_
     refine vm rfl rfl ?_
     refine vm rfl rfl ?_
     obtain ⟨x125, hx126, h127⟩ := ob h124
     refine wl_indexAddr (t := tGTerm) wn rfl Tryz.underlying38 tf46 rfl rfl (SliceAt.mono hl111 hs92) hx126 ?_
     intro b128 o129 u130 hu131 ha132
     obtain ⟨rfl, hl133, hr134⟩ := hu131
     have ha135 : AtK _ b128 o129 [sv x125.Text, .int .i64 x125.At] := ha132
     refine wl_val wn rfl (rv_fieldAddr ff46_0 rfl) ?_
     refine wl_val wn rfl (rv_load1 tf9 rfl hS113 (ha135 0 _ rfl)) ?_
     obtain ⟨r136, hx137, h138⟩ := ob h127
     have hS139 : SH _ _ _ _ _ [_, _] := SH.front (p := [_]) hS113
     refine wl_call wn rfl (rt_call (vs := [.slice a114 n115 c116, sv x125.Text]) co147 rfl) ((ok_spec_l7Put F) (SH.enter (Lin := [_]) hS139) hs117 hl133 hx137) ?_
     rintro e147 w141 ⟨a143, n144, c145, K140, rfl, hS142, hs146⟩
     refine ⟨_, rfl, ?_⟩
     have hS148 : SH _ _ _ _ _ [_, _] := SH.call (Lin := [_]) hS139 hS142
     refine va rfl rfl ?_
     refine nb ?_
     refine qe_seq ?_
     refine wc_region ?_
     refine vm rfl rfl ?_
     refine wl_val wn rfl (rv_add rfl rfl) ?_
     refine va rfl rfl ?_
     refine wl_nil ?_
     obtain rfl := oi h138
     have hS149 : SH _ _ _ _ _ [_, _] := SH.front (p := [_]) hS148
     exact qe_mid' ⟨_, rfl, a143, n144, c145, K140, rfl, hS149, (hl111.trans hS142.le), hs146, (w64_rng _)⟩ ⟨rfl, rfl, rfl, rfl, rfl, rfl, rfl, trivial⟩
    ·have h124 := cond_f hb123 h121
     refine wc_exit ?_
     refine qe_then_exit ?_
     refine qe_then_exit ?_
     obtain rfl := oi h124
     have e150 := hx122 _ rfl
     subst e150
     refine qe_block_eq ?_
     obtain rfl := oi h109
     exact qe_mid' ⟨a114, n115, c116, K110, rfl, hS113, hl111, hs117⟩ ⟨rfl, rfl, rfl, rfl, rfl, trivial⟩
   ·rintro _ w100 ⟨a102, n103, c104, K98, rfl, hS101, hl99, hs105⟩
    refine qe_block ?_
    refine qe_seq ?_
    refine wc_region ?_
    refine vm rfl rfl ?_
    refine wl_val wn rfl (rv_add rfl rfl) ?_
    refine va rfl rfl ?_
    refine wl_nil ?_
    obtain rfl := oi h97
    exact qe_mid' ⟨_, rfl, a102, n103, c104, K98, rfl, hS101, (((hl40.trans hS79.le).trans hS88.le).trans hl99), hs105, (w64_rng _)⟩ ⟨rfl, rfl, rfl, rfl, rfl, trivial⟩
  ·have h53 := cond_f hb52 h50
   refine wc_exit ?_
   refine qe_then_exit ?_
   refine qe_then_exit ?_
   obtain rfl := oi h53
   have e151 := hx51 _ rfl
   subst e151
   refine qe_block_eq ?_
   obtain rfl := oi h38
   have hS152 : SH _ _ _ _ _ [_] := SH.sublist hS42 (.cons _ (.cons_cons _ .slnil))
   exact qe_mid' ⟨a43, n44, c45, K39, rfl, hS152, hl40, hs46⟩ ⟨rfl, trivial⟩
 ·rintro _ w29 ⟨a31, n32, c33, K27, rfl, hS30, hl28, hs34⟩
  refine qr ?_
  refine vm rfl rfl ?_
  refine va rfl rfl ?_
  refine nq ?_
  refine wc_ret ?_
  obtain rfl := oi h26
  exact qe_ret (vs := [_]) Tryz.results115 ⟨rfl, trivial⟩ ⟨a31, n32, c33, K27, rfl, hS30, hs34⟩

set_option maxHeartbeats 2000000 in
theorem ok_spec_l7Post (F : Nat) {w : World} {K : KMap} {a1 : Option Addr} {n2 c3 : Nat} {a5 : Option Addr} {n6 c7 : Nat} {a10 : Option Addr} {n11 c12 : Nat} {a14 : Option Addr} {n15 c16 : Nat} {p0_c : GConf} {p1_d : GDoc} {p2_field : Str} {p3_term : Str} {r : (List Int)} (hS : SH w K [] w K []) (hs4 : SliceAt tStr K a1 n2 c3 p0_c.Stops) (hs8 : SliceAt tGSyn K a5 n6 c7 p0_c.Syns) (hr9 : rng64 p1_d.Id) (hs13 : SliceAt tGField K a10 n11 c12 p1_d.Fields) (hs17 : SliceAt tGAttr K a14 n15 c16 p1_d.Nums) (hl18 : p2_field.length ≤ maxLen) (hl19 : p3_term.length ≤ maxLen) (hm : M.spec_l7Post F p0_c p1_d p2_field p3_term = some r) :
  Calls Tryz.prog 150 #[.agg #[.slice a1 n2 c3, .slice a5 n6 c7], .agg #[.int .i64 p1_d.Id, .slice a10 n11 c12, .slice a14 n15 c16], sv p2_field, sv p3_term] w fun e w' => ∃ (a_1 : Option Addr) (n_2 c_3 : Nat) (K' : KMap), e = .returned (.slice a_1 n_2 c_3) ∧ SH w K [] w' K' [tail (.slice a_1 n_2 c_3) 3 1] ∧ SliceAt tInt K' a_1 n_2 c_3 r := by
 rw [M.spec_l7Post] at hm
 refine calls_in Tryz.func150 rfl Tryz.ntmps150 rfl ?_
 refine sr ?_
 refine wl_box wn rfl rfl hS ?_
 intro g20 w21 hS22
 have hS23 : SH _ _ _ _ _ [obj g20 [.slice a1 n2 c3, .slice a5 n6 c7] 26] := hS22
 refine wl_box wn rfl rfl hS23 ?_
 intro g24 w25 hS26
 have hS27 : SH _ _ _ _ _ [obj g24 [.int .i64 p1_d.Id, .slice a10 n11 c12, .slice a14 n15 c16] 44, _] := hS26
 refine wl_val wn rfl (rv_assign (v := .slice none 0 0) rfl) ?_
 refine nr ?_
 refine wl_buildSlice0 tInt wn rfl Tryz.underlying37 tf3 hS27 ?_
 intro a28 w29 K30 hl31 hs32 hS33
 refine va rfl rfl ?_
 refine ns ?_
 refine wc_held (fun w' => Holds K30 w' ∧ HasObj g20 [.slice a1 n2 c3, .slice a5 n6 c7] w' ∧ HasObj g24 [.int .i64 p1_d.Id, .slice a10 n11 c12, .slice a14 n15 c16] w') (fun w' => True) 6 [] mixed ?_
 have hS35 := SH.drew hS33
 refine wg_val (i := 0) (listed' := #[true, false, false, false, false, false]) (HasObj g20 [.slice a1 n2 c3, .slice a5 n6 c7]) rfl (by kernel_rfl) (pk_then pk_body) (by kernel_rfl) rfl (by kernel_rfl) (by kernel_rfl) rfl (.inl fun _ h => h.2.1) ⟨⟨hS35.hasK (KLe.refl _), hS35.hasObj (.tail _ (.tail _ (.head _))), hS35.hasObj (.tail _ (.head _))⟩, (fun _ => trivial), by decide⟩ wn rfl (fun _ h => rh_loadmS (ds := [.slice a1 n2 c3, .slice a5 n6 c7]) tf26 rfl rfl rfl h) ?_
 refine wg_val (i := 1) (listed' := #[true, true, false, false, false, false]) (HasObj g24 [.int .i64 p1_d.Id, .slice a10 n11 c12, .slice a14 n15 c16]) rfl (by kernel_rfl) (pk_then pk_body) (by kernel_rfl) rfl (by kernel_rfl) (by kernel_rfl) rfl (.inl fun _ h => h.2.2) ⟨⟨hS35.hasK (KLe.refl _), hS35.hasObj (.tail _ (.tail _ (.head _))), hS35.hasObj (.tail _ (.head _))⟩, (fun _ => trivial), by decide⟩ wn rfl (fun _ h => rh_loadmS (ds := [.int .i64 p1_d.Id, .slice a10 n11 c12, .slice a14 n15 c16]) tf44 rfl rfl rfl h) ?_
 refine wg_val (i := 2) (listed' := #[true, true, true, false, false, false]) (fun _ => True) rfl (by kernel_rfl) (pk_then pk_body) (by kernel_rfl) rfl (by kernel_rfl) (by kernel_rfl) rfl (.inl fun _ _ => trivial) ⟨⟨hS35.hasK (KLe.refl _), hS35.hasObj (.tail _ (.tail _ (.head _))), hS35.hasObj (.tail _ (.head _))⟩, (fun _ => trivial), by decide⟩ wn rfl (fun _ _ => (rv_move rfl)) ?_
 refine wg_one (i := 3) (by kernel_rfl) rfl ?_
 obtain ⟨r36, hx37, h38⟩ := ob hm
 refine wl_call wn rfl (rt_call (vs := [.agg #[.int .i64 p1_d.Id, .slice a10 n11 c12, .slice a14 n15 c16], sv p2_field]) co149 rfl) ((ok_spec_l6Field F) hS35.enter0 hr9 (SliceAt.mono hl31 hs13) (SliceAt.mono hl31 hs17) hl18 hx37) ?_
 rintro e43 w40 ⟨K39, rfl, hS41, hl42⟩
 refine ⟨_, rfl, ?_⟩
 have hS44 : SH _ _ _ _ _ [_, _, _] := SH.call0 hS35 hS41
 refine wl_nil (qe_held (listed' := #[true, true, true, true, false, false]) rfl ⟨⟨hS44.hasK hS41.le, hS44.hasObj (.tail _ (.tail _ (.head _))), hS44.hasObj (.tail _ (.head _))⟩, (fun _ => trivial), by decide⟩ ?_)
 refine wg_one (i := 4) (by kernel_rfl) rfl ?_
 obtain ⟨r45, hx46, h47⟩ := ob h38
 refine wl_call wn rfl (rt_call (vs := [.agg #[.slice a1 n2 c3, .slice a5 n6 c7], sv r36]) co148 rfl) ((ok_spec_l2Terms F) hS44.enter0 (SliceAt.mono (hl31.trans hS41.le) hs4) (SliceAt.mono (hl31.trans hS41.le) hs8) hl42 hx46) ?_
 rintro e55 w49 ⟨a51, n52, c53, K48, rfl, hS50, hs54⟩
 refine ⟨_, rfl, ?_⟩
 have hS56 : SH _ _ _ _ _ [_, _, _, _] := SH.call0 hS44 hS50
 refine wl_nil (qe_held (listed' := #[true, true, true, true, true, false]) rfl ⟨⟨hS56.hasK (hS41.le.trans hS50.le), hS56.hasObj (.tail _ (.tail _ (.tail _ (.head _)))), hS56.hasObj (.tail _ (.tail _ (.head _)))⟩, (fun _ => trivial), by decide⟩ ?_)
 refine wg_val (i := 5) (listed' := #[true, true, true, true, true, true]) (fun _ => True) rfl (by kernel_rfl) (pk_then pk_body) (by kernel_rfl) rfl (by kernel_rfl) (by kernel_rfl) rfl (.inl fun _ _ => trivial) ⟨⟨hS56.hasK (hS41.le.trans hS50.le), hS56.hasObj (.tail _ (.tail _ (.tail _ (.head _)))), hS56.hasObj (.tail _ (.tail _ (.head _)))⟩, (fun _ => trivial), by decide⟩ wn rfl (fun _ _ => (rv_assign rfl)) ?_
 refine wg_done (by kernel_rfl) ?_
 refine qs ?_
 refine sr ?_
 refine wl_val wn rfl (rv_assign (v := .int .i64 0) rfl) ?_
 refine nq ?_
 obtain ⟨o57, h58, h59⟩ := ob h47
 refine wc_cutg (fun E' w' => ∃ (a64 : Option Addr) (n65 c66 : Nat) (K60 : KMap), E' = [(9, .slice a64 n65 c66)] ∧ SH w K [] w' K60 [tail (.slice a64 n65 c66) 3 1] ∧ KLe K48 K60 ∧ SliceAt tInt K60 a64 n65 c66 o57) ?_ ?_
 ·refine wc_block ?_
  obtain ⟨r69, h70, h71⟩ := ob h58
  have hS81 : SH _ _ _ _ _ [_] := SH.sublist hS56 (.cons _ (.cons_cons _ (.cons _ (.cons _ .slnil))))
  refine wc_while' (fun (s68 : (List Int) × Int) E' w' => ∃ (a76 : Option Addr) (n77 c78 : Nat) (K72 : KMap), E' = [(3, sv p3_term), (9, .slice a76 n77 c78), (10, .slice a51 n52 c53), (11, .int .i64 s68.2)] ∧ SH w K [] w' K72 [tail (.slice a76 n77 c78) 3 1] ∧ KLe K48 K72 ∧ SliceAt tInt K72 a76 n77 c78 s68.1 ∧ rng64 s68.2) h70 ⟨a28, 0, 0, K48, rfl, hS81, (KLe.refl _), (SliceAt.mono (hS41.le.trans hS50.le) hs32), (by decide : rng64 0)⟩ ⟨rfl, rfl, rfl, rfl, trivial⟩ ?_
  rintro s68 _ w74 r82 h83 hx84 ⟨a76, n77, c78, K72, rfl, hS75, hl73, hs79, hr80⟩
  refine wc_seq ?_
  refine sr ?_
  refine vm rfl rfl ?_
  refine vm rfl rfl ?_
  refine wl_val wn rfl (rv_len (t := tGTerm) Tryz.underlying38 rfl (SliceAt.mono hl73 hs54)) ?_
  refine wl_val wn rfl (rv_lss rfl rfl) ?_
  refine nq ?_
  refine wc_cond rfl (fun hb85 => ?_) (fun hb85 => ?_)
  ·have h86 := cond_t hb85 h83
   refine wc_skip ?_
   refine qs ?_
   refine wc_block ?_
   refine sr ?_
   refine vm rfl rfl ?_
   refine vm rfl rfl ?_
   obtain ⟨x87, hx88, h89⟩ := ob h86
   refine wl_indexAddr (t := tGTerm) wn rfl Tryz.underlying38 tf46 rfl rfl (SliceAt.mono hl73 hs54) hx88 ?_
   intro b90 o91 u92 hu93 ha94
   obtain ⟨rfl, hl95, hr96⟩ := hu93
   have ha97 : AtK _ b90 o91 [sv x87.Text, .int .i64 x87.At] := ha94
   refine wl_val wn rfl (rv_fieldAddr ff46_0 rfl) ?_
   refine wl_val wn rfl (rv_load1 tf9 rfl hS75 (ha97 0 _ rfl)) ?_
   refine vm rfl rfl ?_
   refine wl_val wn rfl (rv_seql rfl rfl) ?_
   refine nq ?_
   refine wc_cond rfl (fun hb98 => ?_) (fun hb98 => ?_)
   ·have h99 := cond_t hb98 h89
    refine wc_region ?_
    refine vm rfl rfl ?_
    refine vm rfl rfl ?_
    refine vm rfl rfl ?_
    obtain ⟨x100, hx101, h102⟩ := ob h99
    refine wl_indexAddr (t := tGTerm) wn rfl Tryz.underlying38 tf46 rfl rfl (SliceAt.mono hl73 hs54) hx101 ?_
    intro b103 o104 u105 hu106 ha107
    obtain ⟨rfl, hl108, hr109⟩ := hu106
    have ha110 : AtK _ b103 o104 [sv x100.Text, .int .i64 x100.At] := ha107
    refine wl_val wn rfl (rv_fieldAddr ff46_1 rfl) ?_
    refine wl_val wn rfl (rv_load1 tf3 rfl hS75 (ha110 1 _ rfl)) ?_
    refine wl_buildSlice (t := tInt) (n := 1) (pv := [(0, .int .i64 x100.At)]) (cs := [.int .i64 x100.At]) (xs := [x100.At]) wn rfl Tryz.underlying37 tf3 rfl rfl rfl (by kernel_rfl) rfl rfl (lit_cons (u := .int .i64 x100.At) (z := x100.At) ⟨rfl, hr109⟩ lit_nil) hS75 ?_
    intro a111 w112 K113 hl114 hs115 hS116
    have hS117 : SH _ _ _ _ _ [_, _] := SH.front (p := [_]) hS116
    obtain ⟨x118, hx119, h120⟩ := ob h102
    refine wl_append (t := tInt) wn rfl Tryz.underlying37 tf3 rfl rfl rfl rfl rfl (SliceAt.mono hl114 hs79) hs115 hx119 hS117 ?_
    intro a121 n122 c123 w124 K125 hl126 hs127 hS128
    refine va rfl rfl ?_
    refine nb ?_
    refine qe_seq ?_
    refine wc_region ?_
    refine vm rfl rfl ?_
    refine wl_val wn rfl (rv_add rfl rfl) ?_
    refine va rfl rfl ?_
    refine wl_nil ?_
    obtain rfl := oi h120
    have hS129 : SH _ _ _ _ _ [_] := SH.sublist hS128 (.cons_cons _ (.cons _ .slnil))
    exact qe_mid' ⟨_, rfl, a121, n122, c123, K125, rfl, hS129, ((hl73.trans hl114).trans hl126), hs127, (w64_rng _)⟩ ⟨rfl, rfl, rfl, rfl, trivial⟩
   ·have h99 := cond_f hb98 h89
    refine wc_skip ?_
    refine qe_block ?_
    refine qe_seq ?_
    refine wc_region ?_
    refine vm rfl rfl ?_
    refine wl_val wn rfl (rv_add rfl rfl) ?_
    refine va rfl rfl ?_
    refine wl_nil ?_
    obtain rfl := oi h99
    exact qe_mid' ⟨_, rfl, a76, n77, c78, K72, rfl, hS75, hl73, hs79, (w64_rng _)⟩ ⟨rfl, rfl, rfl, rfl, trivial⟩
  ·have h86 := cond_f hb85 h83
   refine wc_exit ?_
   refine qe_then_exit ?_
   refine qe_then_exit ?_
   obtain rfl := oi h86
   have e130 := hx84 _ rfl
   subst e130
   refine qe_block_eq ?_
   obtain rfl := oi h71
   exact qe_mid' ⟨a76, n77, c78, K72, rfl, hS75, hl73, hs79⟩ ⟨rfl, trivial⟩
 ·rintro _ w62 ⟨a64, n65, c66, K60, rfl, hS63, hl61, hs67⟩
  refine qr ?_
  refine vm rfl rfl ?_
  refine va rfl rfl ?_
  refine nq ?_
  refine wc_ret ?_
  obtain rfl := oi h59
  exact qe_ret (vs := [_]) Tryz.results150 ⟨rfl, trivial⟩ ⟨a64, n65, c66, K60, rfl, hS63, hs67⟩
end Go.Proofs.YtdcmmhjhffcnhaaGreat
