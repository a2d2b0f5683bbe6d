/-
 Walks of the functions. Printed by gen.py.
-/
import Derived.Test.YtdcmmhjhffcnhaaGreatWalkA4
set_option linter.unusedVariables false
set_option maxRecDepth 100000
namespace Go.Proofs.YtdcmmhjhffcnhaaGreat
open Go Go.Fk Go.RowKit

theorem ok_stringslite_HasSuffix (F : Nat) {w : World} {K : KMap} {p0_s : Str} {p1_suffix : Str} {r : Bool} (hS : SH w K [] w K []) (hl1 : p0_s.length ≤ maxLen) (hl2 : p1_suffix.length ≤ maxLen) (hm : M.stringslite_HasSuffix F p0_s p1_suffix = some r) :
  Calls Tryz.prog 141 #[sv p0_s, sv p1_suffix] w fun e w' => ∃ (K' : KMap), e = .returned (.bool r) ∧ SH w K [] w' K' [] := by
 rw [M.stringslite_HasSuffix] at hm
 refine calls_in Tryz.func141 rfl Tryz.ntmps141 rfl ?_
 refine sr ?_
 refine wl_val wn rfl (rv_assign (v := .bool false) rfl) ?_
 refine nr ?_
 refine vm rfl rfl ?_
 refine wl_val wn rfl (rv_slen Tryz.underlying9 rfl) ?_
 refine vm rfl rfl ?_
 refine wl_val wn rfl (rv_slen Tryz.underlying9 rfl) ?_
 refine wl_val wn rfl (rv_geq rfl rfl) ?_
 refine vm rfl rfl ?_
 rcases bool_tf (decide ((p1_suffix.length : Int) ≤ (p0_s.length : Int))) with hb3 | hb3
 ·have h4 := cond_t hb3 hm
  refine wl_val (wg rfl rfl hb3) rfl (rv_move rfl) ?_
  refine wl_val (wg rfl rfl hb3) rfl (rv_move rfl) ?_
  refine wl_val (wg rfl rfl hb3) rfl (rv_slen Tryz.underlying9 rfl) ?_
  refine wl_val (wg rfl rfl hb3) rfl (rv_move rfl) ?_
  refine wl_val (wg rfl rfl hb3) rfl (rv_slen Tryz.underlying9 rfl) ?_
  refine wl_val (wg rfl rfl hb3) rfl (rv_sub rfl rfl) ?_
  obtain ⟨x5, hx6, h7⟩ := ob h4
  refine wl_val (wg rfl rfl hb3) rfl (rv_ssl_l Tryz.underlying9 rfl rfl hx6) ?_
  refine wl_val (wg rfl rfl hb3) rfl (rv_move rfl) ?_
  refine wl_val (wg rfl rfl hb3) rfl (rv_seql rfl rfl) ?_
  refine wl_val wn rfl (rv_pick_t rfl hb3 rfl) ?_
  refine va rfl rfl ?_
  refine nq ?_
  refine wc_ret ?_
  obtain rfl := oi h7
  exact qe_ret (vs := [_]) Tryz.results141 ⟨rfl, trivial⟩ ⟨K, rfl, hS⟩
 ·have h4 := cond_f hb3 hm
  refine wl_un (ug rfl rfl hb3) rfl ?_
  refine wl_un (ug rfl rfl hb3) rfl ?_
  refine wl_un (ug rfl rfl hb3) rfl ?_
  refine wl_un (ug rfl rfl hb3) rfl ?_
  refine wl_un (ug rfl rfl hb3) rfl ?_
  refine wl_un (ug rfl rfl hb3) rfl ?_
  refine wl_un (ug rfl rfl hb3) rfl ?_
  refine wl_un (ug rfl rfl hb3) rfl ?_
  refine wl_un (ug rfl rfl hb3) rfl ?_
  refine wl_val wn rfl (rv_pick_f (v := .bool false) rfl hb3 rfl) ?_
  refine va rfl rfl ?_
  refine nq ?_
  refine wc_ret ?_
  obtain rfl := oi h4
  exact qe_ret (vs := [_]) Tryz.results141 ⟨rfl, trivial⟩ ⟨K, rfl, hS⟩

theorem ok_strings_HasSuffix (F : Nat) {w : World} {K : KMap} {p0_s : Str} {p1_suffix : Str} {r : Bool} (hS : SH w K [] w K []) (hl1 : p0_s.length ≤ maxLen) (hl2 : p1_suffix.length ≤ maxLen) (hm : M.strings_HasSuffix F p0_s p1_suffix = some r) :
  Calls Tryz.prog 104 #[sv p0_s, sv p1_suffix] w fun e w' => ∃ (K' : KMap), e = .returned (.bool r) ∧ SH w K [] w' K' [] := by
 rw [M.strings_HasSuffix] at hm
 refine calls_in Tryz.func104 rfl Tryz.ntmps104 rfl ?_
 refine sr ?_
 refine wl_val wn rfl (rv_assign (v := .bool false) rfl) ?_
 refine nr ?_
 refine vm rfl rfl ?_
 refine vm rfl rfl ?_
 obtain ⟨r3, hx4, h5⟩ := ob hm
 refine wl_call wn rfl (rt_call (vs := [sv p0_s, sv p1_suffix]) co141 rfl) ((ok_stringslite_HasSuffix F) hS.enter0 hl1 hl2 hx4) ?_
 rintro e9 w7 ⟨K6, rfl, hS8⟩
 refine ⟨_, rfl, ?_⟩
 have hS10 : SH _ _ _ _ _ [] := SH.call0 hS hS8
 refine va rfl rfl ?_
 refine nq ?_
 refine wc_ret ?_
 obtain rfl := oi h5
 exact qe_ret (vs := [_]) Tryz.results104 ⟨rfl, trivial⟩ ⟨K6, rfl, hS10⟩

set_option maxHeartbeats 2000000 in
theorem ok_impl_StemOf (F : Nat) {w : World} {K : KMap} {p0_s : Str} {r : Str} (hS : SH w K [] w K []) (hl1 : p0_s.length ≤ maxLen) (hm : M.impl_StemOf F p0_s = some r) :
  Calls Tryz.prog 57 #[sv p0_s] w fun e w' => ∃ (K' : KMap), e = .returned (sv r) ∧ SH w K [] w' K' [] ∧ r.length ≤ maxLen := by
 rw [M.impl_StemOf] at hm
 refine calls_in Tryz.func57 rfl Tryz.ntmps57 rfl ?_
 refine sr ?_
 refine wl_val wn rfl (rv_assign (v := sv []) rfl) ?_
 refine nsr ?_
 refine vm rfl rfl ?_
 obtain ⟨r2, hx3, h4⟩ := ob hm
 refine wl_call wn rfl (rt_call (vs := [sv p0_s]) co99 rfl) ((ok_impl_WordOk F) hS.enter0 hl1 hx3) ?_
 rintro e8 w6 ⟨K5, rfl, hS7⟩
 refine ⟨_, rfl, ?_⟩
 have hS9 : SH _ _ _ _ _ [] := SH.call0 hS hS7
 refine wl_val wn rfl (rv_not rfl) ?_
 refine nq ?_
 refine wc_cond rfl (fun hb10 => ?_) (fun hb10 => ?_)
 ·have h11 := cond_t hb10 h4
  refine sr ?_
  refine wl_val wn rfl (rv_assign (v := sv []) rfl) ?_
  refine nq ?_
  refine rr ?_
  obtain rfl := oi h11
  exact qe_ret (vs := [_]) Tryz.results57 ⟨rfl, trivial⟩ ⟨K5, rfl, hS9, (by decide : ([] : Str).length ≤ maxLen)⟩
 ·have h11 := cond_f hb10 h4
  refine wc_skip ?_
  refine qs ?_
  refine sr ?_
  refine wl_val wn rfl (rv_assign (v := .bool true) rfl) ?_
  refine nq ?_
  obtain ⟨o12, h13, h14⟩ := ob h11
  refine wc_cutg (fun E' w' => ∃ (K15 : KMap), E' = [(0, sv o12)] ∧ SH w K [] w' K15 [] ∧ KLe K5 K15 ∧ o12.length ≤ maxLen) ?_ ?_
  ·refine wc_block ?_
   obtain ⟨r21, h22, h23⟩ := ob h13
   refine wc_while' (fun (s20 : Str × Bool) E' w' => ∃ (K24 : KMap), E' = [(0, sv s20.1), (3, .bool s20.2)] ∧ SH w K [] w' K24 [] ∧ KLe K5 K24 ∧ s20.1.length ≤ maxLen) h22 ⟨K5, rfl, hS9, (KLe.refl _), hl1⟩ ⟨rfl, rfl, trivial⟩ ?_
   rintro s20 _ w26 r29 h30 hx31 ⟨K24, rfl, hS27, hl25, hl28⟩
   refine wc_seq ?_
   refine sr ?_
   refine vm rfl rfl ?_
   refine nq ?_
   refine wc_cond rfl (fun hb32 => ?_) (fun hb32 => ?_)
   ·have h33 := cond_t hb32 h30
    refine wc_skip ?_
    refine qe_seq ?_
    refine wc_block ?_
    refine sr ?_
    refine wl_val wn rfl (rv_assign (v := .bool false) rfl) ?_
    refine nr ?_
    refine wl_buildSlice (t := tStr) (n := 5) (pv := [(0, sv [105, 110, 103]), (1, sv [101, 100]), (2, sv [101, 115]), (3, sv [108, 121]), (4, sv [115])]) (cs := [sv [105, 110, 103], sv [101, 100], sv [101, 115], sv [108, 121], sv [115]]) (xs := [([105, 110, 103] : Str), ([101, 100] : Str), ([101, 115] : Str), ([108, 121] : Str), ([115] : Str)]) wn rfl Tryz.underlying23 tf9 rfl rfl rfl (by kernel_rfl) rfl rfl (lit_cons (u := sv [105, 110, 103]) (z := ([105, 110, 103] : Str)) ⟨rfl, (by decide : ([105, 110, 103] : Str).length ≤ maxLen)⟩ (lit_cons (u := sv [101, 100]) (z := ([101, 100] : Str)) ⟨rfl, (by decide : ([101, 100] : Str).length ≤ maxLen)⟩ (lit_cons (u := sv [101, 115]) (z := ([101, 115] : Str)) ⟨rfl, (by decide : ([101, 115] : Str).length ≤ maxLen)⟩ (lit_cons (u := sv [108, 121]) (z := ([108, 121] : Str)) ⟨rfl, (by decide : ([108, 121] : Str).length ≤ maxLen)⟩ (lit_cons (u := sv [115]) (z := ([115] : Str)) ⟨rfl, (by decide : ([115] : Str).length ≤ maxLen)⟩ lit_nil))))) hS27 ?_
    intro a34 w35 K36 hl37 hs38 hS39
    refine wl_val wn rfl (rv_len (t := tStr) Tryz.underlying23 rfl hs38) ?_
    refine wl_val wn rfl (rv_move (v := .int .i64 0) rfl) ?_
    refine nq ?_
    obtain ⟨o40, h41, h42⟩ := ob h33
    refine wc_cutg (fun E' w' => ∃ (K43 : KMap), E' = [(0, sv o40.1), (3, .bool o40.2)] ∧ SH w K [] w' K43 [] ∧ KLe K36 K43 ∧ o40.1.length ≤ maxLen) ?_ ?_
    ·refine wc_block ?_
     obtain ⟨r49, h50, h51⟩ := ob h41
     have hS58 : SH _ _ _ _ _ [] := SH.sublist hS39 (.cons _ .slnil)
     refine wc_for' (fun (i52 : Nat) (s48 : Str × Bool) E' w' => ∃ (K53 : KMap), E' = [(0, sv s48.1), (3, .bool s48.2), (10, .slice a34 5 5), (11, .int .i64 (([([105, 110, 103] : Str), ([101, 100] : Str), ([101, 115] : Str), ([108, 121] : Str), ([115] : Str)] : List Str).length : Int)), (12, .int .i64 ((i52 : Nat) : Int))] ∧ SH w K [] w' K53 [] ∧ KLe K36 K53 ∧ s48.1.length ≤ maxLen) h50 ⟨K36, rfl, hS58, (KLe.refl _), hl28⟩ ⟨rfl, rfl, rfl, rfl, rfl, trivial⟩ ?_ ?_
     ·rintro i52 s48 _ w55 r59 hi60 h61 hx62 ⟨K53, rfl, hS56, hl54, hl57⟩
      refine sr ?_
      refine wl_val wn rfl (rv_lss rfl rfl) ?_
      refine ns ?_
      refine wc_cond_t rfl (decide_eq_true (by omega)) (wc_skip (qe_seq (wc_seq ?_)))
      refine wc_block ?_
      refine sr ?_
      obtain ⟨x63, hx64, h65⟩ := ob h61
      refine wl_indexAddr (t := tStr) wn rfl Tryz.underlying23 tf9 rfl rfl (SliceAt.mono hl54 hs38) hx64 ?_
      intro b66 o67 u68 hu69 ha70
      obtain ⟨rfl, hl71⟩ := hu69
      have ha72 : AtK _ b66 o67 [sv x63] := ha70
      refine wl_val wn rfl (rv_load1 tf9 rfl hS56 (ha72 0 _ rfl)) ?_
      refine va rfl rfl ?_
      refine ns ?_
      obtain ⟨o73, h74, h75⟩ := ob h65
      refine wc_cutg (fun E' w' => ∃ (K76 : KMap), E' = [(0, sv s48.1), (3, .bool s48.2), (5, sv x63), (10, .slice a34 5 5), (11, .int .i64 (([([105, 110, 103] : Str), ([101, 100] : Str), ([101, 115] : Str), ([108, 121] : Str), ([115] : Str)] : List Str).length : Int)), (12, .int .i64 ((i52 : Nat) : Int)), (26, .bool o73)] ∧ SH w K [] w' K76 [] ∧ KLe K53 K76) ?_ ?_
      ·refine wc_region ?_
       refine vm rfl rfl ?_
       refine vm rfl rfl ?_
       obtain ⟨r80, hx81, h82⟩ := ob h74
       refine wl_call wn rfl (rt_call (vs := [sv s48.1, sv x63]) co104 rfl) ((ok_strings_HasSuffix F) hS56.enter0 hl57 hl71 hx81) ?_
       rintro e86 w84 ⟨K83, rfl, hS85⟩
       refine ⟨_, rfl, ?_⟩
       have hS87 : SH _ _ _ _ _ [] := SH.call0 hS56 hS85
       refine vm rfl rfl ?_
       rcases bool_tf (r80) with hb88 | hb88
       ·have h89 := cond_t hb88 h82
        refine wl_val (wg rfl rfl hb88) rfl (rv_move rfl) ?_
        refine wl_val (wg rfl rfl hb88) rfl (rv_slen Tryz.underlying9 rfl) ?_
        refine wl_val (wg rfl rfl hb88) rfl (rv_move rfl) ?_
        refine wl_val (wg rfl rfl hb88) rfl (rv_slen Tryz.underlying9 rfl) ?_
        refine wl_val (wg rfl rfl hb88) rfl (rv_sub rfl rfl) ?_
        refine wl_val (wg rfl rfl hb88) rfl (rv_geq rfl rfl) ?_
        refine wl_val wn rfl (rv_pick_t rfl hb88 rfl) ?_
        refine wl_nil ?_
        obtain rfl := oi h89
        exact qe_mid' ⟨K83, rfl, hS87, hS85.le⟩ ⟨rfl, rfl, rfl, rfl, rfl, rfl, rfl, trivial⟩
       ·have h89 := cond_f hb88 h82
        refine wl_un (ug rfl rfl hb88) rfl ?_
        refine wl_un (ug rfl rfl hb88) rfl ?_
        refine wl_un (ug rfl rfl hb88) rfl ?_
        refine wl_un (ug rfl rfl hb88) rfl ?_
        refine wl_un (ug rfl rfl hb88) rfl ?_
        refine wl_un (ug rfl rfl hb88) rfl ?_
        refine wl_val wn rfl (rv_pick_f (v := .bool false) rfl hb88 rfl) ?_
        refine wl_nil ?_
        obtain rfl := oi h89
        exact qe_mid' ⟨K83, rfl, hS87, hS85.le⟩ ⟨rfl, rfl, rfl, rfl, rfl, rfl, rfl, trivial⟩
      ·rintro _ w78 ⟨K76, rfl, hS79, hl77⟩
       refine qe_seq ?_
       refine wc_cond rfl (fun hb90 => ?_) (fun hb90 => ?_)
       ·have h91 := cond_t hb90 h75
        refine sr ?_
        refine vm rfl rfl ?_
        refine vm rfl rfl ?_
        refine wl_val wn rfl (rv_slen Tryz.underlying9 rfl) ?_
        refine vm rfl rfl ?_
        refine wl_val wn rfl (rv_slen Tryz.underlying9 rfl) ?_
        refine wl_val wn rfl (rv_sub rfl rfl) ?_
        obtain ⟨x92, hx93, h94⟩ := ob h91
        refine wl_val wn rfl (rv_ssl_h Tryz.underlying9 rfl rfl hx93) ?_
        refine va rfl rfl ?_
        refine nr ?_
        refine wl_val wn rfl (rv_assign (v := .bool true) rfl) ?_
        refine nq ?_
        refine wc_exit ?_
        refine qe_block_ne rfl ?_
        refine qe_then_exit ?_
        refine qe_then_exit ?_
        obtain rfl := oi h94
        have e95 := hx62 _ rfl
        subst e95
        refine qe_block_eq ?_
        obtain rfl := oi h51
        exact qe_mid' ⟨K76, rfl, hS79, (hl54.trans hl77), (len_sub hl57 hx93)⟩ ⟨rfl, rfl, trivial⟩
       ·have h91 := cond_f hb90 h75
        refine wc_skip ?_
        refine qe_block ?_
        refine qg ?_
        refine wl_val wn rfl (rv_add_to rfl rfl (w64_succ hi60 (SliceAt.max hs38))) ?_
        refine vm rfl rfl ?_
        refine wl_nil ?_
        obtain rfl := oi h91
        exact qe_mid' ⟨_, rfl, K76, rfl, hS79, (hl54.trans hl77), hl57⟩ ⟨rfl, rfl, rfl, rfl, rfl, trivial⟩
     ·rintro s48 _ w55 hr96 ⟨K53, rfl, hS56, hl54, hl57⟩
      subst hr96
      refine sr ?_
      refine wl_val wn rfl (rv_lss rfl rfl) ?_
      refine ns ?_
      refine wc_cond_f rfl (decide_eq_false (by omega)) ?_
      refine wc_exit ?_
      refine qe_then_exit ?_
      refine qe_then_exit ?_
      refine qe_block_eq ?_
      obtain rfl := oi h51
      exact qe_mid' ⟨K53, rfl, hS56, hl54, hl57⟩ ⟨rfl, rfl, trivial⟩
    ·rintro _ w45 ⟨K43, rfl, hS46, hl44, hl47⟩
     refine qe_block ?_
     obtain rfl := oi h42
     exact qe_mid' ⟨_, rfl, K43, rfl, hS46, ((hl25.trans hl37).trans hl44), hl47⟩ ⟨rfl, rfl, trivial⟩
   ·have h33 := cond_f hb32 h30
    refine wc_exit ?_
    refine qe_then_exit ?_
    refine qe_then_exit ?_
    obtain rfl := oi h33
    have e98 := hx31 _ rfl
    subst e98
    refine qe_block_eq ?_
    obtain rfl := oi h23
    exact qe_mid' ⟨K24, rfl, hS27, hl25, hl28⟩ ⟨rfl, trivial⟩
  ·rintro _ w17 ⟨K15, rfl, hS18, hl16, hl19⟩
   refine qr ?_
   refine vm rfl rfl ?_
   refine va rfl rfl ?_
   refine nq ?_
   refine wc_ret ?_
   obtain rfl := oi h14
   exact qe_ret (vs := [_]) Tryz.results57 ⟨rfl, trivial⟩ ⟨K15, rfl, hS18, hl19⟩

theorem ok_slices_Index_string (F : Nat) {w : World} {K : KMap} {a1 : Option Addr} {n2 c3 : Nat} {p0_s : List Str} {p1_v : Str} {r : Int} (hS : SH w K [] w K []) (hs4 : SliceAt tStr K a1 n2 c3 p0_s) (hl5 : p1_v.length ≤ maxLen) (hm : M.slices_Index_string F p0_s p1_v = some r) :
  Calls Tryz.prog 105 #[.slice a1 n2 c3, sv p1_v] w fun e w' => ∃ (K' : KMap), e = .returned (.int .i64 r) ∧ SH w K [] w' K' [] ∧ rng64 r := by
 rw [M.slices_Index_string] at hm
 refine calls_in Tryz.func105 rfl Tryz.ntmps105 rfl ?_
 refine sr ?_
 refine wl_val wn rfl (rv_assign (v := .int .i64 0) rfl) ?_
 refine nsr ?_
 refine vm rfl rfl ?_
 refine wl_val wn rfl (rv_len (t := tStr) Tryz.underlying23 rfl hs4) ?_
 refine wl_val wn rfl (rv_move (v := .int .i64 0) rfl) ?_
 refine nq ?_
 obtain ⟨o6, h7, h8⟩ := ob hm
 refine wc_cutg (fun E' w' => ∃ (s9 : Unit) (K10 : KMap), o6 = .inl s9 ∧ E' = [] ∧ SH w K [] w' K10 [] ∧ KLe K K10) ?_ ?_
 ·refine wc_block ?_
  obtain ⟨r15, h16, h17⟩ := ob h7
  refine wc_for' (fun (i18 : Nat) (s14 : Unit) E' w' => ∃ (K19 : KMap), E' = [(0, .slice a1 n2 c3), (1, sv p1_v), (7, .int .i64 (p0_s.length : Int)), (8, .int .i64 ((i18 : Nat) : Int))] ∧ SH w K [] w' K19 [] ∧ KLe K K19) h16 ⟨K, rfl, hS, (KLe.refl _)⟩ ⟨rfl, rfl, rfl, rfl, trivial⟩ ?_ ?_
  ·rintro i18 s14 _ w21 r23 hi24 h25 hx26 ⟨K19, rfl, hS22, hl20⟩
   refine sr ?_
   refine wl_val wn rfl (rv_lss rfl rfl) ?_
   refine ns ?_
   refine wc_cond_t rfl (decide_eq_true (by omega)) (wc_skip (qe_seq (wc_seq ?_)))
   refine wc_block ?_
   refine sr ?_
   refine vm rfl rfl ?_
   refine va rfl rfl ?_
   refine nr ?_
   refine vm rfl rfl ?_
   refine vm rfl rfl ?_
   refine vm rfl rfl ?_
   obtain ⟨x27, hx28, h29⟩ := ob h25
   refine wl_indexAddr (t := tStr) wn rfl Tryz.underlying23 tf9 rfl rfl (SliceAt.mono hl20 hs4) hx28 ?_
   intro b30 o31 u32 hu33 ha34
   obtain ⟨rfl, hl35⟩ := hu33
   have ha36 : AtK _ b30 o31 [sv x27] := ha34
   refine wl_val wn rfl (rv_load1 tf9 rfl hS22 (ha36 0 _ rfl)) ?_
   refine wl_val wn rfl (rv_seql rfl rfl) ?_
   refine nq ?_
   refine wc_cond rfl (fun hb37 => ?_) (fun hb37 => ?_)
   ·have h38 := cond_t hb37 h29
    refine sr ?_
    refine vm rfl rfl ?_
    refine va rfl rfl ?_
    refine nq ?_
    refine wc_ret ?_
    refine qe_block_ret ?_
    refine qe_then_ret ?_
    refine qe_then_ret ?_
    obtain rfl := oi h38
    have e39 := hx26 _ rfl
    subst e39
    refine qe_block_ret ?_
    refine qe_then_ret ?_
    obtain rfl := oi h17
    refine qe_then_ret ?_
    obtain rfl := oi h8
    exact qe_ret (vs := [_]) Tryz.results105 ⟨rfl, trivial⟩ ⟨K19, rfl, hS22, (rng_idx hi24 (SliceAt.max hs4))⟩
   ·have h38 := cond_f hb37 h29
    refine wc_skip ?_
    refine qe_block ?_
    refine qg ?_
    refine wl_val wn rfl (rv_add_to rfl rfl (w64_succ hi24 (SliceAt.max hs4))) ?_
    refine vm rfl rfl ?_
    refine wl_nil ?_
    obtain rfl := oi h38
    exact qe_mid' ⟨_, rfl, K19, rfl, hS22, hl20⟩ ⟨rfl, rfl, rfl, rfl, trivial⟩
  ·rintro s14 _ w21 hr40 ⟨K19, rfl, hS22, hl20⟩
   subst hr40
   refine sr ?_
   refine wl_val wn rfl (rv_lss rfl rfl) ?_
   refine ns ?_
   refine wc_cond_f rfl (decide_eq_false (by omega)) ?_
   refine wc_exit ?_
   refine qe_then_exit ?_
   refine qe_then_exit ?_
   refine qe_block_eq ?_
   obtain rfl := oi h17
   exact qe_mid' ⟨_, K19, rfl, rfl, hS22, hl20⟩ trivial
 ·rintro _ w12 ⟨s9, K10, rfl, rfl, hS13, hl11⟩
  refine qr ?_
  refine wl_val wn rfl (rv_assign (v := .int .i64 (-1)) rfl) ?_
  refine nq ?_
  refine wc_ret ?_
  obtain rfl := oi h8
  exact qe_ret (vs := [_]) Tryz.results105 ⟨rfl, trivial⟩ ⟨K10, rfl, hS13, (by decide : rng64 (-1))⟩

theorem ok_slices_Contains_string (F : Nat) {w : World} {K : KMap} {a1 : Option Addr} {n2 c3 : Nat} {p0_s : List Str} {p1_v : Str} {r : Bool} (hS : SH w K [] w K []) (hs4 : SliceAt tStr K a1 n2 c3 p0_s) (hl5 : p1_v.length ≤ maxLen) (hm : M.slices_Contains_string F p0_s p1_v = some r) :
  Calls Tryz.prog 58 #[.slice a1 n2 c3, sv p1_v] w fun e w' => ∃ (K' : KMap), e = .returned (.bool r) ∧ SH w K [] w' K' [] := by
 rw [M.slices_Contains_string] at hm
 refine calls_in Tryz.func58 rfl Tryz.ntmps58 rfl ?_
 refine sr ?_
 refine wl_val wn rfl (rv_assign (v := .bool false) rfl) ?_
 refine nr ?_
 refine vm rfl rfl ?_
 refine vm rfl rfl ?_
 obtain ⟨r6, hx7, h8⟩ := ob hm
 refine wl_call wn rfl (rt_call (vs := [.slice a1 n2 c3, sv p1_v]) co105 rfl) ((ok_slices_Index_string F) hS.enter0 hs4 hl5 hx7) ?_
 rintro e13 w10 ⟨K9, rfl, hS11, hr12⟩
 refine ⟨_, rfl, ?_⟩
 have hS14 : SH _ _ _ _ _ [] := SH.call0 hS hS11
 refine wl_val wn rfl (rv_geq rfl rfl) ?_
 refine va rfl rfl ?_
 refine nq ?_
 refine wc_ret ?_
 obtain rfl := oi h8
 exact qe_ret (vs := [_]) Tryz.results58 ⟨rfl, trivial⟩ ⟨K9, rfl, hS14⟩

set_option maxHeartbeats 2000000 in
theorem ok_impl_wordsAscend (F : Nat) {w : World} {K : KMap} {a1 : Option Addr} {n2 c3 : Nat} {p0_list : List Str} {r : Bool} (hS : SH w K [] w K []) (hs4 : SliceAt tStr K a1 n2 c3 p0_list) (hm : M.impl_wordsAscend F p0_list = some r) :
  Calls Tryz.prog 97 #[.slice a1 n2 c3] w fun e w' => ∃ (K' : KMap), e = .returned (.bool r) ∧ SH w K [] w' K' [] := by
 rw [M.impl_wordsAscend] at hm
 refine calls_in Tryz.func97 rfl Tryz.ntmps97 rfl ?_
 refine sr ?_
 refine wl_val wn rfl (rv_assign (v := .bool false) rfl) ?_
 refine nsr ?_
 refine vm rfl rfl ?_
 refine wl_val wn rfl (rv_len (t := tStr) Tryz.underlying23 rfl hs4) ?_
 refine wl_val wn rfl (rv_move (v := .int .i64 0) rfl) ?_
 refine nq ?_
 obtain ⟨o5, h6, h7⟩ := ob hm
 refine wc_cutg (fun E' w' => ∃ (s8 : Unit) (K9 : KMap), o5 = .inl s8 ∧ E' = [] ∧ SH w K [] w' K9 [] ∧ KLe K K9) ?_ ?_
 ·refine wc_block ?_
  obtain ⟨r14, h15, h16⟩ := ob h6
  refine wc_for' (fun (i17 : Nat) (s13 : Unit) E' w' => ∃ (K18 : KMap), E' = [(0, .slice a1 n2 c3), (5, .slice a1 n2 c3), (6, .int .i64 (p0_list.length : Int)), (7, .int .i64 ((i17 : Nat) : Int))] ∧ SH w K [] w' K18 [] ∧ KLe K K18) h15 ⟨K, rfl, hS, (KLe.refl _)⟩ ⟨rfl, rfl, rfl, rfl, trivial⟩ ?_ ?_
  ·rintro i17 s13 _ w20 r22 hi23 h24 hx25 ⟨K18, rfl, hS21, hl19⟩
   refine sr ?_
   refine wl_val wn rfl (rv_lss rfl rfl) ?_
   refine ns ?_
   refine wc_cond_t rfl (decide_eq_true (by omega)) (wc_skip (qe_seq (wc_seq ?_)))
   refine wc_block ?_
   refine sr ?_
   refine vm rfl rfl ?_
   obtain ⟨x26, hx27, h28⟩ := ob h24
   refine wl_indexAddr (t := tStr) wn rfl Tryz.underlying23 tf9 rfl rfl (SliceAt.mono hl19 hs4) hx27 ?_
   intro b29 o30 u31 hu32 ha33
   obtain ⟨rfl, hl34⟩ := hu32
   have ha35 : AtK _ b29 o30 [sv x26] := ha33
   refine wl_val wn rfl (rv_load1 tf9 rfl hS21 (ha35 0 _ rfl)) ?_
   refine va rfl rfl ?_
   refine va rfl rfl ?_
   refine ns ?_
   obtain ⟨o36, h37, h38⟩ := ob h28
   refine wc_cutg (fun E' w' => ∃ (K39 : KMap), E' = [(0, .slice a1 n2 c3), (5, .slice a1 n2 c3), (6, .int .i64 (p0_list.length : Int)), (7, .int .i64 ((i17 : Nat) : Int)), (27, .bool o36)] ∧ SH w K [] w' K39 [] ∧ KLe K18 K39) ?_ ?_
   ·refine wc_region ?_
    refine vm rfl rfl ?_
    obtain ⟨r43, hx44, h45⟩ := ob h37
    refine wl_call wn rfl (rt_call (vs := [sv x26]) co99 rfl) ((ok_impl_WordOk F) hS21.enter0 hl34 hx44) ?_
    rintro e49 w47 ⟨K46, rfl, hS48⟩
    refine ⟨_, rfl, ?_⟩
    have hS50 : SH _ _ _ _ _ [] := SH.call0 hS21 hS48
    refine wl_val wn rfl (rv_not rfl) ?_
    refine vm rfl rfl ?_
    rcases bool_tf ((!r43)) with hb51 | hb51
    ·have h52 := cond_t hb51 h45
     refine wl_un (ug rfl rfl hb51) rfl ?_
     refine wl_un (ug rfl rfl hb51) rfl ?_
     refine wl_un (ug rfl rfl hb51) rfl ?_
     refine wl_un (uu rfl rfl) rfl ?_
     refine wl_un (uu rfl rfl) rfl ?_
     refine wl_un (uu rfl rfl) rfl ?_
     refine wl_un (uu rfl rfl) rfl ?_
     refine wl_un (uu rfl rfl) rfl ?_
     refine wl_un (uu rfl rfl) rfl ?_
     refine wl_un (uu rfl rfl) rfl ?_
     refine wl_un (ug rfl rfl hb51) rfl ?_
     refine wl_val wn rfl (rv_pick_t (v := .bool true) rfl hb51 rfl) ?_
     refine wl_nil ?_
     obtain rfl := oi h52
     exact qe_mid' ⟨K46, rfl, hS50, hS48.le⟩ ⟨rfl, rfl, rfl, rfl, rfl, trivial⟩
    ·have h52 := cond_f hb51 h45
     refine wl_val (wg rfl rfl hb51) rfl (rv_move rfl) ?_
     refine wl_val (wg rfl rfl hb51) rfl (rv_gtr rfl rfl) ?_
     refine wl_val (wg rfl rfl hb51) rfl (rv_move rfl) ?_
     rcases bool_tf (decide ((0 : Int) < ((i17 : Nat) : Int))) with hb53 | hb53
     ·have h54 := cond_t hb53 h52
      refine wl_val (wg rfl rfl hb53) rfl (rv_move rfl) ?_
      refine wl_val (wg rfl rfl hb53) rfl (rv_move rfl) ?_
      refine wl_val (wg rfl rfl hb53) rfl (rv_sub rfl rfl) ?_
      obtain ⟨x55, hx56, h57⟩ := ob h54
      refine wl_indexAddr (t := tStr) (wg rfl rfl hb53) rfl Tryz.underlying23 tf9 rfl rfl (SliceAt.mono (hl19.trans hS48.le) hs4) hx56 ?_
      intro b58 o59 u60 hu61 ha62
      obtain ⟨rfl, hl63⟩ := hu61
      have ha64 : AtK _ b58 o59 [sv x55] := ha62
      refine wl_val (wg rfl rfl hb53) rfl (rv_load1 tf9 rfl hS50 (ha64 0 _ rfl)) ?_
      refine wl_val (wg rfl rfl hb53) rfl (rv_move rfl) ?_
      refine wl_val (wg rfl rfl hb53) rfl (rv_sgeq rfl rfl) ?_
      refine wl_val (wg rfl rfl hb51) rfl (rv_pick_t rfl hb53 rfl) ?_
      refine wl_val wn rfl (rv_pick_f rfl hb51 rfl) ?_
      refine wl_nil ?_
      obtain rfl := oi h57
      exact qe_mid' ⟨K46, rfl, hS50, hS48.le⟩ ⟨rfl, rfl, rfl, rfl, rfl, trivial⟩
     ·have h54 := cond_f hb53 h52
      refine wl_un (ug rfl rfl hb53) rfl ?_
      refine wl_un (ug rfl rfl hb53) rfl ?_
      refine wl_un (ug rfl rfl hb53) rfl ?_
      refine wl_un (ug rfl rfl hb53) rfl ?_
      refine wl_un (ug rfl rfl hb53) rfl ?_
      refine wl_un (ug rfl rfl hb53) rfl ?_
      refine wl_un (ug rfl rfl hb53) rfl ?_
      refine wl_val (wg rfl rfl hb51) rfl (rv_pick_f (v := .bool false) rfl hb53 rfl) ?_
      refine wl_val wn rfl (rv_pick_f rfl hb51 rfl) ?_
      refine wl_nil ?_
      obtain rfl := oi h54
      exact qe_mid' ⟨K46, rfl, hS50, hS48.le⟩ ⟨rfl, rfl, rfl, rfl, rfl, trivial⟩
   ·rintro _ w41 ⟨K39, rfl, hS42, hl40⟩
    refine qe_seq ?_
    refine wc_cond rfl (fun hb65 => ?_) (fun hb65 => ?_)
    ·have h66 := cond_t hb65 h38
     refine sr ?_
     refine wl_val wn rfl (rv_assign (v := .bool false) rfl) ?_
     refine nq ?_
     refine wc_ret ?_
     refine qe_block_ret ?_
     refine qe_then_ret ?_
     refine qe_then_ret ?_
     obtain rfl := oi h66
     have e67 := hx25 _ rfl
     subst e67
     refine qe_block_ret ?_
     refine qe_then_ret ?_
     obtain rfl := oi h16
     refine qe_then_ret ?_
     obtain rfl := oi h7
     exact qe_ret (vs := [_]) Tryz.results97 ⟨rfl, trivial⟩ ⟨K39, rfl, hS42⟩
    ·have h66 := cond_f hb65 h38
     refine wc_skip ?_
     refine qe_block ?_
     refine qg ?_
     refine wl_val wn rfl (rv_add_to rfl rfl (w64_succ hi23 (SliceAt.max hs4))) ?_
     refine vm rfl rfl ?_
     refine wl_nil ?_
     obtain rfl := oi h66
     exact qe_mid' ⟨_, rfl, K39, rfl, hS42, (hl19.trans hl40)⟩ ⟨rfl, rfl, rfl, rfl, trivial⟩
  ·rintro s13 _ w20 hr68 ⟨K18, rfl, hS21, hl19⟩
   subst hr68
   refine sr ?_
   refine wl_val wn rfl (rv_lss rfl rfl) ?_
   refine ns ?_
   refine wc_cond_f rfl (decide_eq_false (by omega)) ?_
   refine wc_exit ?_
   refine qe_then_exit ?_
   refine qe_then_exit ?_
   refine qe_block_eq ?_
   obtain rfl := oi h16
   exact qe_mid' ⟨_, K18, rfl, rfl, hS21, hl19⟩ trivial
 ·rintro _ w11 ⟨s8, K9, rfl, rfl, hS12, hl10⟩
  refine qr ?_
  refine wl_val wn rfl (rv_assign (v := .bool true) rfl) ?_
  refine nq ?_
  refine wc_ret ?_
  obtain rfl := oi h7
  exact qe_ret (vs := [_]) Tryz.results97 ⟨rfl, trivial⟩ ⟨K9, rfl, hS12⟩

set_option maxHeartbeats 2000000 in
theorem ok_impl_ConfOk (F : Nat) {w : World} {K : KMap} {a1 : Option Addr} {n2 c3 : Nat} {a5 : Option Addr} {n6 c7 : Nat} {p0_c : GConf} {r : Bool} (hS : SH w K [] w K []) (hs4 : SliceAt tStr K a1 n2 c3 p0_c.Stops) (hs8 : SliceAt tGSyn K a5 n6 c7 p0_c.Syns) (hm : M.impl_ConfOk F p0_c = some r) :
  Calls Tryz.prog 51 #[.agg #[.slice a1 n2 c3, .slice a5 n6 c7]] w fun e w' => ∃ (K' : KMap), e = .returned (.bool r) ∧ SH w K [] w' K' [] := by
 rw [M.impl_ConfOk] at hm
 refine calls_in Tryz.func51 rfl Tryz.ntmps51 rfl ?_
 refine sr ?_
 refine wl_box wn rfl rfl hS ?_
 intro g9 w10 hS11
 have hS12 : SH _ _ _ _ _ [obj g9 [.slice a1 n2 c3, .slice a5 n6 c7] 26] := hS11
 refine wl_val wn rfl (rv_assign (v := .bool false) rfl) ?_
 refine ns ?_
 refine wc_seq ?_
 obtain ⟨o13, h14, h15⟩ := ob hm
 refine wc_cutg (fun E' w' => ∃ (K16 : KMap), E' = [(1, .pointer (some ⟨g9, 0, none⟩)), (22, .bool o13)] ∧ SH w K [] w' K16 [obj g9 [.slice a1 n2 c3, .slice a5 n6 c7] 26] ∧ KLe K K16) ?_ ?_
 ·refine wc_region ?_
  refine wl_val wn rfl (rv_fieldAddr ff26_0 rfl) ?_
  refine wl_val wn rfl (rv_loadm1 tf23 rfl (.head _) hS12 rfl) ?_
  refine wl_val wn rfl (rv_len (t := tStr) Tryz.underlying23 rfl hs4) ?_
  refine wl_val wn rfl (rv_gtr rfl rfl) ?_
  refine vm rfl rfl ?_
  rcases bool_tf (decide ((6 : Int) < (p0_c.Stops.length : Int))) with hb20 | hb20
  ·have h21 := cond_t hb20 h14
   refine wl_un (ug rfl rfl hb20) rfl ?_
   refine wl_un (ug rfl rfl hb20) rfl ?_
   refine wl_un (ug rfl rfl hb20) rfl ?_
   refine wl_un (ug rfl rfl hb20) rfl ?_
   refine wl_val wn rfl (rv_pick_t (v := .bool true) rfl hb20 rfl) ?_
   refine vm rfl rfl ?_
   refine wl_un (ug rfl rfl rfl) rfl ?_
   refine wl_un (ug rfl rfl rfl) rfl ?_
   refine wl_un (ug rfl rfl rfl) rfl ?_
   refine wl_un (ug rfl rfl rfl) rfl ?_
   refine wl_val wn rfl (rv_pick_t (v := .bool true) rfl rfl rfl) ?_
   refine wl_nil ?_
   obtain rfl := oi h21
   exact qe_mid' ⟨K, rfl, hS12, (KLe.refl _)⟩ ⟨rfl, rfl, trivial⟩
  ·have h21 := cond_f hb20 h14
   refine wl_val (wg rfl rfl hb20) rfl (rv_fieldAddr ff26_0 rfl) ?_
   refine wl_val (wg rfl rfl hb20) rfl (rv_loadm1 tf23 rfl (.head _) hS12 rfl) ?_
   obtain ⟨r22, hx23, h24⟩ := ob h21
   refine wl_call (wg rfl rfl hb20) rfl (rt_call (vs := [.slice a1 n2 c3]) co97 rfl) ((ok_impl_wordsAscend F) hS12.enter0 hs4 hx23) ?_
   rintro e28 w26 ⟨K25, rfl, hS27⟩
   refine ⟨_, rfl, ?_⟩
   have hS29 : SH _ _ _ _ _ [_] := SH.call0 hS12 hS27
   refine wl_val (wg rfl rfl hb20) rfl (rv_not rfl) ?_
   refine wl_val wn rfl (rv_pick_f rfl hb20 rfl) ?_
   refine vm rfl rfl ?_
   rcases bool_tf ((!r22)) with hb30 | hb30
   ·have h31 := cond_t hb30 h24
    refine wl_un (ug rfl rfl hb30) rfl ?_
    refine wl_un (ug rfl rfl hb30) rfl ?_
    refine wl_un (ug rfl rfl hb30) rfl ?_
    refine wl_un (ug rfl rfl hb30) rfl ?_
    refine wl_val wn rfl (rv_pick_t (v := .bool true) rfl hb30 rfl) ?_
    refine wl_nil ?_
    obtain rfl := oi h31
    exact qe_mid' ⟨K25, rfl, hS29, hS27.le⟩ ⟨rfl, rfl, trivial⟩
   ·have h31 := cond_f hb30 h24
    refine wl_val (wg rfl rfl hb30) rfl (rv_fieldAddr ff26_1 rfl) ?_
    refine wl_val (wg rfl rfl hb30) rfl (rv_loadm1 tf24 rfl (.head _) hS29 rfl) ?_
    refine wl_val (wg rfl rfl hb30) rfl (rv_len (t := tGSyn) Tryz.underlying24 rfl (SliceAt.mono hS27.le hs8)) ?_
    refine wl_val (wg rfl rfl hb30) rfl (rv_gtr rfl rfl) ?_
    refine wl_val wn rfl (rv_pick_f rfl hb30 rfl) ?_
    refine wl_nil ?_
    obtain rfl := oi h31
    exact qe_mid' ⟨K25, rfl, hS29, hS27.le⟩ ⟨rfl, rfl, trivial⟩
 ·rintro _ w18 ⟨K16, rfl, hS19, hl17⟩
  refine qe_seq ?_
  refine wc_cond rfl (fun hb32 => ?_) (fun hb32 => ?_)
  ·have h33 := cond_t hb32 h15
   refine sr ?_
   refine wl_val wn rfl (rv_assign (v := .bool false) rfl) ?_
   refine nq ?_
   refine rr ?_
   obtain rfl := oi h33
   have hS34 : SH _ _ _ _ _ [] := SH.sublist hS19 (.cons _ .slnil)
   exact qe_ret (vs := [_]) Tryz.results51 ⟨rfl, trivial⟩ ⟨K16, rfl, hS34⟩
  ·have h33 := cond_f hb32 h15
   refine wc_skip ?_
   refine qs ?_
   refine sr ?_
   refine wl_val wn rfl (rv_fieldAddr ff26_1 rfl) ?_
   refine wl_val wn rfl (rv_loadm1 tf24 rfl (.head _) hS19 rfl) ?_
   refine wl_val wn rfl (rv_len (t := tGSyn) Tryz.underlying24 rfl (SliceAt.mono hl17 hs8)) ?_
   refine wl_val wn rfl (rv_move (v := .int .i64 0) rfl) ?_
   refine nq ?_
   obtain ⟨o35, h36, h37⟩ := ob h33
   refine wc_cutg (fun E' w' => ∃ (s38 : Unit) (K39 : KMap), o35 = .inl s38 ∧ E' = [] ∧ SH w K [] w' K39 [] ∧ KLe K16 K39) ?_ ?_
   ·refine wc_block ?_
    obtain ⟨r44, h45, h46⟩ := ob h36
    refine wc_for' (fun (i47 : Nat) (s43 : Unit) E' w' => ∃ (K48 : KMap), E' = [(1, .pointer (some ⟨g9, 0, none⟩)), (24, .slice a5 n6 c7), (25, .int .i64 (p0_c.Syns.length : Int)), (26, .int .i64 ((i47 : Nat) : Int))] ∧ SH w K [] w' K48 [obj g9 [.slice a1 n2 c3, .slice a5 n6 c7] 26] ∧ KLe K16 K48) h45 ⟨K16, rfl, hS19, (KLe.refl _)⟩ ⟨rfl, rfl, rfl, rfl, trivial⟩ ?_ ?_
    ·rintro i47 s43 _ w50 r52 hi53 h54 hx55 ⟨K48, rfl, hS51, hl49⟩
     refine sr ?_
     refine wl_val wn rfl (rv_lss rfl rfl) ?_
     refine ns ?_
     refine wc_cond_t rfl (decide_eq_true (by omega)) (wc_skip (qe_seq (wc_seq ?_)))
     refine wc_block ?_
     refine sr ?_
     obtain ⟨x56, hx57, h58⟩ := ob h54
     refine wl_indexAddr (t := tGSyn) wn rfl Tryz.underlying24 tf106 rfl rfl (SliceAt.mono (hl17.trans hl49) hs8) hx57 ?_
     intro b59 o60 u61 hu62 ha63
     obtain ⟨a64, n65, c66, rfl, hs67, hl68⟩ := hu62
     have ha69 : AtK _ b59 o60 [.slice a64 n65 c66, sv x56.To] := ha63
     refine wl_val wn rfl (rv_loadS (cs := [.slice a64 n65 c66, sv x56.To]) tf106 rfl hS51 ha69 rfl) ?_
     refine wl_alloc wn rfl tf106 hS51 ?_
     intro g70 w71 hS72
     have hS73 : SH _ _ _ _ _ [obj g70 [.slice none 0 0, sv []] 106, _] := hS72
     refine wl_store (cs' := [.slice a64 n65 c66, sv x56.To]) (v := .agg #[.slice a64 n65 c66, sv x56.To]) wn tf106 rfl rfl rfl (by simp [Value.cells, Value.oneCell', sv]) hS73 rfl rfl ?_
     intro w74 hS75
     refine ns ?_
     refine wc_seq ?_
     obtain ⟨o76, h77, h78⟩ := ob h58
     refine wc_cutg (fun E' w' => ∃ (K79 : KMap), E' = [(1, .pointer (some ⟨g9, 0, none⟩)), (4, .pointer (some ⟨g70, 0, none⟩)), (24, .slice a5 n6 c7), (25, .int .i64 (p0_c.Syns.length : Int)), (26, .int .i64 ((i47 : Nat) : Int)), (48, .bool o76)] ∧ SH w K [] w' K79 [obj g9 [.slice a1 n2 c3, .slice a5 n6 c7] 26, obj g70 [.slice a64 n65 c66, sv x56.To] 106] ∧ KLe K48 K79) ?_ ?_
     ·refine wc_quiet mixed (by kernel_rfl) hS75 ?_
      refine wq_val wn rfl (fun _ _ => (rv_fieldAddr ff106_0 rfl)) ?_
      refine wq_val wn rfl (rq_loadm1 tf23 rfl (.head _) rfl) ?_
      refine wq_val wn rfl (fun _ _ => (rv_len (t := tStr) Tryz.underlying23 rfl hs67)) ?_
      obtain ⟨r83, hx84, h85⟩ := ob h77
      refine wq_call (v := .bool r83) wn rfl (fun _ => rt_call (vs := [.int .i64 (x56.From.length : Int), .int .i64 1, .int .i64 3]) co98 rfl) (fun w88 ⟨K86, hS87, hl89⟩ => ((ok_impl_within F) hS87.enter0 (rng_nat (SliceAt.max hs67)) (by decide : rng64 1) (by decide : rng64 3) hx84).mono fun e w' ⟨K', he, hS'⟩ => ⟨he, K', hS87.call0 hS', hl89.trans hS'.le⟩) ?_
      refine wq_val wn rfl (fun _ _ => (rv_not rfl)) ?_
      refine qm rfl rfl ?_
      rcases bool_tf ((!r83)) with hb90 | hb90
      ·have h91 := cond_t hb90 h85
       refine wq_un (ug rfl rfl hb90) rfl ?_
       refine wq_un (ug rfl rfl hb90) rfl ?_
       refine wq_un (ug rfl rfl hb90) rfl ?_
       refine wq_un (ug rfl rfl hb90) rfl ?_
       refine wq_val wn rfl (fun _ _ => (rv_pick_t (v := .bool true) rfl hb90 rfl)) ?_
       refine qm rfl rfl ?_
       refine qv rfl rfl rfl rfl ?_
       refine qv rfl rfl rfl rfl ?_
       refine qv rfl rfl rfl rfl ?_
       refine qv rfl rfl rfl rfl ?_
       refine qv rfl rfl rfl rfl ?_
       refine qv rfl rfl rfl rfl ?_
       refine wq_val wn rfl (fun _ _ => (rv_pick_t (v := .bool true) rfl rfl rfl)) ?_
       refine wq_nil ?_
       rintro w93 ⟨K92, hS94, hl95⟩
       obtain rfl := oi h91
       have hS96 : SH _ _ _ _ _ [_, _] := SH.front (p := [_]) hS94
       exact qe_mid' ⟨K92, rfl, hS96, hl95⟩ ⟨rfl, rfl, rfl, rfl, rfl, rfl, trivial⟩
      ·have h91 := cond_f hb90 h85
       refine wq_val (wg rfl rfl hb90) rfl (fun _ _ => (rv_fieldAddr ff106_1 rfl)) ?_
       refine wq_val (wg rfl rfl hb90) rfl (rq_loadm1 tf9 rfl (.head _) rfl) ?_
       obtain ⟨r97, hx98, h99⟩ := ob h91
       refine wq_call (v := .bool r97) (wg rfl rfl hb90) rfl (fun _ => rt_call (vs := [sv x56.To]) co99 rfl) (fun w102 ⟨K100, hS101, hl103⟩ => ((ok_impl_WordOk F) hS101.enter0 hl68 hx98).mono fun e w' ⟨K', he, hS'⟩ => ⟨he, K', hS101.call0 hS', hl103.trans hS'.le⟩) ?_
       refine wq_val (wg rfl rfl hb90) rfl (fun _ _ => (rv_not rfl)) ?_
       refine wq_val wn rfl (fun _ _ => (rv_pick_f rfl hb90 rfl)) ?_
       refine qm rfl rfl ?_
       rcases bool_tf ((!r97)) with hb104 | hb104
       ·have h105 := cond_t hb104 h99
        refine wq_un (ug rfl rfl hb104) rfl ?_
        refine wq_un (ug rfl rfl hb104) rfl ?_
        refine wq_un (ug rfl rfl hb104) rfl ?_
        refine wq_un (ug rfl rfl hb104) rfl ?_
        refine wq_un (ug rfl rfl hb104) rfl ?_
        refine wq_un (ug rfl rfl hb104) rfl ?_
        refine wq_val wn rfl (fun _ _ => (rv_pick_t (v := .bool true) rfl hb104 rfl)) ?_
        refine wq_nil ?_
        rintro w107 ⟨K106, hS108, hl109⟩
        obtain rfl := oi h105
        have hS110 : SH _ _ _ _ _ [_, _] := SH.front (p := [_]) hS108
        exact qe_mid' ⟨K106, rfl, hS110, hl109⟩ ⟨rfl, rfl, rfl, rfl, rfl, rfl, trivial⟩
       ·have h105 := cond_f hb104 h99
        refine wq_val (wg rfl rfl hb104) rfl (fun _ _ => (rv_fieldAddr ff106_1 rfl)) ?_
        refine wq_val (wg rfl rfl hb104) rfl (rq_loadm1 tf9 rfl (.head _) rfl) ?_
        obtain ⟨r111, hx112, h113⟩ := ob h105
        refine wq_call (v := sv r111) (wg rfl rfl hb104) rfl (fun _ => rt_call (vs := [sv x56.To]) co57 rfl) (fun w116 ⟨K114, hS115, hl117⟩ => ((ok_impl_StemOf F) hS115.enter0 hl68 hx112).mono fun e w' ⟨K', he, hS', _⟩ => ⟨he, K', hS115.call0 hS', hl117.trans hS'.le⟩) ?_
        obtain ⟨_, _, _, ⟨_, _, _, hl118⟩, _⟩ := (ok_impl_StemOf F) hS75.enter0 hl68 hx112 []
        refine wq_val (wg rfl rfl hb104) rfl (fun _ _ => (rv_fieldAddr ff106_1 rfl)) ?_
        refine wq_val (wg rfl rfl hb104) rfl (rq_loadm1 tf9 rfl (.head _) rfl) ?_
        refine wq_val (wg rfl rfl hb104) rfl (fun _ _ => (rv_sneq rfl rfl)) ?_
        refine wq_val wn rfl (fun _ _ => (rv_pick_f rfl hb104 rfl)) ?_
        refine wq_nil ?_
        rintro w120 ⟨K119, hS121, hl122⟩
        obtain rfl := oi h113
        have hS123 : SH _ _ _ _ _ [_, _] := SH.front (p := [_]) hS121
        exact qe_mid' ⟨K119, rfl, hS123, hl122⟩ ⟨rfl, rfl, rfl, rfl, rfl, rfl, trivial⟩
     ·rintro _ w81 ⟨K79, rfl, hS82, hl80⟩
      refine qe_seq ?_
      refine wc_cond rfl (fun hb124 => ?_) (fun hb124 => ?_)
      ·have h125 := cond_t hb124 h78
       refine sr ?_
       refine wl_val wn rfl (rv_assign (v := .bool false) rfl) ?_
       refine nq ?_
       refine rr ?_
       refine qe_block_ret ?_
       refine qe_then_ret ?_
       refine qe_then_ret ?_
       obtain rfl := oi h125
       have e126 := hx55 _ rfl
       subst e126
       refine qe_block_ret ?_
       refine qe_then_ret ?_
       obtain rfl := oi h46
       refine qe_then_ret ?_
       obtain rfl := oi h37
       have hS127 : SH _ _ _ _ _ [] := SH.sublist hS82 (.cons _ (.cons _ .slnil))
       exact qe_ret (vs := [_]) Tryz.results51 ⟨rfl, trivial⟩ ⟨K79, rfl, hS127⟩
      ·have h125 := cond_f hb124 h78
       refine wc_skip ?_
       refine qr ?_
       refine wl_val wn rfl (rv_fieldAddr ff106_0 rfl) ?_
       refine wl_val wn rfl (rv_loadm1 tf23 rfl (.tail _ (.head _)) hS82 rfl) ?_
       refine wl_val wn rfl (rv_len (t := tStr) Tryz.underlying23 rfl (SliceAt.mono hl80 hs67)) ?_
       refine wl_val wn rfl (rv_move (v := .int .i64 0) rfl) ?_
       refine nq ?_
       obtain ⟨o128, h129, h130⟩ := ob h125
       refine wc_cutg (fun E' w' => ∃ (s131 : Unit) (K132 : KMap), o128 = .inl s131 ∧ E' = [(1, .pointer (some ⟨g9, 0, none⟩)), (24, .slice a5 n6 c7), (25, .int .i64 (p0_c.Syns.length : Int)), (26, .int .i64 ((i47 : Nat) : Int))] ∧ SH w K [] w' K132 [obj g9 [.slice a1 n2 c3, .slice a5 n6 c7] 26] ∧ KLe K79 K132) ?_ ?_
       ·refine wc_block ?_
        obtain ⟨r137, h138, h139⟩ := ob h129
        have hS145 : SH _ _ _ _ _ [_] := SH.sublist hS82 (.cons_cons _ (.cons _ .slnil))
        refine wc_for' (fun (i140 : Nat) (s136 : Unit) E' w' => ∃ (K141 : KMap), E' = [(1, .pointer (some ⟨g9, 0, none⟩)), (24, .slice a5 n6 c7), (25, .int .i64 (p0_c.Syns.length : Int)), (26, .int .i64 ((i47 : Nat) : Int)), (50, .slice a64 n65 c66), (51, .int .i64 (x56.From.length : Int)), (52, .int .i64 ((i140 : Nat) : Int))] ∧ SH w K [] w' K141 [obj g9 [.slice a1 n2 c3, .slice a5 n6 c7] 26] ∧ KLe K79 K141) h138 ⟨K79, rfl, hS145, (KLe.refl _)⟩ ⟨rfl, rfl, rfl, rfl, rfl, rfl, rfl, trivial⟩ ?_ ?_
        ·rintro i140 s136 _ w143 r146 hi147 h148 hx149 ⟨K141, rfl, hS144, hl142⟩
         refine sr ?_
         refine wl_val wn rfl (rv_lss rfl rfl) ?_
         refine ns ?_
         refine wc_cond_t rfl (decide_eq_true (by omega)) (wc_skip (qe_seq (wc_seq ?_)))
         refine wc_block ?_
         refine sr ?_
         obtain ⟨x150, hx151, h152⟩ := ob h148
         refine wl_indexAddr (t := tStr) wn rfl Tryz.underlying23 tf9 rfl rfl (SliceAt.mono (hl80.trans hl142) hs67) hx151 ?_
         intro b153 o154 u155 hu156 ha157
         obtain ⟨rfl, hl158⟩ := hu156
         have ha159 : AtK _ b153 o154 [sv x150] := ha157
         refine wl_val wn rfl (rv_load1 tf9 rfl hS144 (ha159 0 _ rfl)) ?_
         refine va rfl rfl ?_
         refine ns ?_
         obtain ⟨o160, h161, h162⟩ := ob h152
         refine wc_cutg (fun E' w' => ∃ (K163 : KMap), E' = [(1, .pointer (some ⟨g9, 0, none⟩)), (24, .slice a5 n6 c7), (25, .int .i64 (p0_c.Syns.length : Int)), (26, .int .i64 ((i47 : Nat) : Int)), (50, .slice a64 n65 c66), (51, .int .i64 (x56.From.length : Int)), (52, .int .i64 ((i140 : Nat) : Int)), (70, .bool o160)] ∧ SH w K [] w' K163 [obj g9 [.slice a1 n2 c3, .slice a5 n6 c7] 26] ∧ KLe K141 K163) ?_ ?_
         ·refine wc_region ?_
          refine vm rfl rfl ?_
          obtain ⟨r167, hx168, h169⟩ := ob h161
          refine wl_call wn rfl (rt_call (vs := [sv x150]) co99 rfl) ((ok_impl_WordOk F) hS144.enter0 hl158 hx168) ?_
          rintro e173 w171 ⟨K170, rfl, hS172⟩
          refine ⟨_, rfl, ?_⟩
          have hS174 : SH _ _ _ _ _ [_] := SH.call0 hS144 hS172
          refine wl_val wn rfl (rv_not rfl) ?_
          refine vm rfl rfl ?_
          rcases bool_tf ((!r167)) with hb175 | hb175
          ·have h176 := cond_t hb175 h169
           refine wl_un (ug rfl rfl hb175) rfl ?_
           refine wl_un (ug rfl rfl hb175) rfl ?_
           refine wl_un (ug rfl rfl hb175) rfl ?_
           refine wl_un (ug rfl rfl hb175) rfl ?_
           refine wl_val wn rfl (rv_pick_t (v := .bool true) rfl hb175 rfl) ?_
           refine vm rfl rfl ?_
           refine wl_un (ug rfl rfl rfl) rfl ?_
           refine wl_un (ug rfl rfl rfl) rfl ?_
           refine wl_un (ug rfl rfl rfl) rfl ?_
           refine wl_un (ug rfl rfl rfl) rfl ?_
           refine wl_val wn rfl (rv_pick_t (v := .bool true) rfl rfl rfl) ?_
           refine wl_nil ?_
           obtain rfl := oi h176
           exact qe_mid' ⟨K170, rfl, hS174, hS172.le⟩ ⟨rfl, rfl, rfl, rfl, rfl, rfl, rfl, rfl, trivial⟩
          ·have h176 := cond_f hb175 h169
           refine wl_val (wg rfl rfl hb175) rfl (rv_move rfl) ?_
           obtain ⟨r177, hx178, h179⟩ := ob h176
           refine wl_call (wg rfl rfl hb175) rfl (rt_call (vs := [sv x150]) co57 rfl) ((ok_impl_StemOf F) hS174.enter0 hl158 hx178) ?_
           rintro e184 w181 ⟨K180, rfl, hS182, hl183⟩
           refine ⟨_, rfl, ?_⟩
           have hS185 : SH _ _ _ _ _ [_] := SH.call0 hS174 hS182
           refine wl_val (wg rfl rfl hb175) rfl (rv_move rfl) ?_
           refine wl_val (wg rfl rfl hb175) rfl (rv_sneq rfl rfl) ?_
           refine wl_val wn rfl (rv_pick_f rfl hb175 rfl) ?_
           refine vm rfl rfl ?_
           rcases bool_tf ((!(r177 == x150))) with hb186 | hb186
           ·have h187 := cond_t hb186 h179
            refine wl_un (ug rfl rfl hb186) rfl ?_
            refine wl_un (ug rfl rfl hb186) rfl ?_
            refine wl_un (ug rfl rfl hb186) rfl ?_
            refine wl_un (ug rfl rfl hb186) rfl ?_
            refine wl_val wn rfl (rv_pick_t (v := .bool true) rfl hb186 rfl) ?_
            refine wl_nil ?_
            obtain rfl := oi h187
            exact qe_mid' ⟨K180, rfl, hS185, (hS172.le.trans hS182.le)⟩ ⟨rfl, rfl, rfl, rfl, rfl, rfl, rfl, rfl, trivial⟩
           ·have h187 := cond_f hb186 h179
            refine wl_val (wg rfl rfl hb186) rfl (rv_fieldAddr ff26_0 rfl) ?_
            refine wl_val (wg rfl rfl hb186) rfl (rv_loadm1 tf23 rfl (.head _) hS185 rfl) ?_
            refine wl_val (wg rfl rfl hb186) rfl (rv_move rfl) ?_
            obtain ⟨r188, hx189, h190⟩ := ob h187
            refine wl_call (wg rfl rfl hb186) rfl (rt_call (vs := [.slice a1 n2 c3, sv x150]) co58 rfl) ((ok_slices_Contains_string F) hS185.enter0 (SliceAt.mono (((((hl17.trans hl49).trans hl80).trans hl142).trans hS172.le).trans hS182.le) hs4) hl158 hx189) ?_
            rintro e194 w192 ⟨K191, rfl, hS193⟩
            refine ⟨_, rfl, ?_⟩
            have hS195 : SH _ _ _ _ _ [_] := SH.call0 hS185 hS193
            refine wl_val wn rfl (rv_pick_f rfl hb186 rfl) ?_
            refine wl_nil ?_
            obtain rfl := oi h190
            exact qe_mid' ⟨K191, rfl, hS195, ((hS172.le.trans hS182.le).trans hS193.le)⟩ ⟨rfl, rfl, rfl, rfl, rfl, rfl, rfl, rfl, trivial⟩
         ·rintro _ w165 ⟨K163, rfl, hS166, hl164⟩
          refine qe_seq ?_
          refine wc_cond rfl (fun hb196 => ?_) (fun hb196 => ?_)
          ·have h197 := cond_t hb196 h162
           refine sr ?_
           refine wl_val wn rfl (rv_assign (v := .bool false) rfl) ?_
           refine nq ?_
           refine wc_ret ?_
           refine qe_block_ret ?_
           refine qe_then_ret ?_
           refine qe_then_ret ?_
           obtain rfl := oi h197
           have e198 := hx149 _ rfl
           subst e198
           refine qe_block_ret ?_
           refine qe_then_ret ?_
           obtain rfl := oi h139
           refine qe_block_ret ?_
           refine qe_then_ret ?_
           refine qe_then_ret ?_
           obtain rfl := oi h130
           have e199 := hx55 _ rfl
           subst e199
           refine qe_block_ret ?_
           refine qe_then_ret ?_
           obtain rfl := oi h46
           refine qe_then_ret ?_
           obtain rfl := oi h37
           have hS200 : SH _ _ _ _ _ [] := SH.sublist hS166 (.cons _ .slnil)
           exact qe_ret (vs := [_]) Tryz.results51 ⟨rfl, trivial⟩ ⟨K163, rfl, hS200⟩
          ·have h197 := cond_f hb196 h162
           refine wc_skip ?_
           refine qe_block ?_
           refine qg ?_
           refine wl_val wn rfl (rv_add_to rfl rfl (w64_succ hi147 (SliceAt.max (SliceAt.mono hl80 hs67)))) ?_
           refine vm rfl rfl ?_
           refine wl_nil ?_
           obtain rfl := oi h197
           exact qe_mid' ⟨_, rfl, K163, rfl, hS166, (hl142.trans hl164)⟩ ⟨rfl, rfl, rfl, rfl, rfl, rfl, rfl, trivial⟩
        ·rintro s136 _ w143 hr201 ⟨K141, rfl, hS144, hl142⟩
         subst hr201
         refine sr ?_
         refine wl_val wn rfl (rv_lss rfl rfl) ?_
         refine ns ?_
         refine wc_cond_f rfl (decide_eq_false (by omega)) ?_
         refine wc_exit ?_
         refine qe_then_exit ?_
         refine qe_then_exit ?_
         refine qe_block_eq ?_
         obtain rfl := oi h139
         exact qe_mid' ⟨_, K141, rfl, rfl, hS144, hl142⟩ ⟨rfl, rfl, rfl, rfl, trivial⟩
       ·rintro _ w134 ⟨s131, K132, rfl, rfl, hS135, hl133⟩
        refine qe_block ?_
        refine qg ?_
        refine wl_val wn rfl (rv_add_to rfl rfl (w64_succ hi53 (SliceAt.max (SliceAt.mono hl17 hs8)))) ?_
        refine vm rfl rfl ?_
        refine wl_nil ?_
        obtain rfl := oi h130
        exact qe_mid' ⟨_, rfl, K132, rfl, hS135, ((hl49.trans hl80).trans hl133)⟩ ⟨rfl, rfl, rfl, rfl, trivial⟩
    ·rintro s43 _ w50 hr204 ⟨K48, rfl, hS51, hl49⟩
     subst hr204
     refine sr ?_
     refine wl_val wn rfl (rv_lss rfl rfl) ?_
     refine ns ?_
     refine wc_cond_f rfl (decide_eq_false (by omega)) ?_
     refine wc_exit ?_
     refine qe_then_exit ?_
     refine qe_then_exit ?_
     refine qe_block_eq ?_
     obtain rfl := oi h46
     have hS205 : SH _ _ _ _ _ [] := SH.sublist hS51 (.cons _ .slnil)
     exact qe_mid' ⟨_, K48, rfl, rfl, hS205, hl49⟩ trivial
   ·rintro _ w41 ⟨s38, K39, rfl, rfl, hS42, hl40⟩
    refine qr ?_
    refine wl_val wn rfl (rv_assign (v := .bool true) rfl) ?_
    refine nq ?_
    refine wc_ret ?_
    obtain rfl := oi h37
    exact qe_ret (vs := [_]) Tryz.results51 ⟨rfl, trivial⟩ ⟨K39, rfl, hS42⟩

theorem ok_impl_TextOk (F : Nat) {w : World} {K : KMap} {p0_s : Str} {r : Bool} (hS : SH w K [] w K []) (hl1 : p0_s.length ≤ maxLen) (hm : M.impl_TextOk F p0_s = some r) :
  Calls Tryz.prog 55 #[sv p0_s] w fun e w' => ∃ (K' : KMap), e = .returned (.bool r) ∧ SH w K [] w' K' [] := by
 rw [M.impl_TextOk] at hm
 refine calls_in Tryz.func55 rfl Tryz.ntmps55 rfl ?_
 refine sr ?_
 refine wl_val wn rfl (rv_assign (v := .bool false) rfl) ?_
 refine nsr ?_
 refine vm rfl rfl ?_
 refine wl_val wn rfl (rv_slen Tryz.underlying9 rfl) ?_
 refine wl_val wn rfl (rv_move (v := .int .i64 0) rfl) ?_
 refine nq ?_
 obtain ⟨o2, h3, h4⟩ := ob hm
 refine wc_cutg (fun E' w' => ∃ (s5 : Unit) (K6 : KMap), o2 = .inl s5 ∧ E' = [(0, sv p0_s)] ∧ SH w K [] w' K6 [] ∧ KLe K K6) ?_ ?_
 ·refine wc_block ?_
  obtain ⟨r11, h12, h13⟩ := ob h3
  refine wc_for' (fun (i14 : Nat) (s10 : Unit) E' w' => ∃ (K15 : KMap), E' = [(0, sv p0_s), (5, .int .i64 (p0_s.length : Int)), (6, .int .i64 ((i14 : Nat) : Int))] ∧ SH w K [] w' K15 [] ∧ KLe K K15) h12 ⟨K, rfl, hS, (KLe.refl _)⟩ ⟨rfl, rfl, rfl, trivial⟩ ?_ ?_
  ·rintro i14 s10 _ w17 r19 hi20 h21 hx22 ⟨K15, rfl, hS18, hl16⟩
   refine sr ?_
   refine wl_val wn rfl (rv_lss rfl rfl) ?_
   refine ns ?_
   refine wc_cond_t rfl (decide_eq_true (by omega)) (wc_skip (qe_seq (wc_seq ?_)))
   refine wc_block ?_
   refine sr ?_
   refine vm rfl rfl ?_
   refine va rfl rfl ?_
   refine ns ?_
   obtain ⟨o23, h24, h25⟩ := ob h21
   refine wc_cutg (fun E' w' => ∃ (K26 : KMap), E' = [(0, sv p0_s), (5, .int .i64 (p0_s.length : Int)), (6, .int .i64 ((i14 : Nat) : Int)), (18, .bool o23)] ∧ SH w K [] w' K26 [] ∧ KLe K15 K26) ?_ ?_
   ·refine wc_region ?_
    refine vm rfl rfl ?_
    refine vm rfl rfl ?_
    obtain ⟨x30, hx31, h32⟩ := ob h24
    refine wl_val wn rfl (rv_sidx Tryz.underlying9 rfl rfl hx31) ?_
    refine wl_val wn rfl (rv_bl (b := (32 : UInt8)) rfl rfl) ?_
    refine vm rfl rfl ?_
    rcases bool_tf (decide (x30 < (32 : UInt8))) with hb33 | hb33
    ·have h34 := cond_t hb33 h32
     refine wl_un (ug rfl rfl hb33) rfl ?_
     refine wl_un (ug rfl rfl hb33) rfl ?_
     refine wl_un (ug rfl rfl hb33) rfl ?_
     refine wl_un (ug rfl rfl hb33) rfl ?_
     refine wl_val wn rfl (rv_pick_t (v := .bool true) rfl hb33 rfl) ?_
     refine wl_nil ?_
     obtain rfl := oi h34
     exact qe_mid' ⟨K15, rfl, hS18, (KLe.refl _)⟩ ⟨rfl, rfl, rfl, rfl, trivial⟩
    ·have h34 := cond_f hb33 h32
     refine wl_val (wg rfl rfl hb33) rfl (rv_move rfl) ?_
     refine wl_val (wg rfl rfl hb33) rfl (rv_move rfl) ?_
     obtain ⟨x35, hx36, h37⟩ := ob h34
     refine wl_val (wg rfl rfl hb33) rfl (rv_sidx Tryz.underlying9 rfl rfl hx36) ?_
     refine wl_val (wg rfl rfl hb33) rfl (rv_bg (b := (126 : UInt8)) rfl rfl) ?_
     refine wl_val wn rfl (rv_pick_f rfl hb33 rfl) ?_
     refine wl_nil ?_
     obtain rfl := oi h37
     exact qe_mid' ⟨K15, rfl, hS18, (KLe.refl _)⟩ ⟨rfl, rfl, rfl, rfl, trivial⟩
   ·rintro _ w28 ⟨K26, rfl, hS29, hl27⟩
    refine qe_seq ?_
    refine wc_cond rfl (fun hb38 => ?_) (fun hb38 => ?_)
    ·have h39 := cond_t hb38 h25
     refine sr ?_
     refine wl_val wn rfl (rv_assign (v := .bool false) rfl) ?_
     refine nq ?_
     refine wc_ret ?_
     refine qe_block_ret ?_
     refine qe_then_ret ?_
     refine qe_then_ret ?_
     obtain rfl := oi h39
     have e40 := hx22 _ rfl
     subst e40
     refine qe_block_ret ?_
     refine qe_then_ret ?_
     obtain rfl := oi h13
     refine qe_then_ret ?_
     obtain rfl := oi h4
     exact qe_ret (vs := [_]) Tryz.results55 ⟨rfl, trivial⟩ ⟨K26, rfl, hS29⟩
    ·have h39 := cond_f hb38 h25
     refine wc_skip ?_
     refine qe_block ?_
     refine qg ?_
     refine wl_val wn rfl (rv_add_to rfl rfl (w64_succ hi20 hl1)) ?_
     refine vm rfl rfl ?_
     refine wl_nil ?_
     obtain rfl := oi h39
     exact qe_mid' ⟨_, rfl, K26, rfl, hS29, (hl16.trans hl27)⟩ ⟨rfl, rfl, rfl, trivial⟩
  ·rintro s10 _ w17 hr41 ⟨K15, rfl, hS18, hl16⟩
   subst hr41
   refine sr ?_
   refine wl_val wn rfl (rv_lss rfl rfl) ?_
   refine ns ?_
   refine wc_cond_f rfl (decide_eq_false (by omega)) ?_
   refine wc_exit ?_
   refine qe_then_exit ?_
   refine qe_then_exit ?_
   refine qe_block_eq ?_
   obtain rfl := oi h13
   exact qe_mid' ⟨_, K15, rfl, rfl, hS18, hl16⟩ ⟨rfl, trivial⟩
 ·rintro _ w8 ⟨s5, K6, rfl, rfl, hS9, hl7⟩
  refine qr ?_
  refine vm rfl rfl ?_
  refine wl_val wn rfl (rv_slen Tryz.underlying9 rfl) ?_
  refine wl_val wn rfl (rv_leq rfl rfl) ?_
  refine va rfl rfl ?_
  refine nq ?_
  refine wc_ret ?_
  obtain rfl := oi h4
  exact qe_ret (vs := [_]) Tryz.results55 ⟨rfl, trivial⟩ ⟨K6, rfl, hS9⟩

theorem ok_impl_lower (F : Nat) {w : World} {K : KMap} {p0_b : UInt8} {r : UInt8} (hS : SH w K [] w K []) (hm : M.impl_lower F p0_b = some r) :
  Calls Tryz.prog 103 #[iv8 p0_b] w fun e w' => ∃ (K' : KMap), e = .returned (iv8 r) ∧ SH w K [] w' K' [] := by
 rw [M.impl_lower] at hm
 refine calls_in Tryz.func103 rfl Tryz.ntmps103 rfl ?_
 refine sr ?_
 refine wl_val wn rfl (rv_assign (v := iv8 0) rfl) ?_
 refine ns ?_
 refine wc_seq ?_
 obtain ⟨o1, h2, h3⟩ := ob hm
 refine wc_cutg (fun E' w' => ∃ (K4 : KMap), E' = [(0, iv8 p0_b), (8, .bool o1)] ∧ SH w K [] w' K4 [] ∧ KLe K K4) ?_ ?_
 ·refine wc_region ?_
  refine vm rfl rfl ?_
  refine wl_val wn rfl (rv_bge (b := (65 : UInt8)) rfl rfl) ?_
  refine vm rfl rfl ?_
  rcases bool_tf (decide ((65 : UInt8) ≤ p0_b)) with hb8 | hb8
  ·have h9 := cond_t hb8 h2
   refine wl_val (wg rfl rfl hb8) rfl (rv_move rfl) ?_
   refine wl_val (wg rfl rfl hb8) rfl (rv_ble (b := (90 : UInt8)) rfl rfl) ?_
   refine wl_val wn rfl (rv_pick_t rfl hb8 rfl) ?_
   refine wl_nil ?_
   obtain rfl := oi h9
   exact qe_mid' ⟨K, rfl, hS, (KLe.refl _)⟩ ⟨rfl, rfl, trivial⟩
  ·have h9 := cond_f hb8 h2
   refine wl_un (ug rfl rfl hb8) rfl ?_
   refine wl_un (ug rfl rfl hb8) rfl ?_
   refine wl_val wn rfl (rv_pick_f (v := .bool false) rfl hb8 rfl) ?_
   refine wl_nil ?_
   obtain rfl := oi h9
   exact qe_mid' ⟨K, rfl, hS, (KLe.refl _)⟩ ⟨rfl, rfl, trivial⟩
 ·rintro _ w6 ⟨K4, rfl, hS7, hl5⟩
  refine qe_seq ?_
  refine wc_cond rfl (fun hb10 => ?_) (fun hb10 => ?_)
  ·have h11 := cond_t hb10 h3
   refine sr ?_
   refine vm rfl rfl ?_
   refine wl_val wn rfl (rv_badd (b := (97 : UInt8)) rfl rfl) ?_
   refine wl_val wn rfl (rv_bsub (b := (65 : UInt8)) rfl rfl) ?_
   refine va rfl rfl ?_
   refine nq ?_
   refine rr ?_
   obtain rfl := oi h11
   exact qe_ret (vs := [_]) Tryz.results103 ⟨rfl, trivial⟩ ⟨K4, rfl, hS7⟩
  ·have h11 := cond_f hb10 h3
   refine wc_skip ?_
   refine qr ?_
   refine vm rfl rfl ?_
   refine va rfl rfl ?_
   refine nq ?_
   refine wc_ret ?_
   obtain rfl := oi h11
   exact qe_ret (vs := [_]) Tryz.results103 ⟨rfl, trivial⟩ ⟨K4, rfl, hS7⟩

set_option maxHeartbeats 2000000 in
theorem ok_impl_WordsOf (F : Nat) {w : World} {K : KMap} {p0_s : Str} {r : (List GWord)} (hS : SH w K [] w K []) (hl1 : p0_s.length ≤ maxLen) (hm : M.impl_WordsOf F p0_s = some r) :
  Calls Tryz.prog 56 #[sv p0_s] w fun e w' => ∃ (a_1 : Option Addr) (n_2 c_3 : Nat) (K' : KMap), e = .returned (.slice a_1 n_2 c_3) ∧ SH w K [] w' K' [tail (.slice a_1 n_2 c_3) 100 4] ∧ SliceAt tGWord K' a_1 n_2 c_3 r := by
 rw [M.impl_WordsOf] at hm
 refine calls_in Tryz.func56 rfl Tryz.ntmps56 rfl ?_
 refine sr ?_
 refine wl_val wn rfl (rv_assign (v := .slice none 0 0) rfl) ?_
 refine nr ?_
 refine wl_buildSlice0 tGWord wn rfl Tryz.underlying97 tf100 hS ?_
 intro a2 w3 K4 hl5 hs6 hS7
 refine va rfl rfl ?_
 refine nsr ?_
 refine vm rfl rfl ?_
 obtain ⟨r8, hx9, h10⟩ := ob hm
 refine wl_call wn rfl (rt_call (vs := [sv p0_s]) co55 rfl) ((ok_impl_TextOk F) hS7.enter0 hl1 hx9) ?_
 rintro e14 w12 ⟨K11, rfl, hS13⟩
 refine ⟨_, rfl, ?_⟩
 have hS15 : SH _ _ _ _ _ [_] := SH.call0 hS7 hS13
 refine wl_val wn rfl (rv_not rfl) ?_
 refine nq ?_
 refine wc_cond rfl (fun hb16 => ?_) (fun hb16 => ?_)
 ·have h17 := cond_t hb16 h10
  refine sr ?_
  refine vm rfl rfl ?_
  refine va rfl rfl ?_
  refine nq ?_
  refine rr ?_
  obtain rfl := oi h17
  exact qe_ret (vs := [_]) Tryz.results56 ⟨rfl, trivial⟩ ⟨a2, 0, 0, K11, rfl, hS15, (SliceAt.mono hS13.le hs6)⟩
 ·have h17 := cond_f hb16 h10
  refine wc_skip ?_
  refine qs ?_
  refine sr ?_
  refine wl_val wn rfl (rv_assign (v := .int .i64 0) rfl) ?_
  refine nq ?_
  obtain ⟨o18, h19, h20⟩ := ob h17
  refine wc_cutg (fun E' w' => ∃ (a25 : Option Addr) (n26 c27 : Nat) (K21 : KMap), E' = [(3, .slice a25 n26 c27)] ∧ SH w K [] w' K21 [tail (.slice a25 n26 c27) 100 4] ∧ KLe K11 K21 ∧ SliceAt tGWord K21 a25 n26 c27 o18) ?_ ?_
  ·refine wc_block ?_
   obtain ⟨r30, h31, h32⟩ := ob h19
   refine wc_while' (fun (s29 : (List GWord) × Int) E' w' => ∃ (a37 : Option Addr) (n38 c39 : Nat) (K33 : KMap), E' = [(0, sv p0_s), (3, .slice a37 n38 c39), (4, .int .i64 s29.2)] ∧ SH w K [] w' K33 [tail (.slice a37 n38 c39) 100 4] ∧ KLe K11 K33 ∧ SliceAt tGWord K33 a37 n38 c39 s29.1 ∧ rng64 s29.2) h31 ⟨a2, 0, 0, K11, rfl, hS15, (KLe.refl _), (SliceAt.mono hS13.le hs6), (by decide : rng64 0)⟩ ⟨rfl, rfl, rfl, trivial⟩ ?_
   rintro s29 _ w35 r42 h43 hx44 ⟨a37, n38, c39, K33, rfl, hS36, hl34, hs40, hr41⟩
   refine wc_seq ?_
   refine sr ?_
   refine vm rfl rfl ?_
   refine vm rfl rfl ?_
   refine wl_val wn rfl (rv_slen Tryz.underlying9 rfl) ?_
   refine wl_val wn rfl (rv_lss rfl rfl) ?_
   refine nq ?_
   refine wc_cond rfl (fun hb45 => ?_) (fun hb45 => ?_)
   ·have h46 := cond_t hb45 h43
    refine wc_skip ?_
    refine qe_seq ?_
    refine wc_block ?_
    refine wc_seq ?_
    refine sr ?_
    refine vm rfl rfl ?_
    refine vm rfl rfl ?_
    obtain ⟨x47, hx48, h49⟩ := ob h46
    refine wl_val wn rfl (rv_sidx Tryz.underlying9 rfl rfl hx48) ?_
    obtain ⟨r50, hx51, h52⟩ := ob h49
    refine wl_call wn rfl (rt_call (vs := [iv8 x47]) co103 rfl) ((ok_impl_lower F) hS36.enter0  hx51) ?_
    rintro e56 w54 ⟨K53, rfl, hS55⟩
    refine ⟨_, rfl, ?_⟩
    have hS57 : SH _ _ _ _ _ [_] := SH.call0 hS36 hS55
    obtain ⟨r58, hx59, h60⟩ := ob h52
    refine wl_call wn rfl (rt_call (vs := [iv8 r50]) co102 rfl) ((ok_impl_wordByte F) hS57.enter0  hx59) ?_
    rintro e64 w62 ⟨K61, rfl, hS63⟩
    refine ⟨_, rfl, ?_⟩
    have hS65 : SH _ _ _ _ _ [_] := SH.call0 hS57 hS63
    refine wl_val wn rfl (rv_not rfl) ?_
    refine nq ?_
    refine wc_cond rfl (fun hb66 => ?_) (fun hb66 => ?_)
    ·have h67 := cond_t hb66 h60
     refine sr ?_
     refine vm rfl rfl ?_
     refine wl_val wn rfl (rv_add rfl rfl) ?_
     refine va rfl rfl ?_
     refine nq ?_
     refine wc_exit ?_
     refine qe_then_exit ?_
     refine qe_block_eq ?_
     obtain rfl := oi h67
     exact qe_mid' ⟨_, rfl, a37, n38, c39, K61, rfl, hS65, ((hl34.trans hS55.le).trans hS63.le), (SliceAt.mono (hS55.le.trans hS63.le) hs40), (w64_rng _)⟩ ⟨rfl, rfl, rfl, trivial⟩
    ·have h67 := cond_f hb66 h60
     refine wc_skip ?_
     refine qr ?_
     refine vm rfl rfl ?_
     refine wl_val wn rfl (rv_len (t := tGWord) Tryz.underlying97 rfl (SliceAt.mono (hS55.le.trans hS63.le) hs40)) ?_
     refine vm rfl rfl ?_
     refine wl_val wn rfl (rv_build (cs := #[sv [], .int .i64 (s29.1.length : Int), .int .i64 s29.2, .int .i64 0]) sp100 tf100 rfl (by kernel_rfl)) ?_
     refine wl_alloc wn rfl tf100 hS65 ?_
     intro g68 w69 hS70
     have hS71 : SH _ _ _ _ _ [obj g68 [sv [], .int .i64 0, .int .i64 0, .int .i64 0] 100, _] := hS70
     refine wl_store (cs' := [sv [], .int .i64 (s29.1.length : Int), .int .i64 s29.2, .int .i64 0]) (v := .agg #[sv [], .int .i64 (s29.1.length : Int), .int .i64 s29.2, .int .i64 0]) wn tf100 rfl rfl rfl (by simp [Value.cells, Value.oneCell', sv]) hS71 rfl rfl ?_
     intro w72 hS73
     refine nr ?_
     refine wl_buildSlice0 tU8 wn rfl Tryz.underlying22 tf5 hS73 ?_
     intro a74 w75 K76 hl77 hs78 hS79
     refine va rfl rfl ?_
     refine ns ?_
     obtain ⟨o80, h81, h82⟩ := ob h67
     refine wc_cutg (fun E' w' => ∃ (a88 : Option Addr) (n89 c90 : Nat) (K83 : KMap), E' = [(0, sv p0_s), (3, .slice a37 n38 c39), (4, .int .i64 o80.1), (5, .pointer (some ⟨g68, 0, none⟩)), (6, .slice a88 n89 c90)] ∧ SH w K [] w' K83 [obj g68 [sv [], .int .i64 (s29.1.length : Int), .int .i64 s29.2, .int .i64 0] 100, tail (.slice a37 n38 c39) 100 4, tail (.slice a88 n89 c90) 5 1] ∧ KLe K76 K83 ∧ rng64 o80.1 ∧ SliceAt tU8 K83 a88 n89 c90 o80.2) ?_ ?_
     ·refine wc_block ?_
      obtain ⟨r93, h94, h95⟩ := ob h81
      have hS105 : SH _ _ _ _ _ [_, _, _] := SH.front (p := [_, _]) hS79
      have hS106 : SH _ _ _ _ _ [_, _, _] := SH.front (p := [_, _]) hS105
      refine wc_while' (fun (s92 : Int × (List UInt8)) E' w' => ∃ (a101 : Option Addr) (n102 c103 : Nat) (K96 : KMap), E' = [(0, sv p0_s), (3, .slice a37 n38 c39), (4, .int .i64 s92.1), (5, .pointer (some ⟨g68, 0, none⟩)), (6, .slice a101 n102 c103)] ∧ SH w K [] w' K96 [obj g68 [sv [], .int .i64 (s29.1.length : Int), .int .i64 s29.2, .int .i64 0] 100, tail (.slice a37 n38 c39) 100 4, tail (.slice a101 n102 c103) 5 1] ∧ KLe K76 K96 ∧ rng64 s92.1 ∧ SliceAt tU8 K96 a101 n102 c103 s92.2) h94 ⟨a74, 0, 0, K76, rfl, hS106, (KLe.refl _), hr41, hs78⟩ ⟨rfl, rfl, rfl, rfl, rfl, trivial⟩ ?_
      rintro s92 _ w98 r107 h108 hx109 ⟨a101, n102, c103, K96, rfl, hS99, hl97, hr100, hs104⟩
      refine wc_seq ?_
      refine wc_seq ?_
      obtain ⟨o110, h111, h112⟩ := ob h108
      refine wc_cutg (fun E' w' => ∃ (K113 : KMap), E' = [(0, sv p0_s), (3, .slice a37 n38 c39), (4, .int .i64 s92.1), (5, .pointer (some ⟨g68, 0, none⟩)), (6, .slice a101 n102 c103), (39, .bool o110)] ∧ SH w K [] w' K113 [obj g68 [sv [], .int .i64 (s29.1.length : Int), .int .i64 s29.2, .int .i64 0] 100, tail (.slice a37 n38 c39) 100 4, tail (.slice a101 n102 c103) 5 1] ∧ KLe K96 K113) ?_ ?_
      ·refine wc_region ?_
       refine vm rfl rfl ?_
       refine vm rfl rfl ?_
       refine wl_val wn rfl (rv_slen Tryz.underlying9 rfl) ?_
       refine wl_val wn rfl (rv_lss rfl rfl) ?_
       refine vm rfl rfl ?_
       rcases bool_tf (decide (s92.1 < (p0_s.length : Int))) with hb117 | hb117
       ·have h118 := cond_t hb117 h111
        refine wl_val (wg rfl rfl hb117) rfl (rv_move rfl) ?_
        refine wl_val (wg rfl rfl hb117) rfl (rv_move rfl) ?_
        obtain ⟨x119, hx120, h121⟩ := ob h118
        refine wl_val (wg rfl rfl hb117) rfl (rv_sidx Tryz.underlying9 rfl rfl hx120) ?_
        obtain ⟨r122, hx123, h124⟩ := ob h121
        refine wl_call (wg rfl rfl hb117) rfl (rt_call (vs := [iv8 x119]) co103 rfl) ((ok_impl_lower F) hS99.enter0  hx123) ?_
        rintro e128 w126 ⟨K125, rfl, hS127⟩
        refine ⟨_, rfl, ?_⟩
        have hS129 : SH _ _ _ _ _ [_, _, _] := SH.call0 hS99 hS127
        obtain ⟨r130, hx131, h132⟩ := ob h124
        refine wl_call (wg rfl rfl hb117) rfl (rt_call (vs := [iv8 r122]) co102 rfl) ((ok_impl_wordByte F) hS129.enter0  hx131) ?_
        rintro e136 w134 ⟨K133, rfl, hS135⟩
        refine ⟨_, rfl, ?_⟩
        have hS137 : SH _ _ _ _ _ [_, _, _] := SH.call0 hS129 hS135
        refine wl_val wn rfl (rv_pick_t rfl hb117 rfl) ?_
        refine wl_nil ?_
        obtain rfl := oi h132
        exact qe_mid' ⟨K133, rfl, hS137, (hS127.le.trans hS135.le)⟩ ⟨rfl, rfl, rfl, rfl, rfl, rfl, trivial⟩
       ·have h118 := cond_f hb117 h111
        refine wl_un (ug rfl rfl hb117) rfl ?_
        refine wl_un (ug rfl rfl hb117) rfl ?_
        refine wl_un (ug rfl rfl hb117) rfl ?_
        refine wl_un (ug rfl rfl hb117) rfl ?_
        refine wl_un (ug rfl rfl hb117) rfl ?_
        refine wl_val wn rfl (rv_pick_f (v := .bool false) rfl hb117 rfl) ?_
        refine wl_nil ?_
        obtain rfl := oi h118
        exact qe_mid' ⟨K96, rfl, hS99, (KLe.refl _)⟩ ⟨rfl, rfl, rfl, rfl, rfl, rfl, trivial⟩
      ·rintro _ w115 ⟨K113, rfl, hS116, hl114⟩
       refine qe_seq ?_
       refine wc_cond rfl (fun hb138 => ?_) (fun hb138 => ?_)
       ·have h139 := cond_t hb138 h112
        refine wc_skip ?_
        refine qe_seq ?_
        refine wc_block ?_
        refine wc_seq ?_
        refine sr ?_
        refine vm rfl rfl ?_
        refine wl_val wn rfl (rv_len (t := tU8) Tryz.underlying22 rfl (SliceAt.mono hl114 hs104)) ?_
        refine wl_val wn rfl (rv_lss rfl rfl) ?_
        refine nq ?_
        refine wc_cond rfl (fun hb140 => ?_) (fun hb140 => ?_)
        ·have h141 := cond_t hb140 h139
         refine wc_region ?_
         refine vm rfl rfl ?_
         refine vm rfl rfl ?_
         refine vm rfl rfl ?_
         obtain ⟨x142, hx143, h144⟩ := ob h141
         refine wl_val wn rfl (rv_sidx Tryz.underlying9 rfl rfl hx143) ?_
         obtain ⟨r145, hx146, h147⟩ := ob h144
         refine wl_call wn rfl (rt_call (vs := [iv8 x142]) co103 rfl) ((ok_impl_lower F) hS116.enter0  hx146) ?_
         rintro e151 w149 ⟨K148, rfl, hS150⟩
         refine ⟨_, rfl, ?_⟩
         have hS152 : SH _ _ _ _ _ [_, _, _] := SH.call0 hS116 hS150
         refine wl_buildSlice (t := tU8) (n := 1) (pv := [(0, iv8 r145)]) (cs := [iv8 r145]) (xs := [r145]) wn rfl Tryz.underlying22 tf5 rfl rfl rfl (by kernel_rfl) rfl rfl (lit_cons (u := iv8 r145) (z := r145) rfl lit_nil) hS152 ?_
         intro a153 w154 K155 hl156 hs157 hS158
         have hS159 : SH _ _ _ _ _ [_, _, _, _] := SH.front (p := [_, _, _]) hS158
         obtain ⟨x160, hx161, h162⟩ := ob h147
         refine wl_append (t := tU8) wn rfl Tryz.underlying22 tf5 rfl rfl rfl rfl rfl (SliceAt.mono ((hl114.trans hS150.le).trans hl156) hs104) hs157 hx161 hS159 ?_
         intro a163 n164 c165 w166 K167 hl168 hs169 hS170
         refine va rfl rfl ?_
         refine nq ?_
         refine wc_region ?_
         refine vm rfl rfl ?_
         refine wl_val wn rfl (rv_add rfl rfl) ?_
         refine va rfl rfl ?_
         refine nb ?_
         obtain rfl := oi h162
         have hS171 : SH _ _ _ _ _ [_, _, _, _] := SH.front (p := [_, _, _]) hS170
         have hS172 : SH _ _ _ _ _ [_, _, _, _] := SH.front (p := [_, _, _]) hS171
         have hS173 : SH _ _ _ _ _ [_, _, _] := SH.sublist hS172 (.cons_cons _ (.cons_cons _ (.cons_cons _ (.cons _ .slnil))))
         exact qe_mid' ⟨_, rfl, a163, n164, c165, K167, rfl, hS173, ((((hl97.trans hl114).trans hS150.le).trans hl156).trans hl168), (w64_rng _), hs169⟩ ⟨rfl, rfl, rfl, rfl, rfl, trivial⟩
        ·have h141 := cond_f hb140 h139
         refine wc_skip ?_
         refine qe_seq ?_
         refine wc_region ?_
         refine vm rfl rfl ?_
         refine wl_val wn rfl (rv_add rfl rfl) ?_
         refine va rfl rfl ?_
         refine nb ?_
         obtain rfl := oi h141
         exact qe_mid' ⟨_, rfl, a101, n102, c103, K113, rfl, hS116, (hl97.trans hl114), (w64_rng _), (SliceAt.mono hl114 hs104)⟩ ⟨rfl, rfl, rfl, rfl, rfl, trivial⟩
       ·have h139 := cond_f hb138 h112
        refine wc_exit ?_
        refine qe_then_exit ?_
        refine qe_then_exit ?_
        obtain rfl := oi h139
        have e174 := hx109 _ rfl
        subst e174
        refine qe_block_eq ?_
        obtain rfl := oi h95
        exact qe_mid' ⟨a101, n102, c103, K113, rfl, hS116, (hl97.trans hl114), hr100, (SliceAt.mono hl114 hs104)⟩ ⟨rfl, rfl, rfl, rfl, rfl, trivial⟩
     ·rintro _ w85 ⟨a88, n89, c90, K83, rfl, hS86, hl84, hr87, hs91⟩
      refine qr ?_
      refine vm rfl rfl ?_
      refine wl_val wn rfl (rv_b2s Tryz.underlying22 Tryz.underlying5 Tryz.underlying9 rfl hs91 hS86) ?_
      refine vm rfl rfl ?_
      refine wl_val wn rfl (rv_fieldAddr ff100_0 rfl) ?_
      refine wl_store (cs' := [sv o80.2, .int .i64 (s29.1.length : Int), .int .i64 s29.2, .int .i64 0]) (v := sv o80.2) wn tf9 rfl rfl rfl (by simp [Value.cells, Value.oneCell', sv]) hS86 rfl rfl ?_
      intro w175 hS176
      refine wl_val wn rfl (rv_fieldAddr ff100_3 rfl) ?_
      refine wl_store (cs' := [sv o80.2, .int .i64 (s29.1.length : Int), .int .i64 s29.2, .int .i64 o80.1]) (v := .int .i64 o80.1) wn tf3 rfl rfl rfl (by simp [Value.cells, Value.oneCell']) hS176 rfl rfl ?_
      intro w177 hS178
      refine nq ?_
      refine wc_region ?_
      refine vm rfl rfl ?_
      refine wl_val wn rfl (rv_loadmS (ds := [sv o80.2, .int .i64 (s29.1.length : Int), .int .i64 s29.2, .int .i64 o80.1]) tf100 rfl (.head _) hS178 rfl rfl) ?_
      refine wl_buildSlice (t := tGWord) (n := 1) (pv := [(0, .agg #[sv o80.2, .int .i64 (s29.1.length : Int), .int .i64 s29.2, .int .i64 o80.1])]) (cs := [sv o80.2, .int .i64 (s29.1.length : Int), .int .i64 s29.2, .int .i64 o80.1]) (xs := [(GWord.mk o80.2 (s29.1.length : Int) s29.2 o80.1)]) wn rfl Tryz.underlying97 tf100 rfl rfl rfl (by kernel_rfl) rfl rfl (lit_cons (u := .agg #[sv o80.2, .int .i64 (s29.1.length : Int), .int .i64 s29.2, .int .i64 o80.1]) (z := (GWord.mk o80.2 (s29.1.length : Int) s29.2 o80.1)) ⟨rfl, (SliceAt.max hs91), (rng_nat (SliceAt.max (SliceAt.mono (hS55.le.trans hS63.le) hs40))), hr41, hr87⟩ lit_nil) hS178 ?_
      intro a179 w180 K181 hl182 hs183 hS184
      have hS185 : SH _ _ _ _ _ [_, _, _, _] := SH.front (p := [_, _]) hS184
      obtain ⟨x186, hx187, h188⟩ := ob h82
      refine wl_append (t := tGWord) wn rfl Tryz.underlying97 tf100 rfl rfl rfl rfl rfl (SliceAt.mono ((((hS55.le.trans hS63.le).trans hl77).trans hl84).trans hl182) hs40) hs183 hx187 hS185 ?_
      intro a189 n190 c191 w192 K193 hl194 hs195 hS196
      refine va rfl rfl ?_
      refine nb ?_
      obtain rfl := oi h188
      have hS197 : SH _ _ _ _ _ [_] := SH.sublist hS196 (.cons_cons _ (.cons _ (.cons _ (.cons _ .slnil))))
      exact qe_mid' ⟨_, rfl, a189, n190, c191, K193, rfl, hS197, ((((((hl34.trans hS55.le).trans hS63.le).trans hl77).trans hl84).trans hl182).trans hl194), hs195, hr87⟩ ⟨rfl, rfl, rfl, trivial⟩
   ·have h46 := cond_f hb45 h43
    refine wc_exit ?_
    refine qe_then_exit ?_
    refine qe_then_exit ?_
    obtain rfl := oi h46
    have e198 := hx44 _ rfl
    subst e198
    refine qe_block_eq ?_
    obtain rfl := oi h32
    exact qe_mid' ⟨a37, n38, c39, K33, rfl, hS36, hl34, hs40⟩ ⟨rfl, trivial⟩
  ·rintro _ w23 ⟨a25, n26, c27, K21, rfl, hS24, hl22, hs28⟩
   refine qr ?_
   refine vm rfl rfl ?_
   refine va rfl rfl ?_
   refine nq ?_
   refine wc_ret ?_
   obtain rfl := oi h20
   exact qe_ret (vs := [_]) Tryz.results56 ⟨rfl, trivial⟩ ⟨a25, n26, c27, K21, rfl, hS24, hs28⟩

set_option maxHeartbeats 2000000 in
theorem ok_impl_ruleAt (F : Nat) {w : World} {K : KMap} {a1 : Option Addr} {n2 c3 : Nat} {a5 : Option Addr} {n6 c7 : Nat} {a9 : Option Addr} {n10 c11 : Nat} {p0_c : GConf} {p1_terms : List GTerm} {p2_at : Int} {r : (Option GSyn)} (hS : SH w K [] w K []) (hs4 : SliceAt tStr K a1 n2 c3 p0_c.Stops) (hs8 : SliceAt tGSyn K a5 n6 c7 p0_c.Syns) (hs12 : SliceAt tGTerm K a9 n10 c11 p1_terms) (hr13 : rng64 p2_at) (hm : M.impl_ruleAt F p0_c p1_terms p2_at = some r) :
  Calls Tryz.prog 59 #[.agg #[.slice a1 n2 c3, .slice a5 n6 c7], .slice a9 n10 c11, .int .i64 p2_at] w fun e w' => ∃ (v_1 : Value) (K' : KMap), e = .returned (v_1) ∧ SH w K [] w' K' [] ∧ PtrO tGSyn K' v_1 r := by
 rw [M.impl_ruleAt] at hm
 refine calls_in Tryz.func59 rfl Tryz.ntmps59 rfl ?_
 refine sr ?_
 refine wl_box wn rfl rfl hS ?_
 intro g14 w15 hS16
 have hS17 : SH _ _ _ _ _ [obj g14 [.slice a1 n2 c3, .slice a5 n6 c7] 26] := hS16
 refine wl_val wn rfl (rv_assign (v := .pointer none) rfl) ?_
 refine nr ?_
 refine wl_val wn rfl (rv_assign (v := .pointer none) rfl) ?_
 refine nsr ?_
 refine wl_val wn rfl (rv_fieldAddr ff26_1 rfl) ?_
 refine wl_val wn rfl (rv_loadm1 tf24 rfl (.head _) hS17 rfl) ?_
 refine wl_val wn rfl (rv_len (t := tGSyn) Tryz.underlying24 rfl hs8) ?_
 refine wl_val wn rfl (rv_move (v := .int .i64 0) rfl) ?_
 refine nq ?_
 obtain ⟨o18, h19, h20⟩ := ob hm
 refine wc_cutg (fun E' w' => ∃ (v25 : Value) (K21 : KMap), E' = [(7, v25)] ∧ SH w K [] w' K21 [] ∧ KLe K K21 ∧ PtrO tGSyn K21 v25 o18) ?_ ?_
 ·refine wc_block ?_
  obtain ⟨r28, h29, h30⟩ := ob h19
  refine wc_forE' (fun (i31 : Nat) (s27 : (Option GSyn)) E' w' => ∃ (v36 : Value) (K32 : KMap), E' = [(1, .slice a9 n10 c11), (2, .int .i64 p2_at), (3, .pointer (some ⟨g14, 0, none⟩)), (7, v36), (16, .int .i64 (p0_c.Syns.length : Int)), (17, .int .i64 ((i31 : Nat) : Int))] ∧ SH w K [] w' K32 [obj g14 [.slice a1 n2 c3, .slice a5 n6 c7] 26] ∧ KLe K K32 ∧ PtrO tGSyn K32 v36 s27) h29 ⟨(.pointer none), K, rfl, hS17, (KLe.refl _), (show PtrO tGSyn _ _ none from rfl)⟩ ⟨rfl, rfl, rfl, rfl, rfl, rfl, trivial⟩ ?_ ?_
  ·rintro i31 s27 _ w34 r38 hi39 h40 ⟨v36, K32, rfl, hS35, hl33, hp37⟩
   refine sr ?_
   refine wl_val wn rfl (rv_lss rfl rfl) ?_
   refine ns ?_
   refine wc_cond_t rfl (decide_eq_true (by omega)) (wc_skip (qe_seq (wc_seq ?_)))
   refine wc_block ?_
   refine sr ?_
   refine vm rfl rfl ?_
   refine va rfl rfl ?_
   refine nr ?_
   refine wl_val wn rfl (rv_fieldAddr ff26_1 rfl) ?_
   refine wl_val wn rfl (rv_loadm1 tf24 rfl (.head _) hS35 rfl) ?_
   refine vm rfl rfl ?_
   obtain ⟨x42, hx43, h44⟩ := ob h40
   refine wl_indexAddr (t := tGSyn) wn rfl Tryz.underlying24 tf106 rfl rfl (SliceAt.mono hl33 hs8) hx43 ?_
   intro b45 o46 u47 hu48 ha49
   obtain ⟨a50, n51, c52, rfl, hs53, hl54⟩ := hu48
   have ha55 : AtK _ b45 o46 [.slice a50 n51 c52, sv x42.To] := ha49
   refine va rfl rfl ?_
   refine ns ?_
   refine wc_seq ?_
   obtain ⟨o56, h57, h58⟩ := ob h44
   refine wc_cutg (fun E' w' => ∃ (K59 : KMap), E' = [(1, .slice a9 n10 c11), (2, .int .i64 p2_at), (3, .pointer (some ⟨g14, 0, none⟩)), (7, v36), (9, .pointer (some ⟨b45, o46, none⟩)), (16, .int .i64 (p0_c.Syns.length : Int)), (17, .int .i64 ((i31 : Nat) : Int)), (50, .bool o56)] ∧ SH w K [] w' K59 [obj g14 [.slice a1 n2 c3, .slice a5 n6 c7] 26] ∧ KLe K32 K59) ?_ ?_
   ·refine wc_quiet mixed (by kernel_rfl) hS35 ?_
    refine qm rfl rfl ?_
    refine wq_val wn rfl (fun _ _ => (rv_nilCheck rfl)) ?_
    refine wq_val wn rfl (fun _ _ => (rv_fieldAddr ff106_0 rfl)) ?_
    refine wq_val wn rfl (rq_load1 tf23 rfl (ha55 0 _ rfl)) ?_
    refine wq_val wn rfl (fun _ _ => (rv_len (t := tStr) Tryz.underlying23 rfl hs53)) ?_
    refine qm rfl rfl ?_
    refine wq_val wn rfl (fun _ _ => (rv_len (t := tGTerm) Tryz.underlying38 rfl (SliceAt.mono hl33 hs12))) ?_
    refine qm rfl rfl ?_
    refine wq_val wn rfl (fun _ _ => (rv_sub rfl rfl)) ?_
    refine wq_val wn rfl (fun _ _ => (rv_gtr rfl rfl)) ?_
    refine qm rfl rfl ?_
    rcases bool_tf (decide ((w64 ((p1_terms.length : Int) - p2_at)) < (x42.From.length : Int))) with hb63 | hb63
    ·have h64 := cond_t hb63 h57
     refine wq_un (ug rfl rfl hb63) rfl ?_
     refine wq_un (ug rfl rfl hb63) rfl ?_
     refine wq_un (ug rfl rfl hb63) rfl ?_
     refine qu rfl rfl rfl ?_
     refine qu rfl rfl rfl ?_
     refine qu rfl rfl rfl ?_
     refine qu rfl rfl rfl ?_
     refine qu rfl rfl rfl ?_
     refine qu rfl rfl rfl ?_
     refine qu rfl rfl rfl ?_
     refine qu rfl rfl rfl ?_
     refine qu rfl rfl rfl ?_
     refine qu rfl rfl rfl ?_
     refine qu rfl rfl rfl ?_
     refine wq_un (ug rfl rfl hb63) rfl ?_
     refine wq_val wn rfl (fun _ _ => (rv_pick_t (v := .bool true) rfl hb63 rfl)) ?_
     refine wq_nil ?_
     rintro w66 ⟨K65, hS67, hl68⟩
     obtain rfl := oi h64
     exact qe_mid' ⟨K65, rfl, hS67, hl68⟩ ⟨rfl, rfl, rfl, rfl, rfl, rfl, rfl, rfl, trivial⟩
    ·have h64 := cond_f hb63 h57
     refine wq_val (wg rfl rfl hb63) rfl (fun _ _ => (rv_move rfl)) ?_
     refine wq_val (wg rfl rfl hb63) rfl (fun _ _ => (rv_pnotnil Tryz.underlying103 rfl rfl hp37)) ?_
     refine wq_val (wg rfl rfl hb63) rfl (fun _ _ => (rv_move rfl)) ?_
     rcases bool_tf (s27.isSome) with hb69 | hb69
     ·have h70 := cond_t hb69 h64
      refine wq_val (wg rfl rfl hb69) rfl (fun _ _ => (rv_move rfl)) ?_
      refine wq_val (wg rfl rfl hb69) rfl (fun _ _ => (rv_nilCheck rfl)) ?_
      refine wq_val (wg rfl rfl hb69) rfl (fun _ _ => (rv_fieldAddr ff106_0 rfl)) ?_
      refine wq_val (wg rfl rfl hb69) rfl (rq_load1 tf23 rfl (ha55 0 _ rfl)) ?_
      refine wq_val (wg rfl rfl hb69) rfl (fun _ _ => (rv_len (t := tStr) Tryz.underlying23 rfl hs53)) ?_
      refine wq_val (wg rfl rfl hb69) rfl (fun _ _ => (rv_move rfl)) ?_
      obtain ⟨x71, hx72, h73⟩ := ob h70
      obtain ⟨b74, o75, u76, rfl, hu77, ha78⟩ := PtrO.get hp37 hx72
      obtain ⟨a80, n81, c82, rfl, hs83, hl84⟩ := hu77
      have ha79 : AtK _ b74 o75 [.slice a80 n81 c82, sv x71.To] := ha78
      refine wq_val (wg rfl rfl hb69) rfl (fun _ _ => (rv_nilCheck rfl)) ?_
      refine wq_val (wg rfl rfl hb69) rfl (fun _ _ => (rv_fieldAddr ff106_0 rfl)) ?_
      refine wq_val (wg rfl rfl hb69) rfl (rq_load1 tf23 rfl (ha79 0 _ rfl)) ?_
      refine wq_val (wg rfl rfl hb69) rfl (fun _ _ => (rv_len (t := tStr) Tryz.underlying23 rfl hs83)) ?_
      refine wq_val (wg rfl rfl hb69) rfl (fun _ _ => (rv_leq rfl rfl)) ?_
      refine wq_val (wg rfl rfl hb63) rfl (fun _ _ => (rv_pick_t rfl hb69 rfl)) ?_
      refine wq_val wn rfl (fun _ _ => (rv_pick_f rfl hb63 rfl)) ?_
      refine wq_nil ?_
      rintro w86 ⟨K85, hS87, hl88⟩
      obtain rfl := oi h73
      exact qe_mid' ⟨K85, rfl, hS87, hl88⟩ ⟨rfl, rfl, rfl, rfl, rfl, rfl, rfl, rfl, trivial⟩
     ·have h70 := cond_f hb69 h64
      refine wq_un (ug rfl rfl hb69) rfl ?_
      refine wq_un (ug rfl rfl hb69) rfl ?_
      refine wq_un (ug rfl rfl hb69) rfl ?_
      refine wq_un (ug rfl rfl hb69) rfl ?_
      refine wq_un (ug rfl rfl hb69) rfl ?_
      refine wq_un (ug rfl rfl hb69) rfl ?_
      refine wq_un (ug rfl rfl hb69) rfl ?_
      refine wq_un (ug rfl rfl hb69) rfl ?_
      refine wq_un (ug rfl rfl hb69) rfl ?_
      refine wq_un (ug rfl rfl hb69) rfl ?_
      refine wq_un (ug rfl rfl hb69) rfl ?_
      refine wq_val (wg rfl rfl hb63) rfl (fun _ _ => (rv_pick_f (v := .bool false) rfl hb69 rfl)) ?_
      refine wq_val wn rfl (fun _ _ => (rv_pick_f rfl hb63 rfl)) ?_
      refine wq_nil ?_
      rintro w90 ⟨K89, hS91, hl92⟩
      obtain rfl := oi h70
      exact qe_mid' ⟨K89, rfl, hS91, hl92⟩ ⟨rfl, rfl, rfl, rfl, rfl, rfl, rfl, rfl, trivial⟩
   ·rintro _ w61 ⟨K59, rfl, hS62, hl60⟩
    refine qe_seq ?_
    refine wc_cond rfl (fun hb93 => ?_) (fun hb93 => ?_)
    ·have h94 := cond_t hb93 h58
     refine wc_exit ?_
     refine qe_then_exit ?_
     refine qe_block_eq ?_
     refine qg ?_
     refine wl_val wn rfl (rv_add_to rfl rfl (w64_succ hi39 (SliceAt.max hs8))) ?_
     refine vm rfl rfl ?_
     refine wl_nil ?_
     obtain rfl := oi h94
     exact qe_mid' ⟨v36, K59, rfl, hS62, (hl33.trans hl60), (PtrO.mono hl60 hp37)⟩ ⟨rfl, rfl, rfl, rfl, rfl, rfl, trivial⟩
    ·have h94 := cond_f hb93 h58
     refine wc_skip ?_
     refine qr ?_
     refine wl_val wn rfl (rv_assign (v := .bool true) rfl) ?_
     refine nsr ?_
     refine vm rfl rfl ?_
     refine wl_val wn rfl (rv_nilCheck rfl) ?_
     refine wl_val wn rfl (rv_fieldAddr ff106_0 rfl) ?_
     refine wl_val wn rfl (rv_load1 tf23 rfl hS62 ((AtK.mono hl60 ha55) 0 _ rfl)) ?_
     refine wl_val wn rfl (rv_len (t := tStr) Tryz.underlying23 rfl (SliceAt.mono hl60 hs53)) ?_
     refine wl_val wn rfl (rv_move (v := .int .i64 0) rfl) ?_
     refine nq ?_
     obtain ⟨o95, h96, h97⟩ := ob h94
     refine wc_cutg (fun E' w' => ∃ (K98 : KMap), E' = [(1, .slice a9 n10 c11), (2, .int .i64 p2_at), (3, .pointer (some ⟨g14, 0, none⟩)), (7, v36), (9, .pointer (some ⟨b45, o46, none⟩)), (10, .bool o95), (16, .int .i64 (p0_c.Syns.length : Int)), (17, .int .i64 ((i31 : Nat) : Int))] ∧ SH w K [] w' K98 [obj g14 [.slice a1 n2 c3, .slice a5 n6 c7] 26] ∧ KLe K59 K98) ?_ ?_
     ·refine wc_block ?_
      obtain ⟨r103, h104, h105⟩ := ob h96
      refine wc_forE' (fun (i106 : Nat) (s102 : Bool) E' w' => ∃ (K107 : KMap), E' = [(1, .slice a9 n10 c11), (2, .int .i64 p2_at), (3, .pointer (some ⟨g14, 0, none⟩)), (7, v36), (9, .pointer (some ⟨b45, o46, none⟩)), (10, .bool s102), (16, .int .i64 (p0_c.Syns.length : Int)), (17, .int .i64 ((i31 : Nat) : Int)), (54, .slice a50 n51 c52), (55, .int .i64 (x42.From.length : Int)), (56, .int .i64 ((i106 : Nat) : Int))] ∧ SH w K [] w' K107 [obj g14 [.slice a1 n2 c3, .slice a5 n6 c7] 26] ∧ KLe K59 K107) h104 ⟨K59, rfl, hS62, (KLe.refl _)⟩ ⟨rfl, rfl, rfl, rfl, rfl, rfl, rfl, rfl, rfl, rfl, rfl, trivial⟩ ?_ ?_
      ·rintro i106 s102 _ w109 r111 hi112 h113 ⟨K107, rfl, hS110, hl108⟩
       refine sr ?_
       refine wl_val wn rfl (rv_lss rfl rfl) ?_
       refine ns ?_
       refine wc_cond_t rfl (decide_eq_true (by omega)) (wc_skip (qe_seq (wc_seq ?_)))
       refine wc_block ?_
       refine sr ?_
       refine vm rfl rfl ?_
       obtain ⟨x115, hx116, h117⟩ := ob h113
       refine wl_indexAddr (t := tStr) wn rfl Tryz.underlying23 tf9 rfl rfl (SliceAt.mono (hl60.trans hl108) hs53) hx116 ?_
       intro b118 o119 u120 hu121 ha122
       obtain ⟨rfl, hl123⟩ := hu121
       have ha124 : AtK _ b118 o119 [sv x115] := ha122
       refine wl_val wn rfl (rv_load1 tf9 rfl hS110 (ha124 0 _ rfl)) ?_
       refine va rfl rfl ?_
       refine va rfl rfl ?_
       refine nr ?_
       refine vm rfl rfl ?_
       refine vm rfl rfl ?_
       refine vm rfl rfl ?_
       refine wl_val wn rfl (rv_add rfl rfl) ?_
       obtain ⟨x125, hx126, h127⟩ := ob h117
       refine wl_indexAddr (t := tGTerm) wn rfl Tryz.underlying38 tf46 rfl rfl (SliceAt.mono ((hl33.trans hl60).trans hl108) hs12) hx126 ?_
       intro b128 o129 u130 hu131 ha132
       obtain ⟨rfl, hl133, hr134⟩ := hu131
       have ha135 : AtK _ b128 o129 [sv x125.Text, .int .i64 x125.At] := ha132
       refine wl_val wn rfl (rv_loadS (cs := [sv x125.Text, .int .i64 x125.At]) tf46 rfl hS110 ha135 rfl) ?_
       refine wl_alloc wn rfl tf46 hS110 ?_
       intro g136 w137 hS138
       have hS139 : SH _ _ _ _ _ [obj g136 [sv [], .int .i64 0] 46, _] := hS138
       refine wl_store (cs' := [sv x125.Text, .int .i64 x125.At]) (v := .agg #[sv x125.Text, .int .i64 x125.At]) wn tf46 rfl rfl rfl (by simp [Value.cells, Value.oneCell', sv]) hS139 rfl rfl ?_
       intro w140 hS141
       refine nq ?_
       refine wc_quiet mixed (by kernel_rfl) hS141 ?_
       refine qm rfl rfl ?_
       refine qm rfl rfl ?_
       rcases bool_tf (s102) with hb142 | hb142
       ·have h143 := cond_t hb142 h127
        refine wq_val (wg rfl rfl hb142) rfl (fun _ _ => (rv_fieldAddr ff46_0 rfl)) ?_
        refine wq_val (wg rfl rfl hb142) rfl (rq_loadm1 tf9 rfl (.head _) rfl) ?_
        refine wq_val (wg rfl rfl hb142) rfl (fun _ _ => (rv_move rfl)) ?_
        refine wq_val (wg rfl rfl hb142) rfl (fun _ _ => (rv_seql rfl rfl)) ?_
        refine wq_val wn rfl (fun _ _ => (rv_pick_t rfl hb142 rfl)) ?_
        refine qm rfl rfl ?_
        rcases bool_tf ((x125.Text == x115)) with hb144 | hb144
        ·have h145 := cond_t hb144 h143
         refine wq_val (wg rfl rfl hb144) rfl (fun _ _ => (rv_fieldAddr ff46_1 rfl)) ?_
         refine wq_val (wg rfl rfl hb144) rfl (rq_loadm1 tf3 rfl (.head _) rfl) ?_
         refine wq_val (wg rfl rfl hb144) rfl (fun _ _ => (rv_move rfl)) ?_
         refine wq_val (wg rfl rfl hb144) rfl (fun _ _ => (rv_move rfl)) ?_
         obtain ⟨x146, hx147, h148⟩ := ob h145
         refine wq_indexAddr (t := tGTerm) (wg rfl rfl hb144) rfl Tryz.underlying38 tf46 rfl rfl (SliceAt.mono ((hl33.trans hl60).trans hl108) hs12) hx147 ?_
         intro b149 o150 u151 hu152 ha153
         obtain ⟨rfl, hl154, hr155⟩ := hu152
         have ha156 : AtK _ b149 o150 [sv x146.Text, .int .i64 x146.At] := ha153
         refine wq_val (wg rfl rfl hb144) rfl (fun _ _ => (rv_fieldAddr ff46_1 rfl)) ?_
         refine wq_val (wg rfl rfl hb144) rfl (rq_load1 tf3 rfl (ha156 1 _ rfl)) ?_
         refine wq_val (wg rfl rfl hb144) rfl (fun _ _ => (rv_move rfl)) ?_
         refine wq_val (wg rfl rfl hb144) rfl (fun _ _ => (rv_add rfl rfl)) ?_
         refine wq_val (wg rfl rfl hb144) rfl (fun _ _ => (rv_eql rfl rfl)) ?_
         refine wq_val wn rfl (fun _ _ => (rv_pick_t rfl hb144 rfl)) ?_
         refine wq_val wn rfl (fun _ _ => (rv_assign rfl)) ?_
         refine wq_nil ?_
         rintro w158 ⟨K157, hS159, hl160⟩
         refine qe_block ?_
         refine qg ?_
         refine wl_val wn rfl (rv_add_to rfl rfl (w64_succ hi112 (SliceAt.max (SliceAt.mono hl60 hs53)))) ?_
         refine vm rfl rfl ?_
         refine wl_nil ?_
         obtain rfl := oi h148
         have hS161 : SH _ _ _ _ _ [_] := SH.sublist hS159 (.cons _ (.cons_cons _ .slnil))
         exact qe_mid' ⟨K157, rfl, hS161, (hl108.trans hl160)⟩ ⟨rfl, rfl, rfl, rfl, rfl, rfl, rfl, rfl, rfl, rfl, rfl, trivial⟩
        ·have h145 := cond_f hb144 h143
         refine wq_un (ug rfl rfl hb144) rfl ?_
         refine wq_un (ug rfl rfl hb144) rfl ?_
         refine wq_un (ug rfl rfl hb144) rfl ?_
         refine wq_un (ug rfl rfl hb144) rfl ?_
         refine wq_un (ug rfl rfl hb144) rfl ?_
         refine wq_un (ug rfl rfl hb144) rfl ?_
         refine wq_un (ug rfl rfl hb144) rfl ?_
         refine wq_un (ug rfl rfl hb144) rfl ?_
         refine wq_un (ug rfl rfl hb144) rfl ?_
         refine wq_un (ug rfl rfl hb144) rfl ?_
         refine wq_val wn rfl (fun _ _ => (rv_pick_f (v := .bool false) rfl hb144 rfl)) ?_
         refine wq_val wn rfl (fun _ _ => (rv_assign rfl)) ?_
         refine wq_nil ?_
         rintro w163 ⟨K162, hS164, hl165⟩
         refine qe_block ?_
         refine qg ?_
         refine wl_val wn rfl (rv_add_to rfl rfl (w64_succ hi112 (SliceAt.max (SliceAt.mono hl60 hs53)))) ?_
         refine vm rfl rfl ?_
         refine wl_nil ?_
         obtain rfl := oi h145
         have hS166 : SH _ _ _ _ _ [_] := SH.sublist hS164 (.cons _ (.cons_cons _ .slnil))
         exact qe_mid' ⟨K162, rfl, hS166, (hl108.trans hl165)⟩ ⟨rfl, rfl, rfl, rfl, rfl, rfl, rfl, rfl, rfl, rfl, rfl, trivial⟩
       ·have h143 := cond_f hb142 h127
        refine wq_un (ug rfl rfl hb142) rfl ?_
        refine wq_un (ug rfl rfl hb142) rfl ?_
        refine wq_un (ug rfl rfl hb142) rfl ?_
        refine wq_un (ug rfl rfl hb142) rfl ?_
        refine wq_val wn rfl (fun _ _ => (rv_pick_f (v := .bool false) rfl hb142 rfl)) ?_
        refine qm rfl rfl ?_
        refine qv rfl rfl rfl rfl ?_
        refine qv rfl rfl rfl rfl ?_
        refine qv rfl rfl rfl rfl ?_
        refine qv rfl rfl rfl rfl ?_
        refine qv rfl rfl rfl rfl ?_
        refine qv rfl rfl rfl rfl ?_
        refine qv rfl rfl rfl rfl ?_
        refine qv rfl rfl rfl rfl ?_
        refine qv rfl rfl rfl rfl ?_
        refine qv rfl rfl rfl rfl ?_
        refine wq_val wn rfl (fun _ _ => (rv_pick_f (v := .bool false) rfl rfl rfl)) ?_
        refine wq_val wn rfl (fun _ _ => (rv_assign rfl)) ?_
        refine wq_nil ?_
        rintro w168 ⟨K167, hS169, hl170⟩
        refine qe_block ?_
        refine qg ?_
        refine wl_val wn rfl (rv_add_to rfl rfl (w64_succ hi112 (SliceAt.max (SliceAt.mono hl60 hs53)))) ?_
        refine vm rfl rfl ?_
        refine wl_nil ?_
        obtain rfl := oi h143
        have hS171 : SH _ _ _ _ _ [_] := SH.sublist hS169 (.cons _ (.cons_cons _ .slnil))
        exact qe_mid' ⟨K167, rfl, hS171, (hl108.trans hl170)⟩ ⟨rfl, rfl, rfl, rfl, rfl, rfl, rfl, rfl, rfl, rfl, rfl, trivial⟩
      ·rintro s102 _ w109 hr172 ⟨K107, rfl, hS110, hl108⟩
       subst hr172
       refine sr ?_
       refine wl_val wn rfl (rv_lss rfl rfl) ?_
       refine ns ?_
       refine wc_cond_f rfl (decide_eq_false (by omega)) ?_
       refine wc_exit ?_
       refine qe_then_exit ?_
       refine qe_then_exit ?_
       refine qe_block_eq ?_
       obtain rfl := oi h105
       exact qe_mid' ⟨K107, rfl, hS110, hl108⟩ ⟨rfl, rfl, rfl, rfl, rfl, rfl, rfl, rfl, trivial⟩
     ·rintro _ w100 ⟨K98, rfl, hS101, hl99⟩
      refine qr ?_
      refine vm rfl rfl ?_
      refine nq ?_
      refine wc_cond rfl (fun hb173 => ?_) (fun hb173 => ?_)
      ·have h174 := cond_t hb173 h97
       refine wc_region ?_
       refine vm rfl rfl ?_
       refine va rfl rfl ?_
       refine nb ?_
       refine qg ?_
       refine wl_val wn rfl (rv_add_to rfl rfl (w64_succ hi39 (SliceAt.max hs8))) ?_
       refine vm rfl rfl ?_
       refine wl_nil ?_
       obtain rfl := oi h174
       exact qe_mid' ⟨(.pointer (some ⟨b45, o46, none⟩)), K98, rfl, hS101, ((hl33.trans hl60).trans hl99), ⟨b45, o46, .agg #[.slice a50 n51 c52, sv x42.To], rfl, ⟨a50, n51, c52, rfl, (SliceAt.mono (hl60.trans hl99) hs53), hl54⟩, (AtK.mono (hl60.trans hl99) ha55)⟩⟩ ⟨rfl, rfl, rfl, rfl, rfl, rfl, trivial⟩
      ·have h174 := cond_f hb173 h97
       refine wc_skip ?_
       refine qe_block ?_
       refine qg ?_
       refine wl_val wn rfl (rv_add_to rfl rfl (w64_succ hi39 (SliceAt.max hs8))) ?_
       refine vm rfl rfl ?_
       refine wl_nil ?_
       obtain rfl := oi h174
       exact qe_mid' ⟨v36, K98, rfl, hS101, ((hl33.trans hl60).trans hl99), (PtrO.mono (hl60.trans hl99) hp37)⟩ ⟨rfl, rfl, rfl, rfl, rfl, rfl, trivial⟩
  ·rintro s27 _ w34 hr175 ⟨v36, K32, rfl, hS35, hl33, hp37⟩
   subst hr175
   refine sr ?_
   refine wl_val wn rfl (rv_lss rfl rfl) ?_
   refine ns ?_
   refine wc_cond_f rfl (decide_eq_false (by omega)) ?_
   refine wc_exit ?_
   refine qe_then_exit ?_
   refine qe_then_exit ?_
   refine qe_block_eq ?_
   obtain rfl := oi h30
   have hS176 : SH _ _ _ _ _ [] := SH.sublist hS35 (.cons _ .slnil)
   exact qe_mid' ⟨v36, K32, rfl, hS176, hl33, hp37⟩ ⟨rfl, trivial⟩
 ·rintro _ w23 ⟨v25, K21, rfl, hS24, hl22, hp26⟩
  refine qr ?_
  refine vm rfl rfl ?_
  refine va rfl rfl ?_
  refine nq ?_
  refine wc_ret ?_
  obtain rfl := oi h20
  exact qe_ret (vs := [_]) Tryz.results59 ⟨rfl, trivial⟩ ⟨v25, K21, rfl, hS24, hp26⟩

set_option maxHeartbeats 2000000 in
theorem ok_impl_TermsOf (F : Nat) {w : World} {K : KMap} {a1 : Option Addr} {n2 c3 : Nat} {a5 : Option Addr} {n6 c7 : Nat} {p0_c : GConf} {p1_s : Str} {r : (List GTerm)} (hS : SH w K [] w K []) (hs4 : SliceAt tStr K a1 n2 c3 p0_c.Stops) (hs8 : SliceAt tGSyn K a5 n6 c7 p0_c.Syns) (hl9 : p1_s.length ≤ maxLen) (hm : M.impl_TermsOf F p0_c p1_s = some r) :
  Calls Tryz.prog 15 #[.agg #[.slice a1 n2 c3, .slice a5 n6 c7], sv p1_s] w fun e w' => ∃ (a_1 : Option Addr) (n_2 c_3 : Nat) (K' : KMap), e = .returned (.slice a_1 n_2 c_3) ∧ SH w K [] w' K' [tail (.slice a_1 n_2 c_3) 46 2] ∧ SliceAt tGTerm K' a_1 n_2 c_3 r := by
 rw [M.impl_TermsOf] at hm
 refine calls_in Tryz.func15 rfl Tryz.ntmps15 rfl ?_
 refine sr ?_
 refine wl_box wn rfl rfl hS ?_
 intro g10 w11 hS12
 have hS13 : SH _ _ _ _ _ [obj g10 [.slice a1 n2 c3, .slice a5 n6 c7] 26] := hS12
 refine wl_val wn rfl (rv_assign (v := .slice none 0 0) rfl) ?_
 refine nr ?_
 refine wl_buildSlice0 tGTerm wn rfl Tryz.underlying38 tf46 hS13 ?_
 intro a14 w15 K16 hl17 hs18 hS19
 refine va rfl rfl ?_
 refine ns ?_
 refine wc_seq ?_
 obtain ⟨o20, h21, h22⟩ := ob hm
 refine wc_cutg (fun E' w' => ∃ (K23 : KMap), E' = [(1, sv p1_s), (2, .pointer (some ⟨g10, 0, none⟩)), (5, .slice a14 0 0), (20, .bool o20)] ∧ SH w K [] w' K23 [obj g10 [.slice a1 n2 c3, .slice a5 n6 c7] 26, tail (.slice a14 0 0) 46 2] ∧ KLe K16 K23) ?_ ?_
 ·refine wc_region ?_
  refine wl_val wn rfl (rv_loadmS (ds := [.slice a1 n2 c3, .slice a5 n6 c7]) tf26 rfl (.tail _ (.head _)) hS19 rfl rfl) ?_
  obtain ⟨r27, hx28, h29⟩ := ob h21
  refine wl_call wn rfl (rt_call (vs := [.agg #[.slice a1 n2 c3, .slice a5 n6 c7]]) co51 rfl) ((ok_impl_ConfOk F) hS19.enter0 (SliceAt.mono hl17 hs4) (SliceAt.mono hl17 hs8) hx28) ?_
  rintro e33 w31 ⟨K30, rfl, hS32⟩
  refine ⟨_, rfl, ?_⟩
  have hS34 : SH _ _ _ _ _ [_, _] := SH.call0 hS19 hS32
  refine wl_val wn rfl (rv_not rfl) ?_
  refine vm rfl rfl ?_
  rcases bool_tf ((!r27)) with hb35 | hb35
  ·have h36 := cond_t hb35 h29
   refine wl_un (ug rfl rfl hb35) rfl ?_
   refine wl_un (ug rfl rfl hb35) rfl ?_
   refine wl_un (ug rfl rfl hb35) rfl ?_
   refine wl_val wn rfl (rv_pick_t (v := .bool true) rfl hb35 rfl) ?_
   refine wl_nil ?_
   obtain rfl := oi h36
   have hS37 : SH _ _ _ _ _ [_, _] := SH.front (p := [_]) hS34
   exact qe_mid' ⟨K30, rfl, hS37, hS32.le⟩ ⟨rfl, rfl, rfl, rfl, trivial⟩
  ·have h36 := cond_f hb35 h29
   refine wl_val (wg rfl rfl hb35) rfl (rv_move rfl) ?_
   obtain ⟨r38, hx39, h40⟩ := ob h36
   refine wl_call (wg rfl rfl hb35) rfl (rt_call (vs := [sv p1_s]) co55 rfl) ((ok_impl_TextOk F) hS34.enter0 hl9 hx39) ?_
   rintro e44 w42 ⟨K41, rfl, hS43⟩
   refine ⟨_, rfl, ?_⟩
   have hS45 : SH _ _ _ _ _ [_, _] := SH.call0 hS34 hS43
   refine wl_val (wg rfl rfl hb35) rfl (rv_not rfl) ?_
   refine wl_val wn rfl (rv_pick_f rfl hb35 rfl) ?_
   refine wl_nil ?_
   obtain rfl := oi h40
   have hS46 : SH _ _ _ _ _ [_, _] := SH.front (p := [_]) hS45
   exact qe_mid' ⟨K41, rfl, hS46, (hS32.le.trans hS43.le)⟩ ⟨rfl, rfl, rfl, rfl, trivial⟩
 ·rintro _ w25 ⟨K23, rfl, hS26, hl24⟩
  refine qe_seq ?_
  refine wc_cond rfl (fun hb47 => ?_) (fun hb47 => ?_)
  ·have h48 := cond_t hb47 h22
   refine sr ?_
   refine vm rfl rfl ?_
   refine va rfl rfl ?_
   refine nq ?_
   refine rr ?_
   obtain rfl := oi h48
   have hS49 : SH _ _ _ _ _ [_] := SH.sublist hS26 (.cons _ (.cons_cons _ .slnil))
   exact qe_ret (vs := [_]) Tryz.results15 ⟨rfl, trivial⟩ ⟨a14, 0, 0, K23, rfl, hS49, (SliceAt.mono hl24 hs18)⟩
  ·have h48 := cond_f hb47 h22
   refine wc_skip ?_
   refine qr ?_
   refine wl_buildSlice0 tGTerm wn rfl Tryz.underlying38 tf46 hS26 ?_
   intro a50 w51 K52 hl53 hs54 hS55
   refine va rfl rfl ?_
   refine nsr ?_
   refine vm rfl rfl ?_
   obtain ⟨r56, hx57, h58⟩ := ob h48
   refine wl_call wn rfl (rt_call (vs := [sv p1_s]) co56 rfl) ((ok_impl_WordsOf F) hS55.enter0 hl9 hx57) ?_
   rintro e66 w60 ⟨a62, n63, c64, K59, rfl, hS61, hs65⟩
   refine ⟨_, rfl, ?_⟩
   have hS67 : SH _ _ _ _ _ [_, _, _, _] := SH.call0 hS55 hS61
   refine wl_val wn rfl (rv_len (t := tGWord) Tryz.underlying97 rfl hs65) ?_
   refine wl_val wn rfl (rv_move (v := .int .i64 0) rfl) ?_
   refine nq ?_
   obtain ⟨o68, h69, h70⟩ := ob h58
   refine wc_cutg (fun E' w' => ∃ (a75 : Option Addr) (n76 c77 : Nat) (K71 : KMap), E' = [(2, .pointer (some ⟨g10, 0, none⟩)), (5, .slice a14 0 0), (6, .slice a75 n76 c77)] ∧ SH w K [] w' K71 [obj g10 [.slice a1 n2 c3, .slice a5 n6 c7] 26, tail (.slice a14 0 0) 46 2, tail (.slice a75 n76 c77) 46 2] ∧ KLe K59 K71 ∧ SliceAt tGTerm K71 a75 n76 c77 o68) ?_ ?_
   ·refine wc_block ?_
    obtain ⟨r80, h81, h82⟩ := ob h69
    have hS92 : SH _ _ _ _ _ [_, _, _, _] := SH.front (p := [_]) hS67
    have hS93 : SH _ _ _ _ _ [_, _, _, _] := SH.front (p := [_, _, _]) hS92
    have hS94 : SH _ _ _ _ _ [_, _, _, _] := SH.front (p := [_, _, _]) hS93
    have hS95 : SH _ _ _ _ _ [_, _, _] := SH.sublist hS94 (.cons_cons _ (.cons_cons _ (.cons_cons _ (.cons _ .slnil))))
    refine wc_forE' (fun (i83 : Nat) (s79 : (List GTerm)) E' w' => ∃ (a88 : Option Addr) (n89 c90 : Nat) (K84 : KMap), E' = [(2, .pointer (some ⟨g10, 0, none⟩)), (5, .slice a14 0 0), (6, .slice a88 n89 c90), (24, .slice a62 n63 c64), (25, .int .i64 (r56.length : Int)), (26, .int .i64 ((i83 : Nat) : Int))] ∧ SH w K [] w' K84 [obj g10 [.slice a1 n2 c3, .slice a5 n6 c7] 26, tail (.slice a14 0 0) 46 2, tail (.slice a88 n89 c90) 46 2] ∧ KLe K59 K84 ∧ SliceAt tGTerm K84 a88 n89 c90 s79) h81 ⟨a50, 0, 0, K59, rfl, hS95, (KLe.refl _), (SliceAt.mono hS61.le hs54)⟩ ⟨rfl, rfl, rfl, rfl, rfl, rfl, trivial⟩ ?_ ?_
    ·rintro i83 s79 _ w86 r96 hi97 h98 ⟨a88, n89, c90, K84, rfl, hS87, hl85, hs91⟩
     refine sr ?_
     refine wl_val wn rfl (rv_lss rfl rfl) ?_
     refine ns ?_
     refine wc_cond_t rfl (decide_eq_true (by omega)) (wc_skip (qe_seq (wc_seq ?_)))
     refine wc_block ?_
     refine sr ?_
     obtain ⟨x100, hx101, h102⟩ := ob h98
     refine wl_indexAddr (t := tGWord) wn rfl Tryz.underlying97 tf100 rfl rfl (SliceAt.mono hl85 hs65) hx101 ?_
     intro b103 o104 u105 hu106 ha107
     obtain ⟨rfl, hl108, hr109, hr110, hr111⟩ := hu106
     have ha112 : AtK _ b103 o104 [sv x100.Text, .int .i64 x100.At, .int .i64 x100.From, .int .i64 x100.To] := ha107
     refine wl_val wn rfl (rv_loadS (cs := [sv x100.Text, .int .i64 x100.At, .int .i64 x100.From, .int .i64 x100.To]) tf100 rfl hS87 ha112 rfl) ?_
     refine wl_alloc wn rfl tf100 hS87 ?_
     intro g113 w114 hS115
     have hS116 : SH _ _ _ _ _ [obj g113 [sv [], .int .i64 0, .int .i64 0, .int .i64 0] 100, _, _, _] := hS115
     refine wl_store (cs' := [sv x100.Text, .int .i64 x100.At, .int .i64 x100.From, .int .i64 x100.To]) (v := .agg #[sv x100.Text, .int .i64 x100.At, .int .i64 x100.From, .int .i64 x100.To]) wn tf100 rfl rfl rfl (by simp [Value.cells, Value.oneCell', sv]) hS116 rfl rfl ?_
     intro w117 hS118
     refine nr ?_
     refine wl_val wn rfl (rv_fieldAddr ff100_0 rfl) ?_
     refine wl_val wn rfl (rv_loadm1 tf9 rfl (.head _) hS118 rfl) ?_
     obtain ⟨r119, hx120, h121⟩ := ob h102
     refine wl_call wn rfl (rt_call (vs := [sv x100.Text]) co57 rfl) ((ok_impl_StemOf F) hS118.enter0 hl108 hx120) ?_
     rintro e126 w123 ⟨K122, rfl, hS124, hl125⟩
     refine ⟨_, rfl, ?_⟩
     have hS127 : SH _ _ _ _ _ [_, _, _, _] := SH.call0 hS118 hS124
     refine va rfl rfl ?_
     refine ns ?_
     obtain ⟨o128, h129, h130⟩ := ob h121
     refine wc_cutg (fun E' w' => ∃ (K131 : KMap), E' = [(2, .pointer (some ⟨g10, 0, none⟩)), (5, .slice a14 0 0), (6, .slice a88 n89 c90), (8, .pointer (some ⟨g113, 0, none⟩)), (9, sv r119), (24, .slice a62 n63 c64), (25, .int .i64 (r56.length : Int)), (26, .int .i64 ((i83 : Nat) : Int)), (45, .bool o128)] ∧ SH w K [] w' K131 [obj g10 [.slice a1 n2 c3, .slice a5 n6 c7] 26, obj g113 [sv x100.Text, .int .i64 x100.At, .int .i64 x100.From, .int .i64 x100.To] 100, tail (.slice a14 0 0) 46 2, tail (.slice a88 n89 c90) 46 2] ∧ KLe K122 K131) ?_ ?_
     ·refine wc_region ?_
      refine wl_val wn rfl (rv_fieldAddr ff26_0 rfl) ?_
      refine wl_val wn rfl (rv_loadm1 tf23 rfl (.tail _ (.head _)) hS127 rfl) ?_
      refine wl_val wn rfl (rv_fieldAddr ff100_0 rfl) ?_
      refine wl_val wn rfl (rv_loadm1 tf9 rfl (.head _) hS127 rfl) ?_
      obtain ⟨r135, hx136, h137⟩ := ob h129
      refine wl_call wn rfl (rt_call (vs := [.slice a1 n2 c3, sv x100.Text]) co58 rfl) ((ok_slices_Contains_string F) hS127.enter0 (SliceAt.mono (((((hl17.trans hl24).trans hl53).trans hS61.le).trans hl85).trans hS124.le) hs4) hl108 hx136) ?_
      rintro e141 w139 ⟨K138, rfl, hS140⟩
      refine ⟨_, rfl, ?_⟩
      have hS142 : SH _ _ _ _ _ [_, _, _, _] := SH.call0 hS127 hS140
      refine wl_val wn rfl (rv_not rfl) ?_
      refine vm rfl rfl ?_
      rcases bool_tf ((!r135)) with hb143 | hb143
      ·have h144 := cond_t hb143 h137
       refine wl_val (wg rfl rfl hb143) rfl (rv_fieldAddr ff26_0 rfl) ?_
       refine wl_val (wg rfl rfl hb143) rfl (rv_loadm1 tf23 rfl (.tail _ (.head _)) hS142 rfl) ?_
       refine wl_val (wg rfl rfl hb143) rfl (rv_move rfl) ?_
       obtain ⟨r145, hx146, h147⟩ := ob h144
       refine wl_call (wg rfl rfl hb143) rfl (rt_call (vs := [.slice a1 n2 c3, sv r119]) co58 rfl) ((ok_slices_Contains_string F) hS142.enter0 (SliceAt.mono ((((((hl17.trans hl24).trans hl53).trans hS61.le).trans hl85).trans hS124.le).trans hS140.le) hs4) hl125 hx146) ?_
       rintro e151 w149 ⟨K148, rfl, hS150⟩
       refine ⟨_, rfl, ?_⟩
       have hS152 : SH _ _ _ _ _ [_, _, _, _] := SH.call0 hS142 hS150
       refine wl_val (wg rfl rfl hb143) rfl (rv_not rfl) ?_
       refine wl_val wn rfl (rv_pick_t rfl hb143 rfl) ?_
       refine wl_nil ?_
       obtain rfl := oi h147
       have hS153 : SH _ _ _ _ _ [_, _, _, _] := SH.front (p := [_, _, _]) hS152
       have hS154 : SH _ _ _ _ _ [_, _, _, _] := SH.front (p := [_, _, _]) hS153
       have hS155 : SH _ _ _ _ _ [_, _, _, _] := SH.front (p := [_, _]) hS154
       have hS156 : SH _ _ _ _ _ [_, _, _, _] := SH.front (p := [_, _, _]) hS155
       exact qe_mid' ⟨K148, rfl, hS156, (hS140.le.trans hS150.le)⟩ ⟨rfl, rfl, rfl, rfl, rfl, rfl, rfl, rfl, rfl, trivial⟩
      ·have h144 := cond_f hb143 h137
       refine wl_un (ug rfl rfl hb143) rfl ?_
       refine wl_un (ug rfl rfl hb143) rfl ?_
       refine wl_un (ug rfl rfl hb143) rfl ?_
       refine wl_un (ug rfl rfl hb143) rfl ?_
       refine wl_un (ug rfl rfl hb143) rfl ?_
       refine wl_val wn rfl (rv_pick_f (v := .bool false) rfl hb143 rfl) ?_
       refine wl_nil ?_
       obtain rfl := oi h144
       have hS157 : SH _ _ _ _ _ [_, _, _, _] := SH.front (p := [_, _, _]) hS142
       have hS158 : SH _ _ _ _ _ [_, _, _, _] := SH.front (p := [_, _, _]) hS157
       have hS159 : SH _ _ _ _ _ [_, _, _, _] := SH.front (p := [_, _]) hS158
       have hS160 : SH _ _ _ _ _ [_, _, _, _] := SH.front (p := [_, _, _]) hS159
       exact qe_mid' ⟨K138, rfl, hS160, hS140.le⟩ ⟨rfl, rfl, rfl, rfl, rfl, rfl, rfl, rfl, rfl, trivial⟩
     ·rintro _ w133 ⟨K131, rfl, hS134, hl132⟩
      refine qe_seq ?_
      refine wc_cond rfl (fun hb161 => ?_) (fun hb161 => ?_)
      ·have h162 := cond_t hb161 h130
       refine wc_region ?_
       refine vm rfl rfl ?_
       refine vm rfl rfl ?_
       refine wl_val wn rfl (rv_fieldAddr ff100_1 rfl) ?_
       refine wl_val wn rfl (rv_loadm1 tf3 rfl (.tail _ (.head _)) hS134 rfl) ?_
       refine wl_val wn rfl (rv_build (cs := #[sv r119, .int .i64 x100.At]) sp46 tf46 rfl (by kernel_rfl)) ?_
       refine wl_buildSlice (t := tGTerm) (n := 1) (pv := [(0, .agg #[sv r119, .int .i64 x100.At])]) (cs := [sv r119, .int .i64 x100.At]) (xs := [(GTerm.mk r119 x100.At)]) wn rfl Tryz.underlying38 tf46 rfl rfl rfl (by kernel_rfl) rfl rfl (lit_cons (u := .agg #[sv r119, .int .i64 x100.At]) (z := (GTerm.mk r119 x100.At)) ⟨rfl, hl125, hr109⟩ lit_nil) hS134 ?_
       intro a163 w164 K165 hl166 hs167 hS168
       have hS169 : SH _ _ _ _ _ [_, _, _, _, _] := SH.front (p := [_, _, _, _]) hS168
       obtain ⟨x170, hx171, h172⟩ := ob h162
       refine wl_append (t := tGTerm) wn rfl Tryz.underlying38 tf46 rfl rfl rfl rfl rfl (SliceAt.mono ((hS124.le.trans hl132).trans hl166) hs91) hs167 hx171 hS169 ?_
       intro a173 n174 c175 w176 K177 hl178 hs179 hS180
       refine va rfl rfl ?_
       refine nb ?_
       refine qg ?_
       refine wl_val wn rfl (rv_add_to rfl rfl (w64_succ hi97 (SliceAt.max hs65))) ?_
       refine vm rfl rfl ?_
       refine wl_nil ?_
       obtain rfl := oi h172
       have hS181 : SH _ _ _ _ _ [_, _, _, _, _] := SH.front (p := [_, _, _, _]) hS180
       have hS182 : SH _ _ _ _ _ [_, _, _, _, _] := SH.front (p := [_, _, _]) hS181
       have hS183 : SH _ _ _ _ _ [_, _, _] := SH.sublist hS182 (.cons_cons _ (.cons_cons _ (.cons_cons _ (.cons _ (.cons _ .slnil)))))
       exact qe_mid' ⟨a173, n174, c175, K177, rfl, hS183, ((((hl85.trans hS124.le).trans hl132).trans hl166).trans hl178), hs179⟩ ⟨rfl, rfl, rfl, rfl, rfl, rfl, trivial⟩
      ·have h162 := cond_f hb161 h130
       refine wc_skip ?_
       refine qe_block ?_
       refine qg ?_
       refine wl_val wn rfl (rv_add_to rfl rfl (w64_succ hi97 (SliceAt.max hs65))) ?_
       refine vm rfl rfl ?_
       refine wl_nil ?_
       obtain rfl := oi h162
       have hS184 : SH _ _ _ _ _ [_, _, _] := SH.sublist hS134 (.cons_cons _ (.cons _ (.cons_cons _ (.cons_cons _ .slnil))))
       exact qe_mid' ⟨a88, n89, c90, K131, rfl, hS184, ((hl85.trans hS124.le).trans hl132), (SliceAt.mono (hS124.le.trans hl132) hs91)⟩ ⟨rfl, rfl, rfl, rfl, rfl, rfl, trivial⟩
    ·rintro s79 _ w86 hr185 ⟨a88, n89, c90, K84, rfl, hS87, hl85, hs91⟩
     subst hr185
     refine sr ?_
     refine wl_val wn rfl (rv_lss rfl rfl) ?_
     refine ns ?_
     refine wc_cond_f rfl (decide_eq_false (by omega)) ?_
     refine wc_exit ?_
     refine qe_then_exit ?_
     refine qe_then_exit ?_
     refine qe_block_eq ?_
     obtain rfl := oi h82
     exact qe_mid' ⟨a88, n89, c90, K84, rfl, hS87, hl85, hs91⟩ ⟨rfl, rfl, rfl, trivial⟩
   ·rintro _ w73 ⟨a75, n76, c77, K71, rfl, hS74, hl72, hs78⟩
    refine qs ?_
    refine sr ?_
    refine wl_val wn rfl (rv_assign (v := .int .i64 0) rfl) ?_
    refine nq ?_
    obtain ⟨o186, h187, h188⟩ := ob h70
    refine wc_cutg (fun E' w' => ∃ (a193 : Option Addr) (n194 c195 : Nat) (K189 : KMap), E' = [(5, .slice a193 n194 c195)] ∧ SH w K [] w' K189 [tail (.slice a193 n194 c195) 46 2] ∧ KLe K71 K189 ∧ SliceAt tGTerm K189 a193 n194 c195 o186) ?_ ?_
    ·refine wc_block ?_
     obtain ⟨r198, h199, h200⟩ := ob h187
     refine wc_while' (fun (s197 : (List GTerm) × Int) E' w' => ∃ (a205 : Option Addr) (n206 c207 : Nat) (K201 : KMap), E' = [(2, .pointer (some ⟨g10, 0, none⟩)), (5, .slice a205 n206 c207), (6, .slice a75 n76 c77), (10, .int .i64 s197.2)] ∧ SH w K [] w' K201 [obj g10 [.slice a1 n2 c3, .slice a5 n6 c7] 26, tail (.slice a205 n206 c207) 46 2, tail (.slice a75 n76 c77) 46 2] ∧ KLe K71 K201 ∧ SliceAt tGTerm K201 a205 n206 c207 s197.1 ∧ rng64 s197.2) h199 ⟨a14, 0, 0, K71, rfl, hS74, (KLe.refl _), (SliceAt.mono (((hl24.trans hl53).trans hS61.le).trans hl72) hs18), (by decide : rng64 0)⟩ ⟨rfl, rfl, rfl, rfl, trivial⟩ ?_
     rintro s197 _ w203 r210 h211 hx212 ⟨a205, n206, c207, K201, rfl, hS204, hl202, hs208, hr209⟩
     refine wc_seq ?_
     refine sr ?_
     refine vm rfl rfl ?_
     refine vm rfl rfl ?_
     refine wl_val wn rfl (rv_len (t := tGTerm) Tryz.underlying38 rfl (SliceAt.mono hl202 hs78)) ?_
     refine wl_val wn rfl (rv_lss rfl rfl) ?_
     refine nq ?_
     refine wc_cond rfl (fun hb213 => ?_) (fun hb213 => ?_)
     ·have h214 := cond_t hb213 h211
      refine wc_skip ?_
      refine qe_seq ?_
      refine wc_block ?_
      refine sr ?_
      refine wl_val wn rfl (rv_loadmS (ds := [.slice a1 n2 c3, .slice a5 n6 c7]) tf26 rfl (.head _) hS204 rfl rfl) ?_
      refine vm rfl rfl ?_
      refine vm rfl rfl ?_
      obtain ⟨r215, hx216, h217⟩ := ob h214
      refine wl_call wn rfl (rt_call (vs := [.agg #[.slice a1 n2 c3, .slice a5 n6 c7], .slice a75 n76 c77, .int .i64 s197.2]) co59 rfl) ((ok_impl_ruleAt F) hS204.enter0 (SliceAt.mono (((((hl17.trans hl24).trans hl53).trans hS61.le).trans hl72).trans hl202) hs4) (SliceAt.mono (((((hl17.trans hl24).trans hl53).trans hS61.le).trans hl72).trans hl202) hs8) (SliceAt.mono hl202 hs78) hr209 hx216) ?_
      rintro e223 w219 ⟨v221, K218, rfl, hS220, hp222⟩
      refine ⟨_, rfl, ?_⟩
      have hS224 : SH _ _ _ _ _ [_, _, _] := SH.call0 hS204 hS220
      refine va rfl rfl ?_
      refine nsr ?_
      refine vm rfl rfl ?_
      refine wl_val wn rfl (rv_pnil Tryz.underlying103 rfl rfl hp222) ?_
      refine nq ?_
      refine wc_cond rfl (fun hb225 => ?_) (fun hb225 => ?_)
      ·have h226 := cond_t hb225 h217
       refine sr ?_
       refine vm rfl rfl ?_
       refine vm rfl rfl ?_
       refine vm rfl rfl ?_
       obtain ⟨x227, hx228, h229⟩ := ob h226
       refine wl_indexAddr (t := tGTerm) wn rfl Tryz.underlying38 tf46 rfl rfl (SliceAt.mono (hl202.trans hS220.le) hs78) hx228 ?_
       intro b230 o231 u232 hu233 ha234
       obtain ⟨rfl, hl235, hr236⟩ := hu233
       have ha237 : AtK _ b230 o231 [sv x227.Text, .int .i64 x227.At] := ha234
       refine wl_val wn rfl (rv_loadS (cs := [sv x227.Text, .int .i64 x227.At]) tf46 rfl hS224 ha237 rfl) ?_
       refine wl_buildSlice (t := tGTerm) (n := 1) (pv := [(0, .agg #[sv x227.Text, .int .i64 x227.At])]) (cs := [sv x227.Text, .int .i64 x227.At]) (xs := [x227]) wn rfl Tryz.underlying38 tf46 rfl rfl rfl (by kernel_rfl) rfl rfl (lit_cons (u := .agg #[sv x227.Text, .int .i64 x227.At]) (z := x227) ⟨rfl, hl235, hr236⟩ lit_nil) hS224 ?_
       intro a238 w239 K240 hl241 hs242 hS243
       have hS244 : SH _ _ _ _ _ [_, _, _, _] := SH.front (p := [_, _]) hS243
       obtain ⟨x245, hx246, h247⟩ := ob h229
       refine wl_append (t := tGTerm) wn rfl Tryz.underlying38 tf46 rfl rfl rfl rfl rfl (SliceAt.mono (hS220.le.trans hl241) hs208) hs242 hx246 hS244 ?_
       intro a248 n249 c250 w251 K252 hl253 hs254 hS255
       refine va rfl rfl ?_
       refine nr ?_
       refine vm rfl rfl ?_
       refine wl_val wn rfl (rv_add rfl rfl) ?_
       refine va rfl rfl ?_
       refine nq ?_
       refine wc_exit ?_
       refine qe_then_exit ?_
       refine qe_block_eq ?_
       obtain rfl := oi h247
       have hS256 : SH _ _ _ _ _ [_, _, _, _] := SH.front (p := [_, _, _]) hS255
       have hS257 : SH _ _ _ _ _ [_, _, _, _] := SH.front (p := [_]) hS256
       have hS258 : SH _ _ _ _ _ [_, _, _, _] := SH.front (p := [_, _, _]) hS257
       have hS259 : SH _ _ _ _ _ [_, _, _] := SH.sublist hS258 (.cons_cons _ (.cons_cons _ (.cons_cons _ (.cons _ .slnil))))
       exact qe_mid' ⟨_, rfl, a248, n249, c250, K252, rfl, hS259, (((hl202.trans hS220.le).trans hl241).trans hl253), hs254, (w64_rng _)⟩ ⟨rfl, rfl, rfl, rfl, trivial⟩
      ·have h226 := cond_f hb225 h217
       refine wc_skip ?_
       refine qs ?_
       refine wc_held (fun w' => Holds K218 w') (fun w' => True) 14 [] mixed ?_
       have hS261 := SH.drew hS224
       refine wg_val (i := 0) (listed' := #[true, false, false, false, false, false, false, false, false, false, false, false, false, false]) (fun _ => True) rfl (by kernel_rfl) (pk_then (pk_block (pk_then (pk_block (pk_then (pk_then pk_body)))))) (by kernel_rfl) rfl (by kernel_rfl) (by kernel_rfl) rfl (.inl fun _ _ => trivial) ⟨(hS261.hasK (KLe.refl _)), (fun _ => trivial), by decide⟩ wn rfl (fun _ _ => (rv_move rfl)) ?_
       refine wg_val (i := 1) (listed' := #[true, true, false, false, false, false, false, false, false, false, false, false, false, false]) (fun _ => True) rfl (by kernel_rfl) (pk_then (pk_block (pk_then (pk_block (pk_then (pk_then pk_body)))))) (by kernel_rfl) rfl (by kernel_rfl) (by kernel_rfl) rfl (.inl fun _ _ => trivial) ⟨(hS261.hasK (KLe.refl _)), (fun _ => trivial), by decide⟩ wn rfl (fun _ _ => (rv_move rfl)) ?_
       obtain ⟨x262, hx263, h264⟩ := ob h226
       obtain ⟨b265, o266, u267, rfl, hu268, ha269⟩ := PtrO.get hp222 hx263
       obtain ⟨a271, n272, c273, rfl, hs274, hl275⟩ := hu268
       have ha270 : AtK _ b265 o266 [.slice a271 n272 c273, sv x262.To] := ha269
       refine wg_val (i := 2) (listed' := #[true, true, true, false, false, false, false, false, false, false, false, false, false, false]) (fun _ => True) rfl (by kernel_rfl) (pk_then (pk_block (pk_then (pk_block (pk_then (pk_then pk_body)))))) (by kernel_rfl) rfl (by kernel_rfl) (by kernel_rfl) rfl (.inl fun _ _ => trivial) ⟨(hS261.hasK (KLe.refl _)), (fun _ => trivial), by decide⟩ wn rfl (fun _ _ => (rv_nilCheck rfl)) ?_
       refine wg_val (i := 3) (listed' := #[true, true, true, true, false, false, false, false, false, false, false, false, false, false]) (fun _ => True) rfl (by kernel_rfl) (pk_then (pk_block (pk_then (pk_block (pk_then (pk_then pk_body)))))) (by kernel_rfl) rfl (by kernel_rfl) (by kernel_rfl) rfl (.inl fun _ _ => trivial) ⟨(hS261.hasK (KLe.refl _)), (fun _ => trivial), by decide⟩ wn rfl (fun _ _ => (rv_fieldAddr ff106_1 rfl)) ?_
       refine wg_val (i := 4) (listed' := #[true, true, true, true, true, false, false, false, false, false, false, false, false, false]) (Holds K218) rfl (by kernel_rfl) (pk_then (pk_block (pk_then (pk_block (pk_then (pk_then pk_body)))))) (by kernel_rfl) rfl (by kernel_rfl) (by kernel_rfl) rfl (.inl fun _ h => h) ⟨(hS261.hasK (KLe.refl _)), (fun _ => trivial), by decide⟩ wn rfl (fun _ h => rh_load1 tf9 rfl (ha270 1 _ rfl) h) ?_
       refine wg_val (i := 5) (listed' := #[true, true, true, true, true, true, false, false, false, false, false, false, false, false]) (fun _ => True) rfl (by kernel_rfl) (pk_then (pk_block (pk_then (pk_block (pk_then (pk_then pk_body)))))) (by kernel_rfl) rfl (by kernel_rfl) (by kernel_rfl) rfl (.inl fun _ _ => trivial) ⟨(hS261.hasK (KLe.refl _)), (fun _ => trivial), by decide⟩ wn rfl (fun _ _ => (rv_move rfl)) ?_
       refine wg_val (i := 6) (listed' := #[true, true, true, true, true, true, true, false, false, false, false, false, false, false]) (fun _ => True) rfl (by kernel_rfl) (pk_then (pk_block (pk_then (pk_block (pk_then (pk_then pk_body)))))) (by kernel_rfl) rfl (by kernel_rfl) (by kernel_rfl) rfl (.inl fun _ _ => trivial) ⟨(hS261.hasK (KLe.refl _)), (fun _ => trivial), by decide⟩ wn rfl (fun _ _ => (rv_move rfl)) ?_
       obtain ⟨x276, hx277, h278⟩ := ob h264
       refine wg_indexAddr (t := tGTerm) (j := 7) (listed' := #[true, true, true, true, true, true, true, true, false, false, false, false, false, false]) rfl (by kernel_rfl) (pk_then (pk_block (pk_then (pk_block (pk_then (pk_then pk_body)))))) (by kernel_rfl) rfl (by kernel_rfl) (by kernel_rfl) rfl ⟨(hS261.hasK (KLe.refl _)), (fun _ => trivial), by decide⟩ wn rfl Tryz.underlying38 tf46 rfl rfl (SliceAt.mono (hl202.trans hS220.le) hs78) hx277 ?_
       intro b279 o280 u281 hu282 ha283
       obtain ⟨rfl, hl284, hr285⟩ := hu282
       have ha286 : AtK _ b279 o280 [sv x276.Text, .int .i64 x276.At] := ha283
       refine wg_val (i := 8) (listed' := #[true, true, true, true, true, true, true, true, true, false, false, false, false, false]) (fun _ => True) rfl (by kernel_rfl) (pk_then (pk_block (pk_then (pk_block (pk_then (pk_then pk_body)))))) (by kernel_rfl) rfl (by kernel_rfl) (by kernel_rfl) rfl (.inl fun _ _ => trivial) ⟨(hS261.hasK (KLe.refl _)), (fun _ => trivial), by decide⟩ wn rfl (fun _ _ => (rv_fieldAddr ff46_1 rfl)) ?_
       refine wg_val (i := 9) (listed' := #[true, true, true, true, true, true, true, true, true, true, false, false, false, false]) (Holds K218) rfl (by kernel_rfl) (pk_then (pk_block (pk_then (pk_block (pk_then (pk_then pk_body)))))) (by kernel_rfl) rfl (by kernel_rfl) (by kernel_rfl) rfl (.inl fun _ h => h) ⟨(hS261.hasK (KLe.refl _)), (fun _ => trivial), by decide⟩ wn rfl (fun _ h => rh_load1 tf3 rfl (ha286 1 _ rfl) h) ?_
       refine wg_val (i := 10) (listed' := #[true, true, true, true, true, true, true, true, true, true, true, false, false, false]) (fun _ => True) rfl (by kernel_rfl) (pk_then (pk_block (pk_then (pk_block (pk_then (pk_then pk_body)))))) (by kernel_rfl) rfl (by kernel_rfl) (by kernel_rfl) rfl (.inl fun _ _ => trivial) ⟨(hS261.hasK (KLe.refl _)), (fun _ => trivial), by decide⟩ wn rfl (fun _ _ => (rv_build (cs := #[sv x262.To, .int .i64 x276.At]) sp46 tf46 rfl (by kernel_rfl))) ?_
       refine wg_one (i := 11) (by kernel_rfl) rfl ?_
       refine wl_buildSlice (t := tGTerm) (n := 1) (pv := [(0, .agg #[sv x262.To, .int .i64 x276.At])]) (cs := [sv x262.To, .int .i64 x276.At]) (xs := [(GTerm.mk x262.To x276.At)]) wn rfl Tryz.underlying38 tf46 rfl rfl rfl (by kernel_rfl) rfl rfl (lit_cons (u := .agg #[sv x262.To, .int .i64 x276.At]) (z := (GTerm.mk x262.To x276.At)) ⟨rfl, hl275, hr285⟩ lit_nil) hS261 ?_
       intro a287 w288 K289 hl290 hs291 hS292
       refine wl_nil (qe_held (listed' := #[true, true, true, true, true, true, true, true, true, true, true, true, false, false]) rfl ⟨(hS292.hasK hl290), (fun _ => trivial), by decide⟩ ?_)
       refine wg_one (i := 12) (by kernel_rfl) rfl ?_
       have hS293 : SH _ _ _ _ _ [_, _, _, _] := SH.front (p := [_, _]) hS292
       obtain ⟨x294, hx295, h296⟩ := ob h278
       refine wl_append (t := tGTerm) wn rfl Tryz.underlying38 tf46 rfl rfl rfl rfl rfl (SliceAt.mono (hS220.le.trans hl290) hs208) hs291 hx295 hS293 ?_
       intro a297 n298 c299 w300 K301 hl302 hs303 hS304
       refine wl_nil (qe_held (listed' := #[true, true, true, true, true, true, true, true, true, true, true, true, true, false]) rfl ⟨(hS304.hasK (hl290.trans hl302)), (fun _ => trivial), by decide⟩ ?_)
       refine wg_val (i := 13) (listed' := #[true, true, true, true, true, true, true, true, true, true, true, true, true, true]) (fun _ => True) rfl (by kernel_rfl) (pk_then (pk_block (pk_then (pk_block (pk_then (pk_then pk_body)))))) (by kernel_rfl) rfl (by kernel_rfl) (by kernel_rfl) rfl (.inl fun _ _ => trivial) ⟨(hS304.hasK (hl290.trans hl302)), (fun _ => trivial), by decide⟩ wn rfl (fun _ _ => (rv_assign rfl)) ?_
       refine wg_done (by kernel_rfl) ?_
       refine qe_seq ?_
       refine wc_region ?_
       refine vm rfl rfl ?_
       refine vm rfl rfl ?_
       refine wl_val wn rfl (rv_nilCheck rfl) ?_
       refine wl_val wn rfl (rv_fieldAddr ff106_0 rfl) ?_
       refine wl_val wn rfl (rv_load1 tf23 rfl hS304 ((AtK.mono (hl290.trans hl302) ha270) 0 _ rfl)) ?_
       refine wl_val wn rfl (rv_len (t := tStr) Tryz.underlying23 rfl (SliceAt.mono (hl290.trans hl302) hs274)) ?_
       refine wl_val wn rfl (rv_add rfl rfl) ?_
       refine va rfl rfl ?_
       refine nb ?_
       obtain rfl := oi h296
       have hS305 : SH _ _ _ _ _ [_, _, _, _] := SH.front (p := [_, _, _]) hS304
       have hS306 : SH _ _ _ _ _ [_, _, _, _] := SH.front (p := [_]) hS305
       have hS307 : SH _ _ _ _ _ [_, _, _, _] := SH.front (p := [_, _, _]) hS306
       have hS308 : SH _ _ _ _ _ [_, _, _] := SH.sublist hS307 (.cons_cons _ (.cons_cons _ (.cons_cons _ (.cons _ .slnil))))
       exact qe_mid' ⟨_, rfl, a297, n298, c299, K301, rfl, hS308, (((hl202.trans hS220.le).trans hl290).trans hl302), hs303, (w64_rng _)⟩ ⟨rfl, rfl, rfl, rfl, trivial⟩
     ·have h214 := cond_f hb213 h211
      refine wc_exit ?_
      refine qe_then_exit ?_
      refine qe_then_exit ?_
      obtain rfl := oi h214
      have e309 := hx212 _ rfl
      subst e309
      refine qe_block_eq ?_
      obtain rfl := oi h200
      have hS310 : SH _ _ _ _ _ [_] := SH.sublist hS204 (.cons _ (.cons_cons _ (.cons _ .slnil)))
      exact qe_mid' ⟨a205, n206, c207, K201, rfl, hS310, hl202, hs208⟩ ⟨rfl, trivial⟩
    ·rintro _ w191 ⟨a193, n194, c195, K189, rfl, hS192, hl190, hs196⟩
     refine qr ?_
     refine vm rfl rfl ?_
     refine va rfl rfl ?_
     refine nq ?_
     refine wc_ret ?_
     obtain rfl := oi h188
     exact qe_ret (vs := [_]) Tryz.results15 ⟨rfl, trivial⟩ ⟨a193, n194, c195, K189, rfl, hS192, hs196⟩

set_option maxHeartbeats 2000000 in
theorem ok_impl_DocOk (F : Nat) {w : World} {K : KMap} {a2 : Option Addr} {n3 c4 : Nat} {a6 : Option Addr} {n7 c8 : Nat} {p0_d : GDoc} {r : Bool} (hS : SH w K [] w K []) (hr1 : rng64 p0_d.Id) (hs5 : SliceAt tGField K a2 n3 c4 p0_d.Fields) (hs9 : SliceAt tGAttr K a6 n7 c8 p0_d.Nums) (hm : M.impl_DocOk F p0_d = some r) :
  Calls Tryz.prog 60 #[.agg #[.int .i64 p0_d.Id, .slice a2 n3 c4, .slice a6 n7 c8]] w fun e w' => ∃ (K' : KMap), e = .returned (.bool r) ∧ SH w K [] w' K' [] := by
 rw [M.impl_DocOk] at hm
 refine calls_in Tryz.func60 rfl Tryz.ntmps60 rfl ?_
 refine sr ?_
 refine wl_box wn rfl rfl hS ?_
 intro g10 w11 hS12
 have hS13 : SH _ _ _ _ _ [obj g10 [.int .i64 p0_d.Id, .slice a2 n3 c4, .slice a6 n7 c8] 44] := hS12
 refine wl_val wn rfl (rv_assign (v := .bool false) rfl) ?_
 refine ns ?_
 refine wc_seq ?_
 obtain ⟨o14, h15, h16⟩ := ob hm
 refine wc_cutg (fun E' w' => ∃ (K17 : KMap), E' = [(1, .pointer (some ⟨g10, 0, none⟩)), (22, .bool o14)] ∧ SH w K [] w' K17 [obj g10 [.int .i64 p0_d.Id, .slice a2 n3 c4, .slice a6 n7 c8] 44] ∧ KLe K K17) ?_ ?_
 ·refine wc_region ?_
  refine wl_val wn rfl (rv_fieldAddr ff44_0 rfl) ?_
  refine wl_val wn rfl (rv_loadm1 tf3 rfl (.head _) hS13 rfl) ?_
  obtain ⟨r21, hx22, h23⟩ := ob h15
  refine wl_call wn rfl (rt_call (vs := [.int .i64 p0_d.Id, .int .i64 1, .int .i64 9999]) co98 rfl) ((ok_impl_within F) hS13.enter0 hr1 (by decide : rng64 1) (by decide : rng64 9999) hx22) ?_
  rintro e27 w25 ⟨K24, rfl, hS26⟩
  refine ⟨_, rfl, ?_⟩
  have hS28 : SH _ _ _ _ _ [_] := SH.call0 hS13 hS26
  refine wl_val wn rfl (rv_not rfl) ?_
  refine vm rfl rfl ?_
  rcases bool_tf ((!r21)) with hb29 | hb29
  ·have h30 := cond_t hb29 h23
   refine wl_un (ug rfl rfl hb29) rfl ?_
   refine wl_un (ug rfl rfl hb29) rfl ?_
   refine wl_un (ug rfl rfl hb29) rfl ?_
   refine wl_un (ug rfl rfl hb29) rfl ?_
   refine wl_val wn rfl (rv_pick_t (v := .bool true) rfl hb29 rfl) ?_
   refine vm rfl rfl ?_
   refine wl_un (ug rfl rfl rfl) rfl ?_
   refine wl_un (ug rfl rfl rfl) rfl ?_
   refine wl_un (ug rfl rfl rfl) rfl ?_
   refine wl_un (ug rfl rfl rfl) rfl ?_
   refine wl_val wn rfl (rv_pick_t (v := .bool true) rfl rfl rfl) ?_
   refine wl_nil ?_
   obtain rfl := oi h30
   exact qe_mid' ⟨K24, rfl, hS28, hS26.le⟩ ⟨rfl, rfl, trivial⟩
  ·have h30 := cond_f hb29 h23
   refine wl_val (wg rfl rfl hb29) rfl (rv_fieldAddr ff44_1 rfl) ?_
   refine wl_val (wg rfl rfl hb29) rfl (rv_loadm1 tf41 rfl (.head _) hS28 rfl) ?_
   refine wl_val (wg rfl rfl hb29) rfl (rv_len (t := tGField) Tryz.underlying41 rfl (SliceAt.mono hS26.le hs5)) ?_
   refine wl_val (wg rfl rfl hb29) rfl (rv_gtr rfl rfl) ?_
   refine wl_val wn rfl (rv_pick_f rfl hb29 rfl) ?_
   refine vm rfl rfl ?_
   rcases bool_tf (decide ((3 : Int) < (p0_d.Fields.length : Int))) with hb31 | hb31
   ·have h32 := cond_t hb31 h30
    refine wl_un (ug rfl rfl hb31) rfl ?_
    refine wl_un (ug rfl rfl hb31) rfl ?_
    refine wl_un (ug rfl rfl hb31) rfl ?_
    refine wl_un (ug rfl rfl hb31) rfl ?_
    refine wl_val wn rfl (rv_pick_t (v := .bool true) rfl hb31 rfl) ?_
    refine wl_nil ?_
    obtain rfl := oi h32
    exact qe_mid' ⟨K24, rfl, hS28, hS26.le⟩ ⟨rfl, rfl, trivial⟩
   ·have h32 := cond_f hb31 h30
    refine wl_val (wg rfl rfl hb31) rfl (rv_fieldAddr ff44_2 rfl) ?_
    refine wl_val (wg rfl rfl hb31) rfl (rv_loadm1 tf42 rfl (.head _) hS28 rfl) ?_
    refine wl_val (wg rfl rfl hb31) rfl (rv_len (t := tGAttr) Tryz.underlying42 rfl (SliceAt.mono hS26.le hs9)) ?_
    refine wl_val (wg rfl rfl hb31) rfl (rv_gtr rfl rfl) ?_
    refine wl_val wn rfl (rv_pick_f rfl hb31 rfl) ?_
    refine wl_nil ?_
    obtain rfl := oi h32
    exact qe_mid' ⟨K24, rfl, hS28, hS26.le⟩ ⟨rfl, rfl, trivial⟩
 ·rintro _ w19 ⟨K17, rfl, hS20, hl18⟩
  refine qe_seq ?_
  refine wc_cond rfl (fun hb33 => ?_) (fun hb33 => ?_)
  ·have h34 := cond_t hb33 h16
   refine sr ?_
   refine wl_val wn rfl (rv_assign (v := .bool false) rfl) ?_
   refine nq ?_
   refine rr ?_
   obtain rfl := oi h34
   have hS35 : SH _ _ _ _ _ [] := SH.sublist hS20 (.cons _ .slnil)
   exact qe_ret (vs := [_]) Tryz.results60 ⟨rfl, trivial⟩ ⟨K17, rfl, hS35⟩
  ·have h34 := cond_f hb33 h16
   refine wc_skip ?_
   refine qs ?_
   refine sr ?_
   refine wl_val wn rfl (rv_fieldAddr ff44_1 rfl) ?_
   refine wl_val wn rfl (rv_loadm1 tf41 rfl (.head _) hS20 rfl) ?_
   refine wl_val wn rfl (rv_len (t := tGField) Tryz.underlying41 rfl (SliceAt.mono hl18 hs5)) ?_
   refine wl_val wn rfl (rv_move (v := .int .i64 0) rfl) ?_
   refine nq ?_
   obtain ⟨o36, h37, h38⟩ := ob h34
   refine wc_cutg (fun E' w' => ∃ (s39 : Unit) (K40 : KMap), o36 = .inl s39 ∧ E' = [(1, .pointer (some ⟨g10, 0, none⟩))] ∧ SH w K [] w' K40 [obj g10 [.int .i64 p0_d.Id, .slice a2 n3 c4, .slice a6 n7 c8] 44] ∧ KLe K17 K40) ?_ ?_
   ·refine wc_block ?_
    obtain ⟨r45, h46, h47⟩ := ob h37
    refine wc_for' (fun (i48 : Nat) (s44 : Unit) E' w' => ∃ (K49 : KMap), E' = [(1, .pointer (some ⟨g10, 0, none⟩)), (24, .slice a2 n3 c4), (25, .int .i64 (p0_d.Fields.length : Int)), (26, .int .i64 ((i48 : Nat) : Int))] ∧ SH w K [] w' K49 [obj g10 [.int .i64 p0_d.Id, .slice a2 n3 c4, .slice a6 n7 c8] 44] ∧ KLe K17 K49) h46 ⟨K17, rfl, hS20, (KLe.refl _)⟩ ⟨rfl, rfl, rfl, rfl, trivial⟩ ?_ ?_
    ·rintro i48 s44 _ w51 r53 hi54 h55 hx56 ⟨K49, rfl, hS52, hl50⟩
     refine sr ?_
     refine wl_val wn rfl (rv_lss rfl rfl) ?_
     refine ns ?_
     refine wc_cond_t rfl (decide_eq_true (by omega)) (wc_skip (qe_seq (wc_seq ?_)))
     refine wc_block ?_
     refine sr ?_
     refine vm rfl rfl ?_
     obtain ⟨x57, hx58, h59⟩ := ob h55
     refine wl_indexAddr (t := tGField) wn rfl Tryz.underlying41 tf109 rfl rfl (SliceAt.mono (hl18.trans hl50) hs5) hx58 ?_
     intro b60 o61 u62 hu63 ha64
     obtain ⟨rfl, hl65, hl66⟩ := hu63
     have ha67 : AtK _ b60 o61 [sv x57.Name, sv x57.Text] := ha64
     refine wl_val wn rfl (rv_loadS (cs := [sv x57.Name, sv x57.Text]) tf109 rfl hS52 ha67 rfl) ?_
     refine wl_alloc wn rfl tf109 hS52 ?_
     intro g68 w69 hS70
     have hS71 : SH _ _ _ _ _ [obj g68 [sv [], sv []] 109, _] := hS70
     refine va rfl rfl ?_
     refine wl_store (cs' := [sv x57.Name, sv x57.Text]) (v := .agg #[sv x57.Name, sv x57.Text]) wn tf109 rfl rfl rfl (by simp [Value.cells, Value.oneCell', sv]) hS71 rfl rfl ?_
     intro w72 hS73
     refine ns ?_
     obtain ⟨o74, h75, h76⟩ := ob h59
     refine wc_cutg (fun E' w' => ∃ (K77 : KMap), E' = [(1, .pointer (some ⟨g10, 0, none⟩)), (24, .slice a2 n3 c4), (25, .int .i64 (p0_d.Fields.length : Int)), (26, .int .i64 ((i48 : Nat) : Int)), (56, .bool o74)] ∧ SH w K [] w' K77 [obj g10 [.int .i64 p0_d.Id, .slice a2 n3 c4, .slice a6 n7 c8] 44] ∧ KLe K49 K77) ?_ ?_
     ·refine wc_quiet mixed (by kernel_rfl) hS73 ?_
      refine wq_val wn rfl (fun _ _ => (rv_fieldAddr ff109_0 rfl)) ?_
      refine wq_val wn rfl (rq_loadm1 tf9 rfl (.head _) rfl) ?_
      obtain ⟨r81, hx82, h83⟩ := ob h75
      refine wq_call (v := .bool r81) wn rfl (fun _ => rt_call (vs := [sv x57.Name]) co99 rfl) (fun w86 ⟨K84, hS85, hl87⟩ => ((ok_impl_WordOk F) hS85.enter0 hl65 hx82).mono fun e w' ⟨K', he, hS'⟩ => ⟨he, K', hS85.call0 hS', hl87.trans hS'.le⟩) ?_
      refine wq_val wn rfl (fun _ _ => (rv_not rfl)) ?_
      refine qm rfl rfl ?_
      rcases bool_tf ((!r81)) with hb88 | hb88
      ·have h89 := cond_t hb88 h83
       refine wq_un (ug rfl rfl hb88) rfl ?_
       refine wq_un (ug rfl rfl hb88) rfl ?_
       refine wq_un (ug rfl rfl hb88) rfl ?_
       refine wq_un (ug rfl rfl hb88) rfl ?_
       refine wq_val wn rfl (fun _ _ => (rv_pick_t (v := .bool true) rfl hb88 rfl)) ?_
       refine qm rfl rfl ?_
       refine qv rfl rfl rfl rfl ?_
       refine qv rfl rfl rfl rfl ?_
       refine qv rfl rfl rfl rfl ?_
       refine qu rfl rfl rfl ?_
       refine qu rfl rfl rfl ?_
       refine qu rfl rfl rfl ?_
       refine qu rfl rfl rfl ?_
       refine qu rfl rfl rfl ?_
       refine qu rfl rfl rfl ?_
       refine qu rfl rfl rfl ?_
       refine qu rfl rfl rfl ?_
       refine qu rfl rfl rfl ?_
       refine qu rfl rfl rfl ?_
       refine qv rfl rfl rfl rfl ?_
       refine wq_val wn rfl (fun _ _ => (rv_pick_t (v := .bool true) rfl rfl rfl)) ?_
       refine wq_nil ?_
       rintro w91 ⟨K90, hS92, hl93⟩
       obtain rfl := oi h89
       have hS94 : SH _ _ _ _ _ [_] := SH.sublist hS92 (.cons _ (.cons_cons _ .slnil))
       exact qe_mid' ⟨K90, rfl, hS94, hl93⟩ ⟨rfl, rfl, rfl, rfl, rfl, trivial⟩
      ·have h89 := cond_f hb88 h83
       refine wq_val (wg rfl rfl hb88) rfl (fun _ _ => (rv_fieldAddr ff109_1 rfl)) ?_
       refine wq_val (wg rfl rfl hb88) rfl (rq_loadm1 tf9 rfl (.head _) rfl) ?_
       obtain ⟨r95, hx96, h97⟩ := ob h89
       refine wq_call (v := .bool r95) (wg rfl rfl hb88) rfl (fun _ => rt_call (vs := [sv x57.Text]) co55 rfl) (fun w100 ⟨K98, hS99, hl101⟩ => ((ok_impl_TextOk F) hS99.enter0 hl66 hx96).mono fun e w' ⟨K', he, hS'⟩ => ⟨he, K', hS99.call0 hS', hl101.trans hS'.le⟩) ?_
       refine wq_val (wg rfl rfl hb88) rfl (fun _ _ => (rv_not rfl)) ?_
       refine wq_val wn rfl (fun _ _ => (rv_pick_f rfl hb88 rfl)) ?_
       refine qm rfl rfl ?_
       rcases bool_tf ((!r95)) with hb102 | hb102
       ·have h103 := cond_t hb102 h97
        refine wq_un (ug rfl rfl hb102) rfl ?_
        refine wq_un (ug rfl rfl hb102) rfl ?_
        refine wq_un (ug rfl rfl hb102) rfl ?_
        refine qu rfl rfl rfl ?_
        refine qu rfl rfl rfl ?_
        refine qu rfl rfl rfl ?_
        refine qu rfl rfl rfl ?_
        refine qu rfl rfl rfl ?_
        refine qu rfl rfl rfl ?_
        refine qu rfl rfl rfl ?_
        refine qu rfl rfl rfl ?_
        refine qu rfl rfl rfl ?_
        refine qu rfl rfl rfl ?_
        refine wq_un (ug rfl rfl hb102) rfl ?_
        refine wq_val wn rfl (fun _ _ => (rv_pick_t (v := .bool true) rfl hb102 rfl)) ?_
        refine wq_nil ?_
        rintro w105 ⟨K104, hS106, hl107⟩
        obtain rfl := oi h103
        have hS108 : SH _ _ _ _ _ [_] := SH.sublist hS106 (.cons _ (.cons_cons _ .slnil))
        exact qe_mid' ⟨K104, rfl, hS108, hl107⟩ ⟨rfl, rfl, rfl, rfl, rfl, trivial⟩
       ·have h103 := cond_f hb102 h97
        refine wq_val (wg rfl rfl hb102) rfl (fun _ _ => (rv_move rfl)) ?_
        refine wq_val (wg rfl rfl hb102) rfl (fun _ _ => (rv_gtr rfl rfl)) ?_
        refine wq_val (wg rfl rfl hb102) rfl (fun _ _ => (rv_move rfl)) ?_
        rcases bool_tf (decide ((0 : Int) < ((i48 : Nat) : Int))) with hb109 | hb109
        ·have h110 := cond_t hb109 h103
         refine wq_val (wg rfl rfl hb109) rfl (fun _ _ => (rv_fieldAddr ff44_1 rfl)) ?_
         refine wq_val (wg rfl rfl hb109) rfl (rq_loadm1 tf41 rfl (.tail _ (.head _)) rfl) ?_
         refine wq_val (wg rfl rfl hb109) rfl (fun _ _ => (rv_move rfl)) ?_
         refine wq_val (wg rfl rfl hb109) rfl (fun _ _ => (rv_sub rfl rfl)) ?_
         obtain ⟨x111, hx112, h113⟩ := ob h110
         refine wq_indexAddr (t := tGField) (wg rfl rfl hb109) rfl Tryz.underlying41 tf109 rfl rfl (SliceAt.mono (hl18.trans hl50) hs5) hx112 ?_
         intro b114 o115 u116 hu117 ha118
         obtain ⟨rfl, hl119, hl120⟩ := hu117
         have ha121 : AtK _ b114 o115 [sv x111.Name, sv x111.Text] := ha118
         refine wq_val (wg rfl rfl hb109) rfl (fun _ _ => (rv_fieldAddr ff109_0 rfl)) ?_
         refine wq_val (wg rfl rfl hb109) rfl (rq_load1 tf9 rfl (ha121 0 _ rfl)) ?_
         refine wq_val (wg rfl rfl hb109) rfl (fun _ _ => (rv_fieldAddr ff109_0 rfl)) ?_
         refine wq_val (wg rfl rfl hb109) rfl (rq_loadm1 tf9 rfl (.head _) rfl) ?_
         refine wq_val (wg rfl rfl hb109) rfl (fun _ _ => (rv_sgeq rfl rfl)) ?_
         refine wq_val (wg rfl rfl hb102) rfl (fun _ _ => (rv_pick_t rfl hb109 rfl)) ?_
         refine wq_val wn rfl (fun _ _ => (rv_pick_f rfl hb102 rfl)) ?_
         refine wq_nil ?_
         rintro w123 ⟨K122, hS124, hl125⟩
         obtain rfl := oi h113
         have hS126 : SH _ _ _ _ _ [_] := SH.sublist hS124 (.cons _ (.cons_cons _ .slnil))
         exact qe_mid' ⟨K122, rfl, hS126, hl125⟩ ⟨rfl, rfl, rfl, rfl, rfl, trivial⟩
        ·have h110 := cond_f hb109 h103
         refine wq_un (ug rfl rfl hb109) rfl ?_
         refine wq_un (ug rfl rfl hb109) rfl ?_
         refine wq_un (ug rfl rfl hb109) rfl ?_
         refine wq_un (ug rfl rfl hb109) rfl ?_
         refine wq_un (ug rfl rfl hb109) rfl ?_
         refine wq_un (ug rfl rfl hb109) rfl ?_
         refine wq_un (ug rfl rfl hb109) rfl ?_
         refine wq_un (ug rfl rfl hb109) rfl ?_
         refine wq_un (ug rfl rfl hb109) rfl ?_
         refine wq_un (ug rfl rfl hb109) rfl ?_
         refine wq_val (wg rfl rfl hb102) rfl (fun _ _ => (rv_pick_f (v := .bool false) rfl hb109 rfl)) ?_
         refine wq_val wn rfl (fun _ _ => (rv_pick_f rfl hb102 rfl)) ?_
         refine wq_nil ?_
         rintro w128 ⟨K127, hS129, hl130⟩
         obtain rfl := oi h110
         have hS131 : SH _ _ _ _ _ [_] := SH.sublist hS129 (.cons _ (.cons_cons _ .slnil))
         exact qe_mid' ⟨K127, rfl, hS131, hl130⟩ ⟨rfl, rfl, rfl, rfl, rfl, trivial⟩
     ·rintro _ w79 ⟨K77, rfl, hS80, hl78⟩
      refine qe_seq ?_
      refine wc_cond rfl (fun hb132 => ?_) (fun hb132 => ?_)
      ·have h133 := cond_t hb132 h76
       refine sr ?_
       refine wl_val wn rfl (rv_assign (v := .bool false) rfl) ?_
       refine nq ?_
       refine wc_ret ?_
       refine qe_block_ret ?_
       refine qe_then_ret ?_
       refine qe_then_ret ?_
       obtain rfl := oi h133
       have e134 := hx56 _ rfl
       subst e134
       refine qe_block_ret ?_
       refine qe_then_ret ?_
       obtain rfl := oi h47
       refine qe_then_ret ?_
       obtain rfl := oi h38
       have hS135 : SH _ _ _ _ _ [] := SH.sublist hS80 (.cons _ .slnil)
       exact qe_ret (vs := [_]) Tryz.results60 ⟨rfl, trivial⟩ ⟨K77, rfl, hS135⟩
      ·have h133 := cond_f hb132 h76
       refine wc_skip ?_
       refine qe_block ?_
       refine qg ?_
       refine wl_val wn rfl (rv_add_to rfl rfl (w64_succ hi54 (SliceAt.max (SliceAt.mono hl18 hs5)))) ?_
       refine vm rfl rfl ?_
       refine wl_nil ?_
       obtain rfl := oi h133
       exact qe_mid' ⟨_, rfl, K77, rfl, hS80, (hl50.trans hl78)⟩ ⟨rfl, rfl, rfl, rfl, trivial⟩
    ·rintro s44 _ w51 hr136 ⟨K49, rfl, hS52, hl50⟩
     subst hr136
     refine sr ?_
     refine wl_val wn rfl (rv_lss rfl rfl) ?_
     refine ns ?_
     refine wc_cond_f rfl (decide_eq_false (by omega)) ?_
     refine wc_exit ?_
     refine qe_then_exit ?_
     refine qe_then_exit ?_
     refine qe_block_eq ?_
     obtain rfl := oi h47
     exact qe_mid' ⟨_, K49, rfl, rfl, hS52, hl50⟩ ⟨rfl, trivial⟩
   ·rintro _ w42 ⟨s39, K40, rfl, rfl, hS43, hl41⟩
    refine qs ?_
    refine sr ?_
    refine wl_val wn rfl (rv_fieldAddr ff44_2 rfl) ?_
    refine wl_val wn rfl (rv_loadm1 tf42 rfl (.head _) hS43 rfl) ?_
    refine wl_val wn rfl (rv_len (t := tGAttr) Tryz.underlying42 rfl (SliceAt.mono (hl18.trans hl41) hs9)) ?_
    refine wl_val wn rfl (rv_move (v := .int .i64 0) rfl) ?_
    refine nq ?_
    obtain ⟨o138, h139, h140⟩ := ob h38
    refine wc_cutg (fun E' w' => ∃ (s141 : Unit) (K142 : KMap), o138 = .inl s141 ∧ E' = [] ∧ SH w K [] w' K142 [] ∧ KLe K40 K142) ?_ ?_
    ·refine wc_block ?_
     obtain ⟨r147, h148, h149⟩ := ob h139
     refine wc_for' (fun (i150 : Nat) (s146 : Unit) E' w' => ∃ (K151 : KMap), E' = [(1, .pointer (some ⟨g10, 0, none⟩)), (59, .slice a6 n7 c8), (60, .int .i64 (p0_d.Nums.length : Int)), (61, .int .i64 ((i150 : Nat) : Int))] ∧ SH w K [] w' K151 [obj g10 [.int .i64 p0_d.Id, .slice a2 n3 c4, .slice a6 n7 c8] 44] ∧ KLe K40 K151) h148 ⟨K40, rfl, hS43, (KLe.refl _)⟩ ⟨rfl, rfl, rfl, rfl, trivial⟩ ?_ ?_
     ·rintro i150 s146 _ w153 r155 hi156 h157 hx158 ⟨K151, rfl, hS154, hl152⟩
      refine sr ?_
      refine wl_val wn rfl (rv_lss rfl rfl) ?_
      refine ns ?_
      refine wc_cond_t rfl (decide_eq_true (by omega)) (wc_skip (qe_seq (wc_seq ?_)))
      refine wc_block ?_
      refine sr ?_
      refine vm rfl rfl ?_
      obtain ⟨x159, hx160, h161⟩ := ob h157
      refine wl_indexAddr (t := tGAttr) wn rfl Tryz.underlying42 tf152 rfl rfl (SliceAt.mono ((hl18.trans hl41).trans hl152) hs9) hx160 ?_
      intro b162 o163 u164 hu165 ha166
      obtain ⟨rfl, hl167, hr168⟩ := hu165
      have ha169 : AtK _ b162 o163 [sv x159.Name, .int .i64 x159.Num] := ha166
      refine wl_val wn rfl (rv_loadS (cs := [sv x159.Name, .int .i64 x159.Num]) tf152 rfl hS154 ha169 rfl) ?_
      refine wl_alloc wn rfl tf152 hS154 ?_
      intro g170 w171 hS172
      have hS173 : SH _ _ _ _ _ [obj g170 [sv [], .int .i64 0] 152, _] := hS172
      refine va rfl rfl ?_
      refine wl_store (cs' := [sv x159.Name, .int .i64 x159.Num]) (v := .agg #[sv x159.Name, .int .i64 x159.Num]) wn tf152 rfl rfl rfl (by simp [Value.cells, Value.oneCell', sv]) hS173 rfl rfl ?_
      intro w174 hS175
      refine ns ?_
      obtain ⟨o176, h177, h178⟩ := ob h161
      refine wc_cutg (fun E' w' => ∃ (K179 : KMap), E' = [(1, .pointer (some ⟨g10, 0, none⟩)), (59, .slice a6 n7 c8), (60, .int .i64 (p0_d.Nums.length : Int)), (61, .int .i64 ((i150 : Nat) : Int)), (91, .bool o176)] ∧ SH w K [] w' K179 [obj g10 [.int .i64 p0_d.Id, .slice a2 n3 c4, .slice a6 n7 c8] 44] ∧ KLe K151 K179) ?_ ?_
      ·refine wc_quiet mixed (by kernel_rfl) hS175 ?_
       refine wq_val wn rfl (fun _ _ => (rv_fieldAddr ff152_0 rfl)) ?_
       refine wq_val wn rfl (rq_loadm1 tf9 rfl (.head _) rfl) ?_
       obtain ⟨r183, hx184, h185⟩ := ob h177
       refine wq_call (v := .bool r183) wn rfl (fun _ => rt_call (vs := [sv x159.Name]) co99 rfl) (fun w188 ⟨K186, hS187, hl189⟩ => ((ok_impl_WordOk F) hS187.enter0 hl167 hx184).mono fun e w' ⟨K', he, hS'⟩ => ⟨he, K', hS187.call0 hS', hl189.trans hS'.le⟩) ?_
       refine wq_val wn rfl (fun _ _ => (rv_not rfl)) ?_
       refine qm rfl rfl ?_
       rcases bool_tf ((!r183)) with hb190 | hb190
       ·have h191 := cond_t hb190 h185
        refine wq_un (ug rfl rfl hb190) rfl ?_
        refine wq_un (ug rfl rfl hb190) rfl ?_
        refine wq_un (ug rfl rfl hb190) rfl ?_
        refine wq_un (ug rfl rfl hb190) rfl ?_
        refine wq_val wn rfl (fun _ _ => (rv_pick_t (v := .bool true) rfl hb190 rfl)) ?_
        refine qm rfl rfl ?_
        refine qv rfl rfl rfl rfl ?_
        refine qv rfl rfl rfl rfl ?_
        refine qv rfl rfl rfl rfl ?_
        refine qu rfl rfl rfl ?_
        refine qu rfl rfl rfl ?_
        refine qu rfl rfl rfl ?_
        refine qu rfl rfl rfl ?_
        refine qu rfl rfl rfl ?_
        refine qu rfl rfl rfl ?_
        refine qu rfl rfl rfl ?_
        refine qu rfl rfl rfl ?_
        refine qu rfl rfl rfl ?_
        refine qu rfl rfl rfl ?_
        refine qv rfl rfl rfl rfl ?_
        refine wq_val wn rfl (fun _ _ => (rv_pick_t (v := .bool true) rfl rfl rfl)) ?_
        refine wq_nil ?_
        rintro w193 ⟨K192, hS194, hl195⟩
        obtain rfl := oi h191
        have hS196 : SH _ _ _ _ _ [_] := SH.sublist hS194 (.cons _ (.cons_cons _ .slnil))
        exact qe_mid' ⟨K192, rfl, hS196, hl195⟩ ⟨rfl, rfl, rfl, rfl, rfl, trivial⟩
       ·have h191 := cond_f hb190 h185
        refine wq_val (wg rfl rfl hb190) rfl (fun _ _ => (rv_fieldAddr ff152_1 rfl)) ?_
        refine wq_val (wg rfl rfl hb190) rfl (rq_loadm1 tf3 rfl (.head _) rfl) ?_
        obtain ⟨r197, hx198, h199⟩ := ob h191
        refine wq_call (v := .bool r197) (wg rfl rfl hb190) rfl (fun _ => rt_call (vs := [.int .i64 x159.Num, .int .i64 0, .int .i64 999999999]) co98 rfl) (fun w202 ⟨K200, hS201, hl203⟩ => ((ok_impl_within F) hS201.enter0 hr168 (by decide : rng64 0) (by decide : rng64 999999999) hx198).mono fun e w' ⟨K', he, hS'⟩ => ⟨he, K', hS201.call0 hS', hl203.trans hS'.le⟩) ?_
        refine wq_val (wg rfl rfl hb190) rfl (fun _ _ => (rv_not rfl)) ?_
        refine wq_val wn rfl (fun _ _ => (rv_pick_f rfl hb190 rfl)) ?_
        refine qm rfl rfl ?_
        rcases bool_tf ((!r197)) with hb204 | hb204
        ·have h205 := cond_t hb204 h199
         refine wq_un (ug rfl rfl hb204) rfl ?_
         refine wq_un (ug rfl rfl hb204) rfl ?_
         refine wq_un (ug rfl rfl hb204) rfl ?_
         refine qu rfl rfl rfl ?_
         refine qu rfl rfl rfl ?_
         refine qu rfl rfl rfl ?_
         refine qu rfl rfl rfl ?_
         refine qu rfl rfl rfl ?_
         refine qu rfl rfl rfl ?_
         refine qu rfl rfl rfl ?_
         refine qu rfl rfl rfl ?_
         refine qu rfl rfl rfl ?_
         refine qu rfl rfl rfl ?_
         refine wq_un (ug rfl rfl hb204) rfl ?_
         refine wq_val wn rfl (fun _ _ => (rv_pick_t (v := .bool true) rfl hb204 rfl)) ?_
         refine wq_nil ?_
         rintro w207 ⟨K206, hS208, hl209⟩
         obtain rfl := oi h205
         have hS210 : SH _ _ _ _ _ [_] := SH.sublist hS208 (.cons _ (.cons_cons _ .slnil))
         exact qe_mid' ⟨K206, rfl, hS210, hl209⟩ ⟨rfl, rfl, rfl, rfl, rfl, trivial⟩
        ·have h205 := cond_f hb204 h199
         refine wq_val (wg rfl rfl hb204) rfl (fun _ _ => (rv_move rfl)) ?_
         refine wq_val (wg rfl rfl hb204) rfl (fun _ _ => (rv_gtr rfl rfl)) ?_
         refine wq_val (wg rfl rfl hb204) rfl (fun _ _ => (rv_move rfl)) ?_
         rcases bool_tf (decide ((0 : Int) < ((i150 : Nat) : Int))) with hb211 | hb211
         ·have h212 := cond_t hb211 h205
          refine wq_val (wg rfl rfl hb211) rfl (fun _ _ => (rv_fieldAddr ff44_2 rfl)) ?_
          refine wq_val (wg rfl rfl hb211) rfl (rq_loadm1 tf42 rfl (.tail _ (.head _)) rfl) ?_
          refine wq_val (wg rfl rfl hb211) rfl (fun _ _ => (rv_move rfl)) ?_
          refine wq_val (wg rfl rfl hb211) rfl (fun _ _ => (rv_sub rfl rfl)) ?_
          obtain ⟨x213, hx214, h215⟩ := ob h212
          refine wq_indexAddr (t := tGAttr) (wg rfl rfl hb211) rfl Tryz.underlying42 tf152 rfl rfl (SliceAt.mono ((hl18.trans hl41).trans hl152) hs9) hx214 ?_
          intro b216 o217 u218 hu219 ha220
          obtain ⟨rfl, hl221, hr222⟩ := hu219
          have ha223 : AtK _ b216 o217 [sv x213.Name, .int .i64 x213.Num] := ha220
          refine wq_val (wg rfl rfl hb211) rfl (fun _ _ => (rv_fieldAddr ff152_0 rfl)) ?_
          refine wq_val (wg rfl rfl hb211) rfl (rq_load1 tf9 rfl (ha223 0 _ rfl)) ?_
          refine wq_val (wg rfl rfl hb211) rfl (fun _ _ => (rv_fieldAddr ff152_0 rfl)) ?_
          refine wq_val (wg rfl rfl hb211) rfl (rq_loadm1 tf9 rfl (.head _) rfl) ?_
          refine wq_val (wg rfl rfl hb211) rfl (fun _ _ => (rv_sgeq rfl rfl)) ?_
          refine wq_val (wg rfl rfl hb204) rfl (fun _ _ => (rv_pick_t rfl hb211 rfl)) ?_
          refine wq_val wn rfl (fun _ _ => (rv_pick_f rfl hb204 rfl)) ?_
          refine wq_nil ?_
          rintro w225 ⟨K224, hS226, hl227⟩
          obtain rfl := oi h215
          have hS228 : SH _ _ _ _ _ [_] := SH.sublist hS226 (.cons _ (.cons_cons _ .slnil))
          exact qe_mid' ⟨K224, rfl, hS228, hl227⟩ ⟨rfl, rfl, rfl, rfl, rfl, trivial⟩
         ·have h212 := cond_f hb211 h205
          refine wq_un (ug rfl rfl hb211) rfl ?_
          refine wq_un (ug rfl rfl hb211) rfl ?_
          refine wq_un (ug rfl rfl hb211) rfl ?_
          refine wq_un (ug rfl rfl hb211) rfl ?_
          refine wq_un (ug rfl rfl hb211) rfl ?_
          refine wq_un (ug rfl rfl hb211) rfl ?_
          refine wq_un (ug rfl rfl hb211) rfl ?_
          refine wq_un (ug rfl rfl hb211) rfl ?_
          refine wq_un (ug rfl rfl hb211) rfl ?_
          refine wq_un (ug rfl rfl hb211) rfl ?_
          refine wq_val (wg rfl rfl hb204) rfl (fun _ _ => (rv_pick_f (v := .bool false) rfl hb211 rfl)) ?_
          refine wq_val wn rfl (fun _ _ => (rv_pick_f rfl hb204 rfl)) ?_
          refine wq_nil ?_
          rintro w230 ⟨K229, hS231, hl232⟩
          obtain rfl := oi h212
          have hS233 : SH _ _ _ _ _ [_] := SH.sublist hS231 (.cons _ (.cons_cons _ .slnil))
          exact qe_mid' ⟨K229, rfl, hS233, hl232⟩ ⟨rfl, rfl, rfl, rfl, rfl, trivial⟩
      ·rintro _ w181 ⟨K179, rfl, hS182, hl180⟩
       refine qe_seq ?_
       refine wc_cond rfl (fun hb234 => ?_) (fun hb234 => ?_)
       ·have h235 := cond_t hb234 h178
        refine sr ?_
        refine wl_val wn rfl (rv_assign (v := .bool false) rfl) ?_
        refine nq ?_
        refine wc_ret ?_
        refine qe_block_ret ?_
        refine qe_then_ret ?_
        refine qe_then_ret ?_
        obtain rfl := oi h235
        have e236 := hx158 _ rfl
        subst e236
        refine qe_block_ret ?_
        refine qe_then_ret ?_
        obtain rfl := oi h149
        refine qe_then_ret ?_
        obtain rfl := oi h140
        have hS237 : SH _ _ _ _ _ [] := SH.sublist hS182 (.cons _ .slnil)
        exact qe_ret (vs := [_]) Tryz.results60 ⟨rfl, trivial⟩ ⟨K179, rfl, hS237⟩
       ·have h235 := cond_f hb234 h178
        refine wc_skip ?_
        refine qe_block ?_
        refine qg ?_
        refine wl_val wn rfl (rv_add_to rfl rfl (w64_succ hi156 (SliceAt.max (SliceAt.mono (hl18.trans hl41) hs9)))) ?_
        refine vm rfl rfl ?_
        refine wl_nil ?_
        obtain rfl := oi h235
        exact qe_mid' ⟨_, rfl, K179, rfl, hS182, (hl152.trans hl180)⟩ ⟨rfl, rfl, rfl, rfl, trivial⟩
     ·rintro s146 _ w153 hr238 ⟨K151, rfl, hS154, hl152⟩
      subst hr238
      refine sr ?_
      refine wl_val wn rfl (rv_lss rfl rfl) ?_
      refine ns ?_
      refine wc_cond_f rfl (decide_eq_false (by omega)) ?_
      refine wc_exit ?_
      refine qe_then_exit ?_
      refine qe_then_exit ?_
      refine qe_block_eq ?_
      obtain rfl := oi h149
      have hS239 : SH _ _ _ _ _ [] := SH.sublist hS154 (.cons _ .slnil)
      exact qe_mid' ⟨_, K151, rfl, rfl, hS239, hl152⟩ trivial
    ·rintro _ w144 ⟨s141, K142, rfl, rfl, hS145, hl143⟩
     refine qr ?_
     refine wl_val wn rfl (rv_assign (v := .bool true) rfl) ?_
     refine nq ?_
     refine wc_ret ?_
     obtain rfl := oi h140
     exact qe_ret (vs := [_]) Tryz.results60 ⟨rfl, trivial⟩ ⟨K142, rfl, hS145⟩

set_option maxHeartbeats 2000000 in
theorem ok_impl_DocsOk (F : Nat) {w : World} {K : KMap} {a1 : Option Addr} {n2 c3 : Nat} {p0_list : List GDoc} {r : Bool} (hS : SH w K [] w K []) (hs4 : SliceAt tGDoc K a1 n2 c3 p0_list) (hm : M.impl_DocsOk F p0_list = some r) :
  Calls Tryz.prog 52 #[.slice a1 n2 c3] w fun e w' => ∃ (K' : KMap), e = .returned (.bool r) ∧ SH w K [] w' K' [] := by
 rw [M.impl_DocsOk] at hm
 refine calls_in Tryz.func52 rfl Tryz.ntmps52 rfl ?_
 refine sr ?_
 refine wl_val wn rfl (rv_assign (v := .bool false) rfl) ?_
 refine nsr ?_
 refine vm rfl rfl ?_
 refine wl_val wn rfl (rv_len (t := tGDoc) Tryz.underlying27 rfl hs4) ?_
 refine wl_val wn rfl (rv_move (v := .int .i64 0) rfl) ?_
 refine nq ?_
 obtain ⟨o5, h6, h7⟩ := ob hm
 refine wc_cutg (fun E' w' => ∃ (s8 : Unit) (K9 : KMap), o5 = .inl s8 ∧ E' = [(0, .slice a1 n2 c3)] ∧ SH w K [] w' K9 [] ∧ KLe K K9) ?_ ?_
 ·refine wc_block ?_
  obtain ⟨r14, h15, h16⟩ := ob h6
  refine wc_for' (fun (i17 : Nat) (s13 : Unit) E' w' => ∃ (K18 : KMap), E' = [(0, .slice a1 n2 c3), (5, .slice a1 n2 c3), (6, .int .i64 (p0_list.length : Int)), (7, .int .i64 ((i17 : Nat) : Int))] ∧ SH w K [] w' K18 [] ∧ KLe K K18) h15 ⟨K, rfl, hS, (KLe.refl _)⟩ ⟨rfl, rfl, rfl, rfl, trivial⟩ ?_ ?_
  ·rintro i17 s13 _ w20 r22 hi23 h24 hx25 ⟨K18, rfl, hS21, hl19⟩
   refine sr ?_
   refine wl_val wn rfl (rv_lss rfl rfl) ?_
   refine ns ?_
   refine wc_cond_t rfl (decide_eq_true (by omega)) (wc_skip (qe_seq (wc_seq ?_)))
   refine wc_block ?_
   refine sr ?_
   refine vm rfl rfl ?_
   obtain ⟨x26, hx27, h28⟩ := ob h24
   refine wl_indexAddr (t := tGDoc) wn rfl Tryz.underlying27 tf44 rfl rfl (SliceAt.mono hl19 hs4) hx27 ?_
   intro b29 o30 u31 hu32 ha33
   obtain ⟨a35, n36, c37, a39, n40, c41, rfl, hr34, hs38, hs42⟩ := hu32
   have ha43 : AtK _ b29 o30 [.int .i64 x26.Id, .slice a35 n36 c37, .slice a39 n40 c41] := ha33
   refine wl_val wn rfl (rv_loadS (cs := [.int .i64 x26.Id, .slice a35 n36 c37, .slice a39 n40 c41]) tf44 rfl hS21 ha43 rfl) ?_
   refine wl_alloc wn rfl tf44 hS21 ?_
   intro g44 w45 hS46
   have hS47 : SH _ _ _ _ _ [obj g44 [.int .i64 0, .slice none 0 0, .slice none 0 0] 44] := hS46
   refine va rfl rfl ?_
   refine wl_store (cs' := [.int .i64 x26.Id, .slice a35 n36 c37, .slice a39 n40 c41]) (v := .agg #[.int .i64 x26.Id, .slice a35 n36 c37, .slice a39 n40 c41]) wn tf44 rfl rfl rfl (by simp [Value.cells, Value.oneCell']) hS47 rfl rfl ?_
   intro w48 hS49
   refine ns ?_
   obtain ⟨o50, h51, h52⟩ := ob h28
   refine wc_cutg (fun E' w' => ∃ (K53 : KMap), E' = [(0, .slice a1 n2 c3), (5, .slice a1 n2 c3), (6, .int .i64 (p0_list.length : Int)), (7, .int .i64 ((i17 : Nat) : Int)), (29, .bool o50)] ∧ SH w K [] w' K53 [] ∧ KLe K18 K53) ?_ ?_
   ·refine wc_quiet mixed (by kernel_rfl) hS49 ?_
    refine wq_val wn rfl (rq_loadmS (ds := [.int .i64 x26.Id, .slice a35 n36 c37, .slice a39 n40 c41]) tf44 rfl (.head _) rfl rfl) ?_
    obtain ⟨r57, hx58, h59⟩ := ob h51
    refine wq_call (v := .bool r57) wn rfl (fun _ => rt_call (vs := [.agg #[.int .i64 x26.Id, .slice a35 n36 c37, .slice a39 n40 c41]]) co60 rfl) (fun w62 ⟨K60, hS61, hl63⟩ => ((ok_impl_DocOk F) hS61.enter0 hr34 (SliceAt.mono hl63 hs38) (SliceAt.mono hl63 hs42) hx58).mono fun e w' ⟨K', he, hS'⟩ => ⟨he, K', hS61.call0 hS', hl63.trans hS'.le⟩) ?_
    refine wq_val wn rfl (fun _ _ => (rv_not rfl)) ?_
    refine qm rfl rfl ?_
    rcases bool_tf ((!r57)) with hb64 | hb64
    ·have h65 := cond_t hb64 h59
     refine wq_un (ug rfl rfl hb64) rfl ?_
     refine wq_un (ug rfl rfl hb64) rfl ?_
     refine wq_un (ug rfl rfl hb64) rfl ?_
     refine qu rfl rfl rfl ?_
     refine qu rfl rfl rfl ?_
     refine qu rfl rfl rfl ?_
     refine qu rfl rfl rfl ?_
     refine qu rfl rfl rfl ?_
     refine qu rfl rfl rfl ?_
     refine qu rfl rfl rfl ?_
     refine qu rfl rfl rfl ?_
     refine qu rfl rfl rfl ?_
     refine wq_un (ug rfl rfl hb64) rfl ?_
     refine wq_val wn rfl (fun _ _ => (rv_pick_t (v := .bool true) rfl hb64 rfl)) ?_
     refine wq_nil ?_
     rintro w67 ⟨K66, hS68, hl69⟩
     obtain rfl := oi h65
     have hS70 : SH _ _ _ _ _ [] := SH.sublist hS68 (.cons _ .slnil)
     exact qe_mid' ⟨K66, rfl, hS70, hl69⟩ ⟨rfl, rfl, rfl, rfl, rfl, trivial⟩
    ·have h65 := cond_f hb64 h59
     refine wq_val (wg rfl rfl hb64) rfl (fun _ _ => (rv_move rfl)) ?_
     refine wq_val (wg rfl rfl hb64) rfl (fun _ _ => (rv_gtr rfl rfl)) ?_
     refine wq_val (wg rfl rfl hb64) rfl (fun _ _ => (rv_move rfl)) ?_
     rcases bool_tf (decide ((0 : Int) < ((i17 : Nat) : Int))) with hb71 | hb71
     ·have h72 := cond_t hb71 h65
      refine wq_val (wg rfl rfl hb71) rfl (fun _ _ => (rv_move rfl)) ?_
      refine wq_val (wg rfl rfl hb71) rfl (fun _ _ => (rv_move rfl)) ?_
      refine wq_val (wg rfl rfl hb71) rfl (fun _ _ => (rv_sub rfl rfl)) ?_
      obtain ⟨x73, hx74, h75⟩ := ob h72
      refine wq_indexAddr (t := tGDoc) (wg rfl rfl hb71) rfl Tryz.underlying27 tf44 rfl rfl (SliceAt.mono hl19 hs4) hx74 ?_
      intro b76 o77 u78 hu79 ha80
      obtain ⟨a82, n83, c84, a86, n87, c88, rfl, hr81, hs85, hs89⟩ := hu79
      have ha90 : AtK _ b76 o77 [.int .i64 x73.Id, .slice a82 n83 c84, .slice a86 n87 c88] := ha80
      refine wq_val (wg rfl rfl hb71) rfl (fun _ _ => (rv_fieldAddr ff44_0 rfl)) ?_
      refine wq_val (wg rfl rfl hb71) rfl (rq_load1 tf3 rfl (ha90 0 _ rfl)) ?_
      refine wq_val (wg rfl rfl hb71) rfl (fun _ _ => (rv_fieldAddr ff44_0 rfl)) ?_
      refine wq_val (wg rfl rfl hb71) rfl (rq_loadm1 tf3 rfl (.head _) rfl) ?_
      refine wq_val (wg rfl rfl hb71) rfl (fun _ _ => (rv_geq rfl rfl)) ?_
      refine wq_val (wg rfl rfl hb64) rfl (fun _ _ => (rv_pick_t rfl hb71 rfl)) ?_
      refine wq_val wn rfl (fun _ _ => (rv_pick_f rfl hb64 rfl)) ?_
      refine wq_nil ?_
      rintro w92 ⟨K91, hS93, hl94⟩
      obtain rfl := oi h75
      have hS95 : SH _ _ _ _ _ [] := SH.sublist hS93 (.cons _ .slnil)
      exact qe_mid' ⟨K91, rfl, hS95, hl94⟩ ⟨rfl, rfl, rfl, rfl, rfl, trivial⟩
     ·have h72 := cond_f hb71 h65
      refine wq_un (ug rfl rfl hb71) rfl ?_
      refine wq_un (ug rfl rfl hb71) rfl ?_
      refine wq_un (ug rfl rfl hb71) rfl ?_
      refine wq_un (ug rfl rfl hb71) rfl ?_
      refine wq_un (ug rfl rfl hb71) rfl ?_
      refine wq_un (ug rfl rfl hb71) rfl ?_
      refine wq_un (ug rfl rfl hb71) rfl ?_
      refine wq_un (ug rfl rfl hb71) rfl ?_
      refine wq_un (ug rfl rfl hb71) rfl ?_
      refine wq_val (wg rfl rfl hb64) rfl (fun _ _ => (rv_pick_f (v := .bool false) rfl hb71 rfl)) ?_
      refine wq_val wn rfl (fun _ _ => (rv_pick_f rfl hb64 rfl)) ?_
      refine wq_nil ?_
      rintro w97 ⟨K96, hS98, hl99⟩
      obtain rfl := oi h72
      have hS100 : SH _ _ _ _ _ [] := SH.sublist hS98 (.cons _ .slnil)
      exact qe_mid' ⟨K96, rfl, hS100, hl99⟩ ⟨rfl, rfl, rfl, rfl, rfl, trivial⟩
   ·rintro _ w55 ⟨K53, rfl, hS56, hl54⟩
    refine qe_seq ?_
    refine wc_cond rfl (fun hb101 => ?_) (fun hb101 => ?_)
    ·have h102 := cond_t hb101 h52
     refine sr ?_
     refine wl_val wn rfl (rv_assign (v := .bool false) rfl) ?_
     refine nq ?_
     refine wc_ret ?_
     refine qe_block_ret ?_
     refine qe_then_ret ?_
     refine qe_then_ret ?_
     obtain rfl := oi h102
     have e103 := hx25 _ rfl
     subst e103
     refine qe_block_ret ?_
     refine qe_then_ret ?_
     obtain rfl := oi h16
     refine qe_then_ret ?_
     obtain rfl := oi h7
     exact qe_ret (vs := [_]) Tryz.results52 ⟨rfl, trivial⟩ ⟨K53, rfl, hS56⟩
    ·have h102 := cond_f hb101 h52
     refine wc_skip ?_
     refine qe_block ?_
     refine qg ?_
     refine wl_val wn rfl (rv_add_to rfl rfl (w64_succ hi23 (SliceAt.max hs4))) ?_
     refine vm rfl rfl ?_
     refine wl_nil ?_
     obtain rfl := oi h102
     exact qe_mid' ⟨_, rfl, K53, rfl, hS56, (hl19.trans hl54)⟩ ⟨rfl, rfl, rfl, rfl, trivial⟩
  ·rintro s13 _ w20 hr104 ⟨K18, rfl, hS21, hl19⟩
   subst hr104
   refine sr ?_
   refine wl_val wn rfl (rv_lss rfl rfl) ?_
   refine ns ?_
   refine wc_cond_f rfl (decide_eq_false (by omega)) ?_
   refine wc_exit ?_
   refine qe_then_exit ?_
   refine qe_then_exit ?_
   refine qe_block_eq ?_
   obtain rfl := oi h16
   exact qe_mid' ⟨_, K18, rfl, rfl, hS21, hl19⟩ ⟨rfl, trivial⟩
 ·rintro _ w11 ⟨s8, K9, rfl, rfl, hS12, hl10⟩
  refine qr ?_
  refine vm rfl rfl ?_
  refine wl_val wn rfl (rv_len (t := tGDoc) Tryz.underlying27 rfl (SliceAt.mono hl10 hs4)) ?_
  refine wl_val wn rfl (rv_leq rfl rfl) ?_
  refine va rfl rfl ?_
  refine nq ?_
  refine wc_ret ?_
  obtain rfl := oi h7
  exact qe_ret (vs := [_]) Tryz.results52 ⟨rfl, trivial⟩ ⟨K9, rfl, hS12⟩

theorem ok_impl_cloneDoc (F : Nat) {w : World} {K : KMap} {a2 : Option Addr} {n3 c4 : Nat} {a6 : Option Addr} {n7 c8 : Nat} {p0_d : GDoc} {r : GDoc} (hS : SH w K [] w K []) (hr1 : rng64 p0_d.Id) (hs5 : SliceAt tGField K a2 n3 c4 p0_d.Fields) (hs9 : SliceAt tGAttr K a6 n7 c8 p0_d.Nums) (hm : M.impl_cloneDoc F p0_d = some r) :
  Calls Tryz.prog 121 #[.agg #[.int .i64 p0_d.Id, .slice a2 n3 c4, .slice a6 n7 c8]] w fun e w' => ∃ (a_2 : Option Addr) (n_3 c_4 : Nat) (a_6 : Option Addr) (n_7 c_8 : Nat) (K' : KMap), e = .returned (.agg #[.int .i64 r.Id, .slice a_2 n_3 c_4, .slice a_6 n_7 c_8]) ∧ SH w K [] w' K' [tail (.slice a_2 n_3 c_4) 109 2, tail (.slice a_6 n_7 c_8) 152 2] ∧ rng64 r.Id ∧ SliceAt tGField K' a_2 n_3 c_4 r.Fields ∧ SliceAt tGAttr K' a_6 n_7 c_8 r.Nums := by
 rw [M.impl_cloneDoc] at hm
 refine calls_in Tryz.func121 rfl Tryz.ntmps121 rfl ?_
 refine sr ?_
 refine wl_box wn rfl rfl hS ?_
 intro g10 w11 hS12
 have hS13 : SH _ _ _ _ _ [obj g10 [.int .i64 p0_d.Id, .slice a2 n3 c4, .slice a6 n7 c8] 44] := hS12
 refine wl_alloc wn rfl tf44 hS13 ?_
 intro g14 w15 hS16
 have hS17 : SH _ _ _ _ _ [obj g14 [.int .i64 0, .slice none 0 0, .slice none 0 0] 44, _] := hS16
 refine ns ?_
 obtain ⟨x26, hx27, h28⟩ := ob hm
 obtain ⟨x43, hx44, h45⟩ := ob h28
 refine wc_held (fun w' => Holds K w' ∧ HasObj g10 [.int .i64 p0_d.Id, .slice a2 n3 c4, .slice a6 n7 c8] w') (fun w' => True) 12 [] mixed ?_
 have hS19 := SH.drew hS17
 refine wg_val (i := 0) (listed' := #[true, false, false, false, false, false, false, false, false, false, false, false]) (fun _ => True) rfl (by kernel_rfl) (pk_then pk_body) (by kernel_rfl) rfl (by kernel_rfl) (by kernel_rfl) rfl (.inl fun _ _ => trivial) ⟨⟨hS19.hasK (KLe.refl _), hS19.hasObj (.tail _ (.head _))⟩, (fun _ => trivial), by decide⟩ wn rfl (fun _ _ => (rv_fieldAddr ff44_0 rfl)) ?_
 refine wg_val (i := 1) (listed' := #[true, true, false, false, false, false, false, false, false, false, false, false]) (HasObj g10 [.int .i64 p0_d.Id, .slice a2 n3 c4, .slice a6 n7 c8]) rfl (by kernel_rfl) (pk_then pk_body) (by kernel_rfl) rfl (by kernel_rfl) (by kernel_rfl) rfl (.inl fun _ h => h.2) ⟨⟨hS19.hasK (KLe.refl _), hS19.hasObj (.tail _ (.head _))⟩, (fun _ => trivial), by decide⟩ wn rfl (fun _ h => rh_loadm1 tf3 rfl rfl h) ?_
 refine wg_val (i := 3) (listed' := #[true, true, false, true, false, false, false, false, false, false, false, false]) (fun _ => True) rfl (by kernel_rfl) (pk_then pk_body) (by kernel_rfl) rfl (by kernel_rfl) (by kernel_rfl) rfl (.inl fun _ _ => trivial) ⟨⟨hS19.hasK (KLe.refl _), hS19.hasObj (.tail _ (.head _))⟩, (fun _ => trivial), by decide⟩ wn rfl (fun _ _ => (rv_fieldAddr ff44_1 rfl)) ?_
 refine wg_val (i := 4) (listed' := #[true, true, false, true, true, false, false, false, false, false, false, false]) (HasObj g10 [.int .i64 p0_d.Id, .slice a2 n3 c4, .slice a6 n7 c8]) rfl (by kernel_rfl) (pk_then pk_body) (by kernel_rfl) rfl (by kernel_rfl) (by kernel_rfl) rfl (.inl fun _ h => h.2) ⟨⟨hS19.hasK (KLe.refl _), hS19.hasObj (.tail _ (.head _))⟩, (fun _ => trivial), by decide⟩ wn rfl (fun _ h => rh_loadm1 tf41 rfl rfl h) ?_
 refine wg_val (i := 7) (listed' := #[true, true, false, true, true, false, false, true, false, false, false, false]) (fun _ => True) rfl (by kernel_rfl) (pk_then pk_body) (by kernel_rfl) rfl (by kernel_rfl) (by kernel_rfl) rfl (.inl fun _ _ => trivial) ⟨⟨hS19.hasK (KLe.refl _), hS19.hasObj (.tail _ (.head _))⟩, (fun _ => trivial), by decide⟩ wn rfl (fun _ _ => (rv_fieldAddr ff44_2 rfl)) ?_
 refine wg_val (i := 8) (listed' := #[true, true, false, true, true, false, false, true, true, false, false, false]) (HasObj g10 [.int .i64 p0_d.Id, .slice a2 n3 c4, .slice a6 n7 c8]) rfl (by kernel_rfl) (pk_then pk_body) (by kernel_rfl) rfl (by kernel_rfl) (by kernel_rfl) rfl (.inl fun _ h => h.2) ⟨⟨hS19.hasK (KLe.refl _), hS19.hasObj (.tail _ (.head _))⟩, (fun _ => trivial), by decide⟩ wn rfl (fun _ h => rh_loadm1 tf42 rfl rfl h) ?_
 refine wg_many (l := [2, 6]) (by kernel_rfl) rfl ⟨⟨_, rfl, ?_⟩, ⟨_, rfl, ?_⟩, trivial⟩
 ·refine wl_buildSlice0 tGField wn rfl Tryz.underlying41 tf109 hS19 ?_
  intro a57 w58 K59 hl60 hs61 hS62
  refine wl_nil (qe_held (listed' := #[true, true, true, true, true, false, false, true, true, false, false, false]) rfl ⟨⟨hS62.hasK hl60, hS62.hasObj (.tail _ (.tail _ (.head _)))⟩, (fun _ => trivial), by decide⟩ ?_)
  refine wg_many (l := [5, 6]) (by kernel_rfl) rfl ⟨⟨_, rfl, ?_⟩, ⟨_, rfl, ?_⟩, trivial⟩
  ·refine wl_append (t := tGField) wn rfl Tryz.underlying41 tf109 rfl rfl rfl rfl rfl hs61 (SliceAt.mono hl60 hs5) hx27 hS62 ?_
   intro a63 n64 c65 w66 K67 hl68 hs69 hS70
   refine wl_nil (qe_held (listed' := #[true, true, true, true, true, true, false, true, true, false, false, false]) rfl ⟨⟨hS70.hasK (hl60.trans hl68), hS70.hasObj (.tail _ (.tail _ (.head _)))⟩, (fun _ => trivial), by decide⟩ ?_)
   refine wg_one (i := 6) (by kernel_rfl) rfl ?_
   refine wl_buildSlice0 tGAttr wn rfl Tryz.underlying42 tf152 hS70 ?_
   intro a71 w72 K73 hl74 hs75 hS76
   refine wl_nil (qe_held (listed' := #[true, true, true, true, true, true, true, true, true, false, false, false]) rfl ⟨⟨hS76.hasK ((hl60.trans hl68).trans hl74), hS76.hasObj (.tail _ (.tail _ (.tail _ (.head _))))⟩, (fun _ => trivial), by decide⟩ ?_)
   refine wg_one (i := 9) (by kernel_rfl) rfl ?_
   refine wl_append (t := tGAttr) wn rfl Tryz.underlying42 tf152 rfl rfl rfl rfl rfl hs75 (SliceAt.mono ((hl60.trans hl68).trans hl74) hs9) hx44 hS76 ?_
   intro a77 n78 c79 w80 K81 hl82 hs83 hS84
   refine wl_nil (qe_held (listed' := #[true, true, true, true, true, true, true, true, true, true, false, false]) rfl ⟨⟨hS84.hasK (((hl60.trans hl68).trans hl74).trans hl82), hS84.hasObj (.tail _ (.tail _ (.tail _ (.head _))))⟩, (fun _ => trivial), by decide⟩ ?_)
   refine wg_val (i := 10) (listed' := #[true, true, true, true, true, true, true, true, true, true, true, false]) (fun _ => True) rfl (by kernel_rfl) (pk_then pk_body) (by kernel_rfl) rfl (by kernel_rfl) (by kernel_rfl) rfl (.inl fun _ _ => trivial) ⟨⟨hS84.hasK (((hl60.trans hl68).trans hl74).trans hl82), hS84.hasObj (.tail _ (.tail _ (.tail _ (.head _))))⟩, (fun _ => trivial), by decide⟩ wn rfl (fun _ _ => (rv_build (cs := #[.int .i64 p0_d.Id, .slice a63 n64 c65, .slice a77 n78 c79]) sp44 tf44 rfl (by kernel_rfl))) ?_
   refine wg_one (i := 11) (by kernel_rfl) rfl ?_
   have hS85 : SH _ _ _ _ _ [_, _, _, _] := SH.front (p := [_, _]) hS84
   refine wl_store (cs' := [.int .i64 p0_d.Id, .slice a63 n64 c65, .slice a77 n78 c79]) (v := .agg #[.int .i64 p0_d.Id, .slice a63 n64 c65, .slice a77 n78 c79]) wn tf44 rfl rfl rfl (by simp [Value.cells, Value.oneCell']) hS85 rfl rfl ?_
   intro w86 hS87
   refine wl_nil (qe_held (listed' := #[true, true, true, true, true, true, true, true, true, true, true, true]) rfl ⟨⟨hS87.hasK (((hl60.trans hl68).trans hl74).trans hl82), hS87.hasObj (.tail _ (.tail _ (.tail _ (.head _))))⟩, (fun _ => trivial), by decide⟩ ?_)
   refine wg_done (by kernel_rfl) ?_
   refine qe_seq ?_
   refine wc_ret ?_
   obtain rfl := oi h45
   have hS88 : SH _ _ _ _ _ [_, _, _, _] := SH.front (p := [_]) hS87
   have hS89 : SH _ _ _ _ _ [_, _, _, _] := SH.front (p := [_, _]) hS88
   have hS90 : SH _ _ _ _ _ [_, _] := SH.sublist hS89 (.cons_cons _ (.cons_cons _ (.cons _ (.cons _ .slnil))))
   exact qe_ret (vs := [_]) Tryz.results121 ⟨⟨_, _, rfl, run_loadVar_at tf44 (cs := [.int .i64 p0_d.Id, .slice a63 n64 c65, .slice a77 n78 c79]) (fun j c e => by rw [Nat.zero_add, hS87.mem_obj (.head _)]; exact e) (.inl ⟨rfl, rfl, rfl⟩)⟩, trivial⟩ ⟨a63, n64, c65, a77, n78, c79, K81, rfl, hS90, hr1, (SliceAt.mono (hl74.trans hl82) hs69), hs83⟩
  ·refine wl_buildSlice0 tGAttr wn rfl Tryz.underlying42 tf152 hS62 ?_
   intro a91 w92 K93 hl94 hs95 hS96
   refine wl_nil (qe_held (listed' := #[true, true, true, true, true, false, true, true, true, false, false, false]) rfl ⟨⟨hS96.hasK (hl60.trans hl94), hS96.hasObj (.tail _ (.tail _ (.tail _ (.head _))))⟩, (fun _ => trivial), by decide⟩ ?_)
   refine wg_one (i := 5) (by kernel_rfl) rfl ?_
   have hS97 : SH _ _ _ _ _ [_, _, _, _] := SH.front (p := [_]) hS96
   refine wl_append (t := tGField) wn rfl Tryz.underlying41 tf109 rfl rfl rfl rfl rfl (SliceAt.mono hl94 hs61) (SliceAt.mono (hl60.trans hl94) hs5) hx27 hS97 ?_
   intro a98 n99 c100 w101 K102 hl103 hs104 hS105
   refine wl_nil (qe_held (listed' := #[true, true, true, true, true, true, true, true, true, false, false, false]) rfl ⟨⟨hS105.hasK ((hl60.trans hl94).trans hl103), hS105.hasObj (.tail _ (.tail _ (.tail _ (.head _))))⟩, (fun _ => trivial), by decide⟩ ?_)
   refine wg_one (i := 9) (by kernel_rfl) rfl ?_
   have hS106 : SH _ _ _ _ _ [_, _, _, _] := SH.front (p := [_]) hS105
   refine wl_append (t := tGAttr) wn rfl Tryz.underlying42 tf152 rfl rfl rfl rfl rfl (SliceAt.mono hl103 hs95) (SliceAt.mono ((hl60.trans hl94).trans hl103) hs9) hx44 hS106 ?_
   intro a107 n108 c109 w110 K111 hl112 hs113 hS114
   refine wl_nil (qe_held (listed' := #[true, true, true, true, true, true, true, true, true, true, false, false]) rfl ⟨⟨hS114.hasK (((hl60.trans hl94).trans hl103).trans hl112), hS114.hasObj (.tail _ (.tail _ (.tail _ (.head _))))⟩, (fun _ => trivial), by decide⟩ ?_)
   refine wg_val (i := 10) (listed' := #[true, true, true, true, true, true, true, true, true, true, true, false]) (fun _ => True) rfl (by kernel_rfl) (pk_then pk_body) (by kernel_rfl) rfl (by kernel_rfl) (by kernel_rfl) rfl (.inl fun _ _ => trivial) ⟨⟨hS114.hasK (((hl60.trans hl94).trans hl103).trans hl112), hS114.hasObj (.tail _ (.tail _ (.tail _ (.head _))))⟩, (fun _ => trivial), by decide⟩ wn rfl (fun _ _ => (rv_build (cs := #[.int .i64 p0_d.Id, .slice a98 n99 c100, .slice a107 n108 c109]) sp44 tf44 rfl (by kernel_rfl))) ?_
   refine wg_one (i := 11) (by kernel_rfl) rfl ?_
   have hS115 : SH _ _ _ _ _ [_, _, _, _] := SH.front (p := [_, _]) hS114
   refine wl_store (cs' := [.int .i64 p0_d.Id, .slice a98 n99 c100, .slice a107 n108 c109]) (v := .agg #[.int .i64 p0_d.Id, .slice a98 n99 c100, .slice a107 n108 c109]) wn tf44 rfl rfl rfl (by simp [Value.cells, Value.oneCell']) hS115 rfl rfl ?_
   intro w116 hS117
   refine wl_nil (qe_held (listed' := #[true, true, true, true, true, true, true, true, true, true, true, true]) rfl ⟨⟨hS117.hasK (((hl60.trans hl94).trans hl103).trans hl112), hS117.hasObj (.tail _ (.tail _ (.tail _ (.head _))))⟩, (fun _ => trivial), by decide⟩ ?_)
   refine wg_done (by kernel_rfl) ?_
   refine qe_seq ?_
   refine wc_ret ?_
   obtain rfl := oi h45
   have hS118 : SH _ _ _ _ _ [_, _, _, _] := SH.front (p := [_]) hS117
   have hS119 : SH _ _ _ _ _ [_, _, _, _] := SH.front (p := [_, _]) hS118
   have hS120 : SH _ _ _ _ _ [_, _] := SH.sublist hS119 (.cons_cons _ (.cons_cons _ (.cons _ (.cons _ .slnil))))
   exact qe_ret (vs := [_]) Tryz.results121 ⟨⟨_, _, rfl, run_loadVar_at tf44 (cs := [.int .i64 p0_d.Id, .slice a98 n99 c100, .slice a107 n108 c109]) (fun j c e => by rw [Nat.zero_add, hS117.mem_obj (.head _)]; exact e) (.inl ⟨rfl, rfl, rfl⟩)⟩, trivial⟩ ⟨a98, n99, c100, a107, n108, c109, K111, rfl, hS120, hr1, (SliceAt.mono hl112 hs104), hs113⟩
 ·refine wl_buildSlice0 tGAttr wn rfl Tryz.underlying42 tf152 hS19 ?_
  intro a121 w122 K123 hl124 hs125 hS126
  refine wl_nil (qe_held (listed' := #[true, true, false, true, true, false, true, true, true, false, false, false]) rfl ⟨⟨hS126.hasK hl124, hS126.hasObj (.tail _ (.tail _ (.head _)))⟩, (fun _ => trivial), by decide⟩ ?_)
  refine wg_one (i := 2) (by kernel_rfl) rfl ?_
  refine wl_buildSlice0 tGField wn rfl Tryz.underlying41 tf109 hS126 ?_
  intro a127 w128 K129 hl130 hs131 hS132
  refine wl_nil (qe_held (listed' := #[true, true, true, true, true, false, true, true, true, false, false, false]) rfl ⟨⟨hS132.hasK (hl124.trans hl130), hS132.hasObj (.tail _ (.tail _ (.tail _ (.head _))))⟩, (fun _ => trivial), by decide⟩ ?_)
  refine wg_one (i := 5) (by kernel_rfl) rfl ?_
  refine wl_append (t := tGField) wn rfl Tryz.underlying41 tf109 rfl rfl rfl rfl rfl hs131 (SliceAt.mono (hl124.trans hl130) hs5) hx27 hS132 ?_
  intro a133 n134 c135 w136 K137 hl138 hs139 hS140
  refine wl_nil (qe_held (listed' := #[true, true, true, true, true, true, true, true, true, false, false, false]) rfl ⟨⟨hS140.hasK ((hl124.trans hl130).trans hl138), hS140.hasObj (.tail _ (.tail _ (.tail _ (.head _))))⟩, (fun _ => trivial), by decide⟩ ?_)
  refine wg_one (i := 9) (by kernel_rfl) rfl ?_
  have hS141 : SH _ _ _ _ _ [_, _, _, _] := SH.front (p := [_]) hS140
  refine wl_append (t := tGAttr) wn rfl Tryz.underlying42 tf152 rfl rfl rfl rfl rfl (SliceAt.mono (hl130.trans hl138) hs125) (SliceAt.mono ((hl124.trans hl130).trans hl138) hs9) hx44 hS141 ?_
  intro a142 n143 c144 w145 K146 hl147 hs148 hS149
  refine wl_nil (qe_held (listed' := #[true, true, true, true, true, true, true, true, true, true, false, false]) rfl ⟨⟨hS149.hasK (((hl124.trans hl130).trans hl138).trans hl147), hS149.hasObj (.tail _ (.tail _ (.tail _ (.head _))))⟩, (fun _ => trivial), by decide⟩ ?_)
  refine wg_val (i := 10) (listed' := #[true, true, true, true, true, true, true, true, true, true, true, false]) (fun _ => True) rfl (by kernel_rfl) (pk_then pk_body) (by kernel_rfl) rfl (by kernel_rfl) (by kernel_rfl) rfl (.inl fun _ _ => trivial) ⟨⟨hS149.hasK (((hl124.trans hl130).trans hl138).trans hl147), hS149.hasObj (.tail _ (.tail _ (.tail _ (.head _))))⟩, (fun _ => trivial), by decide⟩ wn rfl (fun _ _ => (rv_build (cs := #[.int .i64 p0_d.Id, .slice a133 n134 c135, .slice a142 n143 c144]) sp44 tf44 rfl (by kernel_rfl))) ?_
  refine wg_one (i := 11) (by kernel_rfl) rfl ?_
  have hS150 : SH _ _ _ _ _ [_, _, _, _] := SH.front (p := [_, _]) hS149
  refine wl_store (cs' := [.int .i64 p0_d.Id, .slice a133 n134 c135, .slice a142 n143 c144]) (v := .agg #[.int .i64 p0_d.Id, .slice a133 n134 c135, .slice a142 n143 c144]) wn tf44 rfl rfl rfl (by simp [Value.cells, Value.oneCell']) hS150 rfl rfl ?_
  intro w151 hS152
  refine wl_nil (qe_held (listed' := #[true, true, true, true, true, true, true, true, true, true, true, true]) rfl ⟨⟨hS152.hasK (((hl124.trans hl130).trans hl138).trans hl147), hS152.hasObj (.tail _ (.tail _ (.tail _ (.head _))))⟩, (fun _ => trivial), by decide⟩ ?_)
  refine wg_done (by kernel_rfl) ?_
  refine qe_seq ?_
  refine wc_ret ?_
  obtain rfl := oi h45
  have hS153 : SH _ _ _ _ _ [_, _, _, _] := SH.front (p := [_]) hS152
  have hS154 : SH _ _ _ _ _ [_, _, _, _] := SH.front (p := [_, _]) hS153
  have hS155 : SH _ _ _ _ _ [_, _] := SH.sublist hS154 (.cons_cons _ (.cons_cons _ (.cons _ (.cons _ .slnil))))
  exact qe_ret (vs := [_]) Tryz.results121 ⟨⟨_, _, rfl, run_loadVar_at tf44 (cs := [.int .i64 p0_d.Id, .slice a133 n134 c135, .slice a142 n143 c144]) (fun j c e => by rw [Nat.zero_add, hS152.mem_obj (.head _)]; exact e) (.inl ⟨rfl, rfl, rfl⟩)⟩, trivial⟩ ⟨a133, n134, c135, a142, n143, c144, K146, rfl, hS155, hr1, (SliceAt.mono hl147 hs139), hs148⟩

theorem ok_impl_cloneDocs (F : Nat) {w : World} {K : KMap} {a1 : Option Addr} {n2 c3 : Nat} {p0_list : List GDoc} {r : (List GDoc)} (hS : SH w K [] w K []) (hs4 : SliceAt tGDoc K a1 n2 c3 p0_list) (hm : M.impl_cloneDocs F p0_list = some r) :
  Calls Tryz.prog 70 #[.slice a1 n2 c3] w fun e w' => ∃ (a_1 : Option Addr) (n_2 c_3 : Nat) (K' : KMap), e = .returned (.slice a_1 n_2 c_3) ∧ SH w K [] w' K' [tail (.slice a_1 n_2 c_3) 44 3] ∧ SliceAt tGDoc K' a_1 n_2 c_3 r := by
 rw [M.impl_cloneDocs] at hm
 refine calls_in Tryz.func70 rfl Tryz.ntmps70 rfl ?_
 refine sr ?_
 refine wl_val wn rfl (rv_assign (v := .slice none 0 0) rfl) ?_
 refine nr ?_
 refine wl_buildSlice0 tGDoc wn rfl Tryz.underlying27 tf44 hS ?_
 intro a5 w6 K7 hl8 hs9 hS10
 refine va rfl rfl ?_
 refine nsr ?_
 refine vm rfl rfl ?_
 refine wl_val wn rfl (rv_len (t := tGDoc) Tryz.underlying27 rfl (SliceAt.mono hl8 hs4)) ?_
 refine wl_val wn rfl (rv_move (v := .int .i64 0) rfl) ?_
 refine nq ?_
 obtain ⟨o11, h12, h13⟩ := ob hm
 refine wc_cutg (fun E' w' => ∃ (a18 : Option Addr) (n19 c20 : Nat) (K14 : KMap), E' = [(3, .slice a18 n19 c20)] ∧ SH w K [] w' K14 [tail (.slice a18 n19 c20) 44 3] ∧ KLe K7 K14 ∧ SliceAt tGDoc K14 a18 n19 c20 o11) ?_ ?_
 ·refine wc_block ?_
  obtain ⟨r23, h24, h25⟩ := ob h12
  refine wc_forE' (fun (i26 : Nat) (s22 : (List GDoc)) E' w' => ∃ (a31 : Option Addr) (n32 c33 : Nat) (K27 : KMap), E' = [(3, .slice a31 n32 c33), (7, .slice a1 n2 c3), (8, .int .i64 (p0_list.length : Int)), (9, .int .i64 ((i26 : Nat) : Int))] ∧ SH w K [] w' K27 [tail (.slice a31 n32 c33) 44 3] ∧ KLe K7 K27 ∧ SliceAt tGDoc K27 a31 n32 c33 s22) h24 ⟨a5, 0, 0, K7, rfl, hS10, (KLe.refl _), hs9⟩ ⟨rfl, rfl, rfl, rfl, trivial⟩ ?_ ?_
  ·rintro i26 s22 _ w29 r35 hi36 h37 ⟨a31, n32, c33, K27, rfl, hS30, hl28, hs34⟩
   refine sr ?_
   refine wl_val wn rfl (rv_lss rfl rfl) ?_
   refine ns ?_
   refine wc_cond_t rfl (decide_eq_true (by omega)) (wc_skip (qe_seq (wc_seq ?_)))
   refine wc_block ?_
   refine sr ?_
   obtain ⟨x39, hx40, h41⟩ := ob h37
   refine wl_indexAddr (t := tGDoc) wn rfl Tryz.underlying27 tf44 rfl rfl (SliceAt.mono (hl8.trans hl28) hs4) hx40 ?_
   intro b42 o43 u44 hu45 ha46
   obtain ⟨a48, n49, c50, a52, n53, c54, rfl, hr47, hs51, hs55⟩ := hu45
   have ha56 : AtK _ b42 o43 [.int .i64 x39.Id, .slice a48 n49 c50, .slice a52 n53 c54] := ha46
   refine wl_val wn rfl (rv_loadS (cs := [.int .i64 x39.Id, .slice a48 n49 c50, .slice a52 n53 c54]) tf44 rfl hS30 ha56 rfl) ?_
   refine wl_alloc wn rfl tf44 hS30 ?_
   intro g57 w58 hS59
   have hS60 : SH _ _ _ _ _ [obj g57 [.int .i64 0, .slice none 0 0, .slice none 0 0] 44, _] := hS59
   refine wl_store (cs' := [.int .i64 x39.Id, .slice a48 n49 c50, .slice a52 n53 c54]) (v := .agg #[.int .i64 x39.Id, .slice a48 n49 c50, .slice a52 n53 c54]) wn tf44 rfl rfl rfl (by simp [Value.cells, Value.oneCell']) hS60 rfl rfl ?_
   intro w61 hS62
   refine nq ?_
   refine wc_region ?_
   refine vm rfl rfl ?_
   refine wl_val wn rfl (rv_loadmS (ds := [.int .i64 x39.Id, .slice a48 n49 c50, .slice a52 n53 c54]) tf44 rfl (.head _) hS62 rfl rfl) ?_
   obtain ⟨r63, hx64, h65⟩ := ob h41
   refine wl_call wn rfl (rt_call (vs := [.agg #[.int .i64 x39.Id, .slice a48 n49 c50, .slice a52 n53 c54]]) co121 rfl) ((ok_impl_cloneDoc F) hS62.enter0 hr47 hs51 hs55 hx64) ?_
   rintro e78 w67 ⟨a70, n71, c72, a74, n75, c76, K66, rfl, hS68, hr69, hs73, hs77⟩
   refine ⟨_, rfl, ?_⟩
   have hS79 : SH _ _ _ _ _ [_, _, _, _] := SH.call0 hS62 hS68
   refine wl_buildSlice (t := tGDoc) (n := 1) (pv := [(0, .agg #[.int .i64 r63.Id, .slice a70 n71 c72, .slice a74 n75 c76])]) (cs := [.int .i64 r63.Id, .slice a70 n71 c72, .slice a74 n75 c76]) (xs := [r63]) wn rfl Tryz.underlying27 tf44 rfl rfl rfl (by kernel_rfl) rfl rfl (lit_cons (u := .agg #[.int .i64 r63.Id, .slice a70 n71 c72, .slice a74 n75 c76]) (z := r63) ⟨a70, n71, c72, a74, n75, c76, rfl, hr69, hs73, hs77⟩ lit_nil) hS79 ?_
   intro a80 w81 K82 hl83 hs84 hS85
   have hS86 : SH _ _ _ _ _ [_, _, _, _, _] := SH.front (p := [_, _, _, _]) hS85
   obtain ⟨x87, hx88, h89⟩ := ob h65
   refine wl_append (t := tGDoc) wn rfl Tryz.underlying27 tf44 rfl rfl rfl rfl rfl (SliceAt.mono (hS68.le.trans hl83) hs34) hs84 hx88 hS86 ?_
   intro a90 n91 c92 w93 K94 hl95 hs96 hS97
   refine va rfl rfl ?_
   refine nb ?_
   refine qg ?_
   refine wl_val wn rfl (rv_add_to rfl rfl (w64_succ hi36 (SliceAt.max (SliceAt.mono hl8 hs4)))) ?_
   refine vm rfl rfl ?_
   refine wl_nil ?_
   obtain rfl := oi h89
   have hS98 : SH _ _ _ _ _ [_] := SH.sublist hS97 (.cons_cons _ (.cons _ (.cons _ (.cons _ (.cons _ .slnil)))))
   exact qe_mid' ⟨a90, n91, c92, K94, rfl, hS98, (((hl28.trans hS68.le).trans hl83).trans hl95), hs96⟩ ⟨rfl, rfl, rfl, rfl, trivial⟩
  ·rintro s22 _ w29 hr99 ⟨a31, n32, c33, K27, rfl, hS30, hl28, hs34⟩
   subst hr99
   refine sr ?_
   refine wl_val wn rfl (rv_lss rfl rfl) ?_
   refine ns ?_
   refine wc_cond_f rfl (decide_eq_false (by omega)) ?_
   refine wc_exit ?_
   refine qe_then_exit ?_
   refine qe_then_exit ?_
   refine qe_block_eq ?_
   obtain rfl := oi h25
   exact qe_mid' ⟨a31, n32, c33, K27, rfl, hS30, hl28, hs34⟩ ⟨rfl, trivial⟩
 ·rintro _ w16 ⟨a18, n19, c20, K14, rfl, hS17, hl15, hs21⟩
  refine qr ?_
  refine vm rfl rfl ?_
  refine va rfl rfl ?_
  refine nq ?_
  refine wc_ret ?_
  obtain rfl := oi h13
  exact qe_ret (vs := [_]) Tryz.results70 ⟨rfl, trivial⟩ ⟨a18, n19, c20, K14, rfl, hS17, hs21⟩
end Go.Proofs.YtdcmmhjhffcnhaaGreat
