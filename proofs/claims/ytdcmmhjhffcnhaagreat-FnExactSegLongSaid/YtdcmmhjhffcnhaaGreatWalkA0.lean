/-
 Walks of the functions. Printed by gen.py.
-/
import Derived.Test.YtdcmmhjhffcnhaaGreatFacts
set_option linter.unusedVariables false
set_option maxRecDepth 100000
namespace Go.Proofs.YtdcmmhjhffcnhaaGreat
open Go Go.Fk Go.RowKit

theorem ok_laws_szStringS (F : Nat) {w : World} {K : KMap} {a1 : Option Addr} {n2 c3 : Nat} {p0_a : List Str} {p1_left : Int} {r : Int} (hS : SH w K [] w K []) (hs4 : SliceAt tStr K a1 n2 c3 p0_a) (hr5 : rng64 p1_left) (hm : M.laws_szStringS F p0_a p1_left = some r) :
  Calls Tryz.prog 61 #[.slice a1 n2 c3, .int .i64 p1_left] w fun e w' => ∃ (K' : KMap), e = .returned (.int .i64 r) ∧ SH w K [] w' K' [] ∧ rng64 r := by
 rw [M.laws_szStringS] at hm
 refine calls_in Tryz.func61 rfl Tryz.ntmps61 rfl ?_
 refine sr ?_
 refine wl_val wn rfl (rv_assign (v := .int .i64 0) rfl) ?_
 refine nr ?_
 refine vm rfl rfl ?_
 refine vm rfl rfl ?_
 refine wl_val wn rfl (rv_len (t := tStr) Tryz.underlying23 rfl hs4) ?_
 refine wl_val wn rfl (rv_sub rfl rfl) ?_
 refine va rfl rfl ?_
 refine nsr ?_
 refine vm rfl rfl ?_
 refine wl_val wn rfl (rv_lss rfl rfl) ?_
 refine nq ?_
 refine wc_cond rfl (fun hb6 => ?_) (fun hb6 => ?_)
 ·have h7 := cond_t hb6 hm
  refine sr ?_
  refine wl_val wn rfl (rv_assign (v := .int .i64 (-1)) rfl) ?_
  refine nq ?_
  refine rr ?_
  obtain rfl := oi h7
  exact qe_ret (vs := [_]) Tryz.results61 ⟨rfl, trivial⟩ ⟨K, rfl, hS, (by decide : rng64 (-1))⟩
 ·have h7 := cond_f hb6 hm
  refine wc_skip ?_
  refine qs ?_
  refine sr ?_
  refine wl_val wn rfl (rv_assign (v := .int .i64 0) rfl) ?_
  refine nq ?_
  obtain ⟨o8, h9, h10⟩ := ob h7
  refine wc_cutg (fun E' w' => ∃ (s11 : Int) (K12 : KMap), o8 = .inl s11 ∧ E' = [(1, .int .i64 s11)] ∧ SH w K [] w' K12 [] ∧ KLe K K12 ∧ rng64 s11) ?_ ?_
  ·refine wc_block ?_
   obtain ⟨r18, h19, h20⟩ := ob h9
   refine wc_while' (fun (s17 : Int × Int) E' w' => ∃ (K21 : KMap), E' = [(0, .slice a1 n2 c3), (1, .int .i64 s17.1), (5, .int .i64 s17.2)] ∧ SH w K [] w' K21 [] ∧ KLe K K21 ∧ rng64 s17.1 ∧ rng64 s17.2) h19 ⟨K, rfl, hS, (KLe.refl _), (w64_rng _), (by decide : rng64 0)⟩ ⟨rfl, rfl, rfl, trivial⟩ ?_
   rintro s17 _ w23 r27 h28 hx29 ⟨K21, rfl, hS24, hl22, hr25, hr26⟩
   refine wc_seq ?_
   refine sr ?_
   refine vm rfl rfl ?_
   refine vm rfl rfl ?_
   refine wl_val wn rfl (rv_len (t := tStr) Tryz.underlying23 rfl (SliceAt.mono hl22 hs4)) ?_
   refine wl_val wn rfl (rv_lss rfl rfl) ?_
   refine nq ?_
   refine wc_cond rfl (fun hb30 => ?_) (fun hb30 => ?_)
   ·have h31 := cond_t hb30 h28
    refine wc_skip ?_
    refine qs ?_
    refine wc_block ?_
    refine sr ?_
    refine vm rfl rfl ?_
    refine vm rfl rfl ?_
    refine vm rfl rfl ?_
    obtain ⟨x32, hx33, h34⟩ := ob h31
    refine wl_indexAddr (t := tStr) wn rfl Tryz.underlying23 tf9 rfl rfl (SliceAt.mono hl22 hs4) hx33 ?_
    intro b35 o36 u37 hu38 ha39
    obtain ⟨rfl, hl40⟩ := hu38
    have ha41 : AtK _ b35 o36 [sv x32] := ha39
    refine wl_val wn rfl (rv_load1 tf9 rfl hS24 (ha41 0 _ rfl)) ?_
    refine wl_val wn rfl (rv_slen Tryz.underlying9 rfl) ?_
    refine wl_val wn rfl (rv_sub rfl rfl) ?_
    refine va rfl rfl ?_
    refine nr ?_
    refine vm rfl rfl ?_
    refine wl_val wn rfl (rv_lss rfl rfl) ?_
    refine nq ?_
    refine wc_cond rfl (fun hb42 => ?_) (fun hb42 => ?_)
    ·have h43 := cond_t hb42 h34
     refine sr ?_
     refine wl_val wn rfl (rv_assign (v := .int .i64 (-1)) rfl) ?_
     refine nq ?_
     refine wc_ret ?_
     refine qe_block_ret ?_
     refine qe_then_ret ?_
     refine qe_then_ret ?_
     obtain rfl := oi h43
     have e44 := hx29 _ rfl
     subst e44
     refine qe_block_ret ?_
     refine qe_then_ret ?_
     obtain rfl := oi h20
     refine qe_then_ret ?_
     obtain rfl := oi h10
     exact qe_ret (vs := [_]) Tryz.results61 ⟨rfl, trivial⟩ ⟨K21, rfl, hS24, (by decide : rng64 (-1))⟩
    ·have h43 := cond_f hb42 h34
     refine wc_skip ?_
     refine qe_block ?_
     refine qe_seq ?_
     refine wc_region ?_
     refine vm rfl rfl ?_
     refine wl_val wn rfl (rv_add rfl rfl) ?_
     refine va rfl rfl ?_
     refine wl_nil ?_
     obtain rfl := oi h43
     exact qe_mid' ⟨_, rfl, K21, rfl, hS24, hl22, (w64_rng _), (w64_rng _)⟩ ⟨rfl, rfl, rfl, trivial⟩
   ·have h31 := cond_f hb30 h28
    refine wc_exit ?_
    refine qe_then_exit ?_
    refine qe_then_exit ?_
    obtain rfl := oi h31
    have e45 := hx29 _ rfl
    subst e45
    refine qe_block_eq ?_
    obtain rfl := oi h20
    exact qe_mid' ⟨_, K21, rfl, rfl, hS24, hl22, hr25⟩ ⟨rfl, trivial⟩
  ·rintro _ w14 ⟨s11, K12, rfl, rfl, hS15, hl13, hr16⟩
   refine qr ?_
   refine vm rfl rfl ?_
   refine va rfl rfl ?_
   refine nq ?_
   refine wc_ret ?_
   obtain rfl := oi h10
   exact qe_ret (vs := [_]) Tryz.results61 ⟨rfl, trivial⟩ ⟨K12, rfl, hS15, hr16⟩

theorem ok_laws_szSyn (F : Nat) {w : World} {K : KMap} {a1 : Option Addr} {n2 c3 : Nat} {p0_a : GSyn} {p1_left : Int} {r : Int} (hS : SH w K [] w K []) (hs4 : SliceAt tStr K a1 n2 c3 p0_a.From) (hl5 : p0_a.To.length ≤ maxLen) (hr6 : rng64 p1_left) (hm : M.laws_szSyn F p0_a p1_left = some r) :
  Calls Tryz.prog 106 #[.agg #[.slice a1 n2 c3, sv p0_a.To], .int .i64 p1_left] w fun e w' => ∃ (K' : KMap), e = .returned (.int .i64 r) ∧ SH w K [] w' K' [] ∧ rng64 r := by
 rw [M.laws_szSyn] at hm
 refine calls_in Tryz.func106 rfl Tryz.ntmps106 rfl ?_
 refine sr ?_
 refine wl_box wn rfl rfl hS ?_
 intro g7 w8 hS9
 have hS10 : SH _ _ _ _ _ [obj g7 [.slice a1 n2 c3, sv p0_a.To] 154] := hS9
 refine wl_val wn rfl (rv_assign (v := .int .i64 0) rfl) ?_
 refine nr ?_
 refine wl_val wn rfl (rv_fieldAddr ff154_0 rfl) ?_
 refine wl_val wn rfl (rv_loadm1 tf23 rfl (.head _) hS10 rfl) ?_
 refine vm rfl rfl ?_
 obtain ⟨r11, hx12, h13⟩ := ob hm
 refine wl_call wn rfl (rt_call (vs := [.slice a1 n2 c3, .int .i64 p1_left]) co61 rfl) ((ok_laws_szStringS F) hS10.enter0 hs4 hr6 hx12) ?_
 rintro e18 w15 ⟨K14, rfl, hS16, hr17⟩
 refine ⟨_, rfl, ?_⟩
 have hS19 : SH _ _ _ _ _ [_] := SH.call0 hS10 hS16
 refine va rfl rfl ?_
 refine nsr ?_
 refine vm rfl rfl ?_
 refine wl_val wn rfl (rv_lss rfl rfl) ?_
 refine nq ?_
 refine wc_cond rfl (fun hb20 => ?_) (fun hb20 => ?_)
 ·have h21 := cond_t hb20 h13
  refine sr ?_
  refine wl_val wn rfl (rv_assign (v := .int .i64 (-1)) rfl) ?_
  refine nq ?_
  refine rr ?_
  obtain rfl := oi h21
  have hS22 : SH _ _ _ _ _ [] := SH.sublist hS19 (.cons _ .slnil)
  exact qe_ret (vs := [_]) Tryz.results106 ⟨rfl, trivial⟩ ⟨K14, rfl, hS22, (by decide : rng64 (-1))⟩
 ·have h21 := cond_f hb20 h13
  refine wc_skip ?_
  refine qr ?_
  refine vm rfl rfl ?_
  refine wl_val wn rfl (rv_fieldAddr ff154_1 rfl) ?_
  refine wl_val wn rfl (rv_loadm1 tf9 rfl (.head _) hS19 rfl) ?_
  refine wl_val wn rfl (rv_slen Tryz.underlying9 rfl) ?_
  refine wl_val wn rfl (rv_sub rfl rfl) ?_
  refine va rfl rfl ?_
  refine nsr ?_
  refine vm rfl rfl ?_
  refine wl_val wn rfl (rv_lss rfl rfl) ?_
  refine nq ?_
  refine wc_cond rfl (fun hb23 => ?_) (fun hb23 => ?_)
  ·have h24 := cond_t hb23 h21
   refine sr ?_
   refine wl_val wn rfl (rv_assign (v := .int .i64 (-1)) rfl) ?_
   refine nq ?_
   refine rr ?_
   obtain rfl := oi h24
   have hS25 : SH _ _ _ _ _ [] := SH.sublist hS19 (.cons _ .slnil)
   exact qe_ret (vs := [_]) Tryz.results106 ⟨rfl, trivial⟩ ⟨K14, rfl, hS25, (by decide : rng64 (-1))⟩
  ·have h24 := cond_f hb23 h21
   refine wc_skip ?_
   refine qr ?_
   refine vm rfl rfl ?_
   refine va rfl rfl ?_
   refine nq ?_
   refine wc_ret ?_
   obtain rfl := oi h24
   have hS26 : SH _ _ _ _ _ [] := SH.sublist hS19 (.cons _ .slnil)
   exact qe_ret (vs := [_]) Tryz.results106 ⟨rfl, trivial⟩ ⟨K14, rfl, hS26, (w64_rng _)⟩

theorem ok_laws_szSynS (F : Nat) {w : World} {K : KMap} {a1 : Option Addr} {n2 c3 : Nat} {p0_a : List GSyn} {p1_left : Int} {r : Int} (hS : SH w K [] w K []) (hs4 : SliceAt tGSyn K a1 n2 c3 p0_a) (hr5 : rng64 p1_left) (hm : M.laws_szSynS F p0_a p1_left = some r) :
  Calls Tryz.prog 62 #[.slice a1 n2 c3, .int .i64 p1_left] w fun e w' => ∃ (K' : KMap), e = .returned (.int .i64 r) ∧ SH w K [] w' K' [] ∧ rng64 r := by
 rw [M.laws_szSynS] at hm
 refine calls_in Tryz.func62 rfl Tryz.ntmps62 rfl ?_
 refine sr ?_
 refine wl_val wn rfl (rv_assign (v := .int .i64 0) rfl) ?_
 refine nr ?_
 refine vm rfl rfl ?_
 refine vm rfl rfl ?_
 refine wl_val wn rfl (rv_len (t := tGSyn) Tryz.underlying51 rfl hs4) ?_
 refine wl_val wn rfl (rv_sub rfl rfl) ?_
 refine va rfl rfl ?_
 refine nsr ?_
 refine vm rfl rfl ?_
 refine wl_val wn rfl (rv_lss rfl rfl) ?_
 refine nq ?_
 refine wc_cond rfl (fun hb6 => ?_) (fun hb6 => ?_)
 ·have h7 := cond_t hb6 hm
  refine sr ?_
  refine wl_val wn rfl (rv_assign (v := .int .i64 (-1)) rfl) ?_
  refine nq ?_
  refine rr ?_
  obtain rfl := oi h7
  exact qe_ret (vs := [_]) Tryz.results62 ⟨rfl, trivial⟩ ⟨K, rfl, hS, (by decide : rng64 (-1))⟩
 ·have h7 := cond_f hb6 hm
  refine wc_skip ?_
  refine qs ?_
  refine sr ?_
  refine wl_val wn rfl (rv_assign (v := .int .i64 0) rfl) ?_
  refine nq ?_
  obtain ⟨o8, h9, h10⟩ := ob h7
  refine wc_cutg (fun E' w' => ∃ (s11 : Int) (K12 : KMap), o8 = .inl s11 ∧ E' = [(1, .int .i64 s11)] ∧ SH w K [] w' K12 [] ∧ KLe K K12 ∧ rng64 s11) ?_ ?_
  ·refine wc_block ?_
   obtain ⟨r18, h19, h20⟩ := ob h9
   refine wc_while' (fun (s17 : Int × Int) E' w' => ∃ (K21 : KMap), E' = [(0, .slice a1 n2 c3), (1, .int .i64 s17.1), (5, .int .i64 s17.2)] ∧ SH w K [] w' K21 [] ∧ KLe K K21 ∧ rng64 s17.1 ∧ rng64 s17.2) h19 ⟨K, rfl, hS, (KLe.refl _), (w64_rng _), (by decide : rng64 0)⟩ ⟨rfl, rfl, rfl, trivial⟩ ?_
   rintro s17 _ w23 r27 h28 hx29 ⟨K21, rfl, hS24, hl22, hr25, hr26⟩
   refine wc_seq ?_
   refine sr ?_
   refine vm rfl rfl ?_
   refine vm rfl rfl ?_
   refine wl_val wn rfl (rv_len (t := tGSyn) Tryz.underlying51 rfl (SliceAt.mono hl22 hs4)) ?_
   refine wl_val wn rfl (rv_lss rfl rfl) ?_
   refine nq ?_
   refine wc_cond rfl (fun hb30 => ?_) (fun hb30 => ?_)
   ·have h31 := cond_t hb30 h28
    refine wc_skip ?_
    refine qs ?_
    refine wc_block ?_
    refine sr ?_
    refine vm rfl rfl ?_
    refine vm rfl rfl ?_
    obtain ⟨x32, hx33, h34⟩ := ob h31
    refine wl_indexAddr (t := tGSyn) wn rfl Tryz.underlying51 tf154 rfl rfl (SliceAt.mono hl22 hs4) hx33 ?_
    intro b35 o36 u37 hu38 ha39
    obtain ⟨a40, n41, c42, rfl, hs43, hl44⟩ := hu38
    have ha45 : AtK _ b35 o36 [.slice a40 n41 c42, sv x32.To] := ha39
    refine wl_val wn rfl (rv_loadS (cs := [.slice a40 n41 c42, sv x32.To]) tf154 rfl hS24 ha45 rfl) ?_
    refine vm rfl rfl ?_
    obtain ⟨r46, hx47, h48⟩ := ob h34
    refine wl_call wn rfl (rt_call (vs := [.agg #[.slice a40 n41 c42, sv x32.To], .int .i64 s17.1]) co106 rfl) ((ok_laws_szSyn F) hS24.enter0 hs43 hl44 hr25 hx47) ?_
    rintro e53 w50 ⟨K49, rfl, hS51, hr52⟩
    refine ⟨_, rfl, ?_⟩
    have hS54 : SH _ _ _ _ _ [] := SH.call0 hS24 hS51
    refine va rfl rfl ?_
    refine nr ?_
    refine vm rfl rfl ?_
    refine wl_val wn rfl (rv_lss rfl rfl) ?_
    refine nq ?_
    refine wc_cond rfl (fun hb55 => ?_) (fun hb55 => ?_)
    ·have h56 := cond_t hb55 h48
     refine sr ?_
     refine wl_val wn rfl (rv_assign (v := .int .i64 (-1)) rfl) ?_
     refine nq ?_
     refine wc_ret ?_
     refine qe_block_ret ?_
     refine qe_then_ret ?_
     refine qe_then_ret ?_
     obtain rfl := oi h56
     have e57 := hx29 _ rfl
     subst e57
     refine qe_block_ret ?_
     refine qe_then_ret ?_
     obtain rfl := oi h20
     refine qe_then_ret ?_
     obtain rfl := oi h10
     exact qe_ret (vs := [_]) Tryz.results62 ⟨rfl, trivial⟩ ⟨K49, rfl, hS54, (by decide : rng64 (-1))⟩
    ·have h56 := cond_f hb55 h48
     refine wc_skip ?_
     refine qe_block ?_
     refine qe_seq ?_
     refine wc_region ?_
     refine vm rfl rfl ?_
     refine wl_val wn rfl (rv_add rfl rfl) ?_
     refine va rfl rfl ?_
     refine wl_nil ?_
     obtain rfl := oi h56
     exact qe_mid' ⟨_, rfl, K49, rfl, hS54, (hl22.trans hS51.le), hr52, (w64_rng _)⟩ ⟨rfl, rfl, rfl, trivial⟩
   ·have h31 := cond_f hb30 h28
    refine wc_exit ?_
    refine qe_then_exit ?_
    refine qe_then_exit ?_
    obtain rfl := oi h31
    have e58 := hx29 _ rfl
    subst e58
    refine qe_block_eq ?_
    obtain rfl := oi h20
    exact qe_mid' ⟨_, K21, rfl, rfl, hS24, hl22, hr25⟩ ⟨rfl, trivial⟩
  ·rintro _ w14 ⟨s11, K12, rfl, rfl, hS15, hl13, hr16⟩
   refine qr ?_
   refine vm rfl rfl ?_
   refine va rfl rfl ?_
   refine nq ?_
   refine wc_ret ?_
   obtain rfl := oi h10
   exact qe_ret (vs := [_]) Tryz.results62 ⟨rfl, trivial⟩ ⟨K12, rfl, hS15, hr16⟩

theorem ok_laws_szConf (F : Nat) {w : World} {K : KMap} {a1 : Option Addr} {n2 c3 : Nat} {a5 : Option Addr} {n6 c7 : Nat} {p0_a : GConf} {p1_left : Int} {r : Int} (hS : SH w K [] w K []) (hs4 : SliceAt tStr K a1 n2 c3 p0_a.Stops) (hs8 : SliceAt tGSyn K a5 n6 c7 p0_a.Syns) (hr9 : rng64 p1_left) (hm : M.laws_szConf F p0_a p1_left = some r) :
  Calls Tryz.prog 18 #[.agg #[.slice a1 n2 c3, .slice a5 n6 c7], .int .i64 p1_left] w fun e w' => ∃ (K' : KMap), e = .returned (.int .i64 r) ∧ SH w K [] w' K' [] ∧ rng64 r := by
 rw [M.laws_szConf] at hm
 refine calls_in Tryz.func18 rfl Tryz.ntmps18 rfl ?_
 refine sr ?_
 refine wl_box wn rfl rfl hS ?_
 intro g10 w11 hS12
 have hS13 : SH _ _ _ _ _ [obj g10 [.slice a1 n2 c3, .slice a5 n6 c7] 53] := hS12
 refine wl_val wn rfl (rv_assign (v := .int .i64 0) rfl) ?_
 refine nr ?_
 refine wl_val wn rfl (rv_fieldAddr ff53_0 rfl) ?_
 refine wl_val wn rfl (rv_loadm1 tf23 rfl (.head _) hS13 rfl) ?_
 refine vm rfl rfl ?_
 obtain ⟨r14, hx15, h16⟩ := ob hm
 refine wl_call wn rfl (rt_call (vs := [.slice a1 n2 c3, .int .i64 p1_left]) co61 rfl) ((ok_laws_szStringS F) hS13.enter0 hs4 hr9 hx15) ?_
 rintro e21 w18 ⟨K17, rfl, hS19, hr20⟩
 refine ⟨_, rfl, ?_⟩
 have hS22 : SH _ _ _ _ _ [_] := SH.call0 hS13 hS19
 refine va rfl rfl ?_
 refine nsr ?_
 refine vm rfl rfl ?_
 refine wl_val wn rfl (rv_lss rfl rfl) ?_
 refine nq ?_
 refine wc_cond rfl (fun hb23 => ?_) (fun hb23 => ?_)
 ·have h24 := cond_t hb23 h16
  refine sr ?_
  refine wl_val wn rfl (rv_assign (v := .int .i64 (-1)) rfl) ?_
  refine nq ?_
  refine rr ?_
  obtain rfl := oi h24
  have hS25 : SH _ _ _ _ _ [] := SH.sublist hS22 (.cons _ .slnil)
  exact qe_ret (vs := [_]) Tryz.results18 ⟨rfl, trivial⟩ ⟨K17, rfl, hS25, (by decide : rng64 (-1))⟩
 ·have h24 := cond_f hb23 h16
  refine wc_skip ?_
  refine qr ?_
  refine wl_val wn rfl (rv_fieldAddr ff53_1 rfl) ?_
  refine wl_val wn rfl (rv_loadm1 tf51 rfl (.head _) hS22 rfl) ?_
  refine vm rfl rfl ?_
  obtain ⟨r26, hx27, h28⟩ := ob h24
  refine wl_call wn rfl (rt_call (vs := [.slice a5 n6 c7, .int .i64 r14]) co62 rfl) ((ok_laws_szSynS F) hS22.enter0 (SliceAt.mono hS19.le hs8) hr20 hx27) ?_
  rintro e33 w30 ⟨K29, rfl, hS31, hr32⟩
  refine ⟨_, rfl, ?_⟩
  have hS34 : SH _ _ _ _ _ [_] := SH.call0 hS22 hS31
  refine va rfl rfl ?_
  refine nsr ?_
  refine vm rfl rfl ?_
  refine wl_val wn rfl (rv_lss rfl rfl) ?_
  refine nq ?_
  refine wc_cond rfl (fun hb35 => ?_) (fun hb35 => ?_)
  ·have h36 := cond_t hb35 h28
   refine sr ?_
   refine wl_val wn rfl (rv_assign (v := .int .i64 (-1)) rfl) ?_
   refine nq ?_
   refine rr ?_
   obtain rfl := oi h36
   have hS37 : SH _ _ _ _ _ [] := SH.sublist hS34 (.cons _ .slnil)
   exact qe_ret (vs := [_]) Tryz.results18 ⟨rfl, trivial⟩ ⟨K29, rfl, hS37, (by decide : rng64 (-1))⟩
  ·have h36 := cond_f hb35 h28
   refine wc_skip ?_
   refine qr ?_
   refine vm rfl rfl ?_
   refine va rfl rfl ?_
   refine nq ?_
   refine wc_ret ?_
   obtain rfl := oi h36
   have hS38 : SH _ _ _ _ _ [] := SH.sublist hS34 (.cons _ .slnil)
   exact qe_ret (vs := [_]) Tryz.results18 ⟨rfl, trivial⟩ ⟨K29, rfl, hS38, hr32⟩

theorem ok_laws_toStringS (F : Nat) {w : World} {K : KMap} {a1 : Option Addr} {n2 c3 : Nat} {p0_a : List Str} {r : (List Str)} (hS : SH w K [] w K []) (hs4 : SliceAt tStr K a1 n2 c3 p0_a) (hm : M.laws_toStringS F p0_a = some r) :
  Calls Tryz.prog 67 #[.slice a1 n2 c3] w fun e w' => ∃ (a_1 : Option Addr) (n_2 c_3 : Nat) (K' : KMap), e = .returned (.slice a_1 n_2 c_3) ∧ SH w K [] w' K' [tail (.slice a_1 n_2 c_3) 9 1] ∧ SliceAt tStr K' a_1 n_2 c_3 r := by
 rw [M.laws_toStringS] at hm
 refine calls_in Tryz.func67 rfl Tryz.ntmps67 rfl ?_
 refine sr ?_
 refine wl_val wn rfl (rv_assign (v := .slice none 0 0) rfl) ?_
 refine nr ?_
 refine vm rfl rfl ?_
 refine wl_val wn rfl (rv_len (t := tStr) Tryz.underlying23 rfl hs4) ?_
 obtain ⟨x5, hx6, h7⟩ := ob hm
 refine wl_make (t := tStr) wn rfl Tryz.underlying23 tf9 rfl rfl rfl hx6 ⟨rfl, (by decide : ([] : Str).length ≤ maxLen)⟩ hS ?_
 intro g8 cs9 w10 hmx13 hrow11 hS12
 obtain ⟨m14, hm15⟩ : ∃ m, m = x5.length := ⟨_, rfl⟩
 rw [← hm15] at hmx13
 rw [← hm15]
 refine va rfl rfl ?_
 refine nsr ?_
 refine wl_val wn rfl (rv_assign (v := .int .i64 0) rfl) ?_
 refine nq ?_
 obtain ⟨o16, h17, h18⟩ := ob h7
 refine wc_cutg (fun E' w' => ∃ (cs23 : List Value) (K19 : KMap), E' = [(3, .slice (some ⟨g8, 0, none⟩) m14 m14)] ∧ SH w K [] w' K19 [obj g8 cs23 9] ∧ KLe K K19 ∧ RowAt true tStr K19 cs23 o16 ∧ m14 = o16.length) ?_ ?_
 ·refine wc_block ?_
  obtain ⟨r27, h28, h29⟩ := ob h17
  refine wc_while' (fun (s26 : Int × (List Str)) E' w' => ∃ (cs35 : List Value) (K30 : KMap), E' = [(0, .slice a1 n2 c3), (3, .slice (some ⟨g8, 0, none⟩) m14 m14), (4, .int .i64 s26.1)] ∧ SH w K [] w' K30 [obj g8 cs35 9] ∧ KLe K K30 ∧ rng64 s26.1 ∧ RowAt true tStr K30 cs35 s26.2 ∧ m14 = s26.2.length) h28 ⟨cs9, K, rfl, hS12, (KLe.refl _), (by decide : rng64 0), hrow11, hm15⟩ ⟨rfl, rfl, rfl, trivial⟩ ?_
  rintro s26 _ w32 r38 h39 hx40 ⟨cs35, K30, rfl, hS33, hl31, hr34, hrow36, hm37⟩
  refine wc_seq ?_
  refine sr ?_
  refine vm rfl rfl ?_
  refine vm rfl rfl ?_
  refine wl_val wn rfl (rv_len (t := tStr) Tryz.underlying23 rfl (SliceAt.mono hl31 hs4)) ?_
  refine wl_val wn rfl (rv_lss rfl rfl) ?_
  refine nq ?_
  refine wc_cond rfl (fun hb41 => ?_) (fun hb41 => ?_)
  ·have h42 := cond_t hb41 h39
   refine wc_skip ?_
   refine qs ?_
   refine wc_block ?_
   refine wc_region ?_
   refine vm rfl rfl ?_
   refine vm rfl rfl ?_
   refine vm rfl rfl ?_
   refine vm rfl rfl ?_
   obtain ⟨x43, hx44, h45⟩ := ob h42
   refine wl_indexAddr (t := tStr) wn rfl Tryz.underlying23 tf9 rfl rfl (SliceAt.mono hl31 hs4) hx44 ?_
   intro b46 o47 u48 hu49 ha50
   obtain ⟨rfl, hl51⟩ := hu49
   have ha52 : AtK _ b46 o47 [sv x43] := ha50
   refine wl_val wn rfl (rv_load1 tf9 rfl hS33 (ha52 0 _ rfl)) ?_
   obtain ⟨x53, hx54, h55⟩ := ob h45
   obtain ⟨u56, hu57, hk58⟩ := RowAt.at hrow36 hx54
   obtain ⟨rfl, hl60⟩ := hu57
   have hk59 : ∀ (j : Nat) (d : Value), [sv x53][j]? = some d → cs35[s26.1.toNat * tStr.size + j]? = some d := hk58
   refine wl_val wn rfl (rv_indexRow (t := tStr) Tryz.underlying23 tf9 rfl rfl hm37 hx54) ?_
   refine wl_storeRow (t := tStr) (v := sv x43) (e := x43) wn tf9 rfl rfl ⟨rfl, hl51⟩ hS33 hrow36 hx54 ?_
   intro cs61 w62 hrow63 hS64
   have hm65 := hm37.trans (List.length_set (i := s26.1.toNat) (a := x43)).symm
   refine nb ?_
   refine qe_seq ?_
   refine wc_region ?_
   refine vm rfl rfl ?_
   refine wl_val wn rfl (rv_add rfl rfl) ?_
   refine va rfl rfl ?_
   refine wl_nil ?_
   obtain rfl := oi h55
   exact qe_mid' ⟨_, rfl, cs61, K30, rfl, hS64, hl31, (w64_rng _), hrow63, hm65⟩ ⟨rfl, rfl, rfl, trivial⟩
  ·have h42 := cond_f hb41 h39
   refine wc_exit ?_
   refine qe_then_exit ?_
   refine qe_then_exit ?_
   obtain rfl := oi h42
   have e66 := hx40 _ rfl
   subst e66
   refine qe_block_eq ?_
   obtain rfl := oi h29
   exact qe_mid' ⟨cs35, K30, rfl, hS33, hl31, hrow36, hm37⟩ ⟨rfl, trivial⟩
 ·rintro _ w21 ⟨cs23, K19, rfl, hS22, hl20, hrow24, hm25⟩
  refine qr ?_
  refine vm rfl rfl ?_
  refine va rfl rfl ?_
  refine nq ?_
  refine wc_ret ?_
  obtain ⟨K67, hl68, hs69, hS70⟩ := SH.freeze hS22 hrow24 (row_max hm25 hmx13)
  rw [← hm25] at hs69 hS70
  obtain rfl := oi h18
  exact qe_ret (vs := [_]) Tryz.results67 ⟨rfl, trivial⟩ ⟨(some ⟨g8, 0, none⟩), m14, m14, K67, rfl, hS70, hs69⟩

theorem ok_laws_toSyn (F : Nat) {w : World} {K : KMap} {a1 : Option Addr} {n2 c3 : Nat} {p0_a : GSyn} {r : GSyn} (hS : SH w K [] w K []) (hs4 : SliceAt tStr K a1 n2 c3 p0_a.From) (hl5 : p0_a.To.length ≤ maxLen) (hm : M.laws_toSyn F p0_a = some r) :
  Calls Tryz.prog 118 #[.agg #[.slice a1 n2 c3, sv p0_a.To]] w fun e w' => ∃ (a_1 : Option Addr) (n_2 c_3 : Nat) (K' : KMap), e = .returned (.agg #[.slice a_1 n_2 c_3, sv r.To]) ∧ SH w K [] w' K' [tail (.slice a_1 n_2 c_3) 9 1] ∧ SliceAt tStr K' a_1 n_2 c_3 r.From ∧ r.To.length ≤ maxLen := by
 rw [M.laws_toSyn] at hm
 refine calls_in Tryz.func118 rfl Tryz.ntmps118 rfl ?_
 refine sr ?_
 refine wl_box wn rfl rfl hS ?_
 intro g6 w7 hS8
 have hS9 : SH _ _ _ _ _ [obj g6 [.slice a1 n2 c3, sv p0_a.To] 154] := hS8
 refine wl_alloc wn rfl tf106 hS9 ?_
 intro g10 w11 hS12
 have hS13 : SH _ _ _ _ _ [obj g10 [.slice none 0 0, sv []] 106, _] := hS12
 refine nr ?_
 refine wl_alloc wn rfl tf106 hS13 ?_
 intro g14 w15 hS16
 have hS17 : SH _ _ _ _ _ [obj g14 [.slice none 0 0, sv []] 106, _, _] := hS16
 refine nr ?_
 refine wl_val wn rfl (rv_fieldAddr ff154_0 rfl) ?_
 refine wl_val wn rfl (rv_loadm1 tf23 rfl (.tail _ (.tail _ (.head _))) hS17 rfl) ?_
 obtain ⟨r18, hx19, h20⟩ := ob hm
 refine wl_call wn rfl (rt_call (vs := [.slice a1 n2 c3]) co67 rfl) ((ok_laws_toStringS F) hS17.enter0 hs4 hx19) ?_
 rintro e28 w22 ⟨a24, n25, c26, K21, rfl, hS23, hs27⟩
 refine ⟨_, rfl, ?_⟩
 have hS29 : SH _ _ _ _ _ [_, _, _, _] := SH.call0 hS17 hS23
 refine wl_val wn rfl (rv_fieldAddr ff106_0 rfl) ?_
 have hS30 : SH _ _ _ _ _ [_, _, _, _] := SH.front (p := [_]) hS29
 refine wl_store (cs' := [.slice a24 n25 c26, sv []]) (v := .slice a24 n25 c26) wn tf23 rfl rfl rfl (by simp [Value.cells, Value.oneCell']) hS30 rfl rfl ?_
 intro w31 hS32
 refine nr ?_
 refine wl_val wn rfl (rv_fieldAddr ff154_1 rfl) ?_
 refine wl_val wn rfl (rv_loadm1 tf9 rfl (.tail _ (.tail _ (.tail _ (.head _)))) hS32 rfl) ?_
 refine wl_val wn rfl (rv_fieldAddr ff106_1 rfl) ?_
 refine wl_store (cs' := [.slice a24 n25 c26, sv p0_a.To]) (v := sv p0_a.To) wn tf9 rfl rfl rfl (by simp [Value.cells, Value.oneCell', sv]) hS32 rfl rfl ?_
 intro w33 hS34
 refine nr ?_
 refine wl_val wn rfl (rv_loadmS (ds := [.slice a24 n25 c26, sv p0_a.To]) tf106 rfl (.head _) hS34 rfl rfl) ?_
 have hS35 : SH _ _ _ _ _ [_, _, _, _] := SH.front (p := [_, _]) hS34
 refine wl_store (cs' := [.slice a24 n25 c26, sv p0_a.To]) (v := .agg #[.slice a24 n25 c26, sv p0_a.To]) wn tf106 rfl rfl rfl (by simp [Value.cells, Value.oneCell', sv]) hS35 rfl rfl ?_
 intro w36 hS37
 refine nq ?_
 refine wc_ret ?_
 obtain rfl := oi h20
 have hS38 : SH _ _ _ _ _ [_] := SH.sublist hS37 (.cons _ (.cons _ (.cons_cons _ (.cons _ .slnil))))
 exact qe_ret (vs := [_]) Tryz.results118 ⟨⟨_, _, rfl, run_loadVar_at tf106 (cs := [.slice a24 n25 c26, sv p0_a.To]) (fun j c e => by rw [Nat.zero_add, hS37.mem_obj (.head _)]; exact e) (.inl ⟨rfl, rfl, rfl⟩)⟩, trivial⟩ ⟨a24, n25, c26, K21, rfl, hS38, hs27, hl5⟩

theorem ok_laws_toSynS (F : Nat) {w : World} {K : KMap} {a1 : Option Addr} {n2 c3 : Nat} {p0_a : List GSyn} {r : (List GSyn)} (hS : SH w K [] w K []) (hs4 : SliceAt tGSyn K a1 n2 c3 p0_a) (hm : M.laws_toSynS F p0_a = some r) :
  Calls Tryz.prog 68 #[.slice a1 n2 c3] w fun e w' => ∃ (a_1 : Option Addr) (n_2 c_3 : Nat) (K' : KMap), e = .returned (.slice a_1 n_2 c_3) ∧ SH w K [] w' K' [tail (.slice a_1 n_2 c_3) 106 2] ∧ SliceAt tGSyn K' a_1 n_2 c_3 r := by
 rw [M.laws_toSynS] at hm
 refine calls_in Tryz.func68 rfl Tryz.ntmps68 rfl ?_
 refine sr ?_
 refine wl_val wn rfl (rv_assign (v := .slice none 0 0) rfl) ?_
 refine nr ?_
 refine vm rfl rfl ?_
 refine wl_val wn rfl (rv_len (t := tGSyn) Tryz.underlying51 rfl hs4) ?_
 obtain ⟨x5, hx6, h7⟩ := ob hm
 refine wl_make (t := tGSyn) wn rfl Tryz.underlying24 tf106 rfl rfl rfl hx6 ⟨none, 0, 0, rfl, (SliceAt.nil _ _), (by decide : ([] : Str).length ≤ maxLen)⟩ hS ?_
 intro g8 cs9 w10 hmx13 hrow11 hS12
 obtain ⟨m14, hm15⟩ : ∃ m, m = x5.length := ⟨_, rfl⟩
 rw [← hm15] at hmx13
 rw [← hm15]
 refine va rfl rfl ?_
 refine nsr ?_
 refine wl_val wn rfl (rv_assign (v := .int .i64 0) rfl) ?_
 refine nq ?_
 obtain ⟨o16, h17, h18⟩ := ob h7
 refine wc_cutg (fun E' w' => ∃ (cs23 : List Value) (K19 : KMap), E' = [(3, .slice (some ⟨g8, 0, none⟩) m14 m14)] ∧ SH w K [] w' K19 [obj g8 cs23 106] ∧ KLe K K19 ∧ RowAt true tGSyn K19 cs23 o16 ∧ m14 = o16.length) ?_ ?_
 ·refine wc_block ?_
  obtain ⟨r27, h28, h29⟩ := ob h17
  refine wc_while' (fun (s26 : Int × (List GSyn)) E' w' => ∃ (cs35 : List Value) (K30 : KMap), E' = [(0, .slice a1 n2 c3), (3, .slice (some ⟨g8, 0, none⟩) m14 m14), (4, .int .i64 s26.1)] ∧ SH w K [] w' K30 [obj g8 cs35 106] ∧ KLe K K30 ∧ rng64 s26.1 ∧ RowAt true tGSyn K30 cs35 s26.2 ∧ m14 = s26.2.length) h28 ⟨cs9, K, rfl, hS12, (KLe.refl _), (by decide : rng64 0), hrow11, hm15⟩ ⟨rfl, rfl, rfl, trivial⟩ ?_
  rintro s26 _ w32 r38 h39 hx40 ⟨cs35, K30, rfl, hS33, hl31, hr34, hrow36, hm37⟩
  refine wc_seq ?_
  refine sr ?_
  refine vm rfl rfl ?_
  refine vm rfl rfl ?_
  refine wl_val wn rfl (rv_len (t := tGSyn) Tryz.underlying51 rfl (SliceAt.mono hl31 hs4)) ?_
  refine wl_val wn rfl (rv_lss rfl rfl) ?_
  refine nq ?_
  refine wc_cond rfl (fun hb41 => ?_) (fun hb41 => ?_)
  ·have h42 := cond_t hb41 h39
   refine wc_skip ?_
   refine qs ?_
   refine wc_block ?_
   refine wc_region ?_
   refine vm rfl rfl ?_
   refine vm rfl rfl ?_
   refine vm rfl rfl ?_
   refine vm rfl rfl ?_
   obtain ⟨x43, hx44, h45⟩ := ob h42
   refine wl_indexAddr (t := tGSyn) wn rfl Tryz.underlying51 tf154 rfl rfl (SliceAt.mono hl31 hs4) hx44 ?_
   intro b46 o47 u48 hu49 ha50
   obtain ⟨a51, n52, c53, rfl, hs54, hl55⟩ := hu49
   have ha56 : AtK _ b46 o47 [.slice a51 n52 c53, sv x43.To] := ha50
   refine wl_val wn rfl (rv_loadS (cs := [.slice a51 n52 c53, sv x43.To]) tf154 rfl hS33 ha56 rfl) ?_
   obtain ⟨r57, hx58, h59⟩ := ob h45
   refine wl_call wn rfl (rt_call (vs := [.agg #[.slice a51 n52 c53, sv x43.To]]) co118 rfl) ((ok_laws_toSyn F) hS33.enter0 hs54 hl55 hx58) ?_
   rintro e68 w61 ⟨a63, n64, c65, K60, rfl, hS62, hs66, hl67⟩
   refine ⟨_, rfl, ?_⟩
   have hS69 : SH _ _ _ _ _ [_, _] := SH.call0 hS33 hS62
   obtain ⟨x70, hx71, h72⟩ := ob h59
   obtain ⟨u73, hu74, hk75⟩ := RowAt.at (RowAt.mono hS62.le hrow36) hx71
   obtain ⟨a77, n78, c79, rfl, hs80, hl81⟩ := hu74
   have hk76 : ∀ (j : Nat) (d : Value), [.slice a77 n78 c79, sv x70.To][j]? = some d → cs35[s26.1.toNat * tGSyn.size + j]? = some d := hk75
   refine wl_val wn rfl (rv_indexRow (t := tGSyn) Tryz.underlying24 tf106 rfl rfl hm37 hx71) ?_
   have hS82 : SH _ _ _ _ _ [_, _] := SH.front (p := [_]) hS69
   refine wl_storeRow (t := tGSyn) (v := .agg #[.slice a63 n64 c65, sv r57.To]) (e := r57) wn tf106 rfl rfl ⟨a63, n64, c65, rfl, hs66, hl67⟩ hS82 (RowAt.mono hS62.le hrow36) hx71 ?_
   intro cs83 w84 hrow85 hS86
   have hm87 := hm37.trans (List.length_set (i := s26.1.toNat) (a := r57)).symm
   refine nb ?_
   refine qe_seq ?_
   refine wc_region ?_
   refine vm rfl rfl ?_
   refine wl_val wn rfl (rv_add rfl rfl) ?_
   refine va rfl rfl ?_
   refine wl_nil ?_
   obtain rfl := oi h72
   have hS88 : SH _ _ _ _ _ [_] := SH.sublist hS86 (.cons_cons _ (.cons _ .slnil))
   exact qe_mid' ⟨_, rfl, cs83, K60, rfl, hS88, (hl31.trans hS62.le), (w64_rng _), hrow85, hm87⟩ ⟨rfl, rfl, rfl, trivial⟩
  ·have h42 := cond_f hb41 h39
   refine wc_exit ?_
   refine qe_then_exit ?_
   refine qe_then_exit ?_
   obtain rfl := oi h42
   have e89 := hx40 _ rfl
   subst e89
   refine qe_block_eq ?_
   obtain rfl := oi h29
   exact qe_mid' ⟨cs35, K30, rfl, hS33, hl31, hrow36, hm37⟩ ⟨rfl, trivial⟩
 ·rintro _ w21 ⟨cs23, K19, rfl, hS22, hl20, hrow24, hm25⟩
  refine qr ?_
  refine vm rfl rfl ?_
  refine va rfl rfl ?_
  refine nq ?_
  refine wc_ret ?_
  obtain ⟨K90, hl91, hs92, hS93⟩ := SH.freeze hS22 hrow24 (row_max hm25 hmx13)
  rw [← hm25] at hs92 hS93
  obtain rfl := oi h18
  exact qe_ret (vs := [_]) Tryz.results68 ⟨rfl, trivial⟩ ⟨(some ⟨g8, 0, none⟩), m14, m14, K90, rfl, hS93, hs92⟩

theorem ok_laws_toConf (F : Nat) {w : World} {K : KMap} {a1 : Option Addr} {n2 c3 : Nat} {a5 : Option Addr} {n6 c7 : Nat} {p0_a : GConf} {r : GConf} (hS : SH w K [] w K []) (hs4 : SliceAt tStr K a1 n2 c3 p0_a.Stops) (hs8 : SliceAt tGSyn K a5 n6 c7 p0_a.Syns) (hm : M.laws_toConf F p0_a = some r) :
  Calls Tryz.prog 21 #[.agg #[.slice a1 n2 c3, .slice a5 n6 c7]] w fun e w' => ∃ (a_1 : Option Addr) (n_2 c_3 : Nat) (a_5 : Option Addr) (n_6 c_7 : Nat) (K' : KMap), e = .returned (.agg #[.slice a_1 n_2 c_3, .slice a_5 n_6 c_7]) ∧ SH w K [] w' K' [tail (.slice a_1 n_2 c_3) 9 1, tail (.slice a_5 n_6 c_7) 106 2] ∧ SliceAt tStr K' a_1 n_2 c_3 r.Stops ∧ SliceAt tGSyn K' a_5 n_6 c_7 r.Syns := by
 rw [M.laws_toConf] at hm
 refine calls_in Tryz.func21 rfl Tryz.ntmps21 rfl ?_
 refine sr ?_
 refine wl_box wn rfl rfl hS ?_
 intro g9 w10 hS11
 have hS12 : SH _ _ _ _ _ [obj g9 [.slice a1 n2 c3, .slice a5 n6 c7] 53] := hS11
 refine wl_alloc wn rfl tf26 hS12 ?_
 intro g13 w14 hS15
 have hS16 : SH _ _ _ _ _ [obj g13 [.slice none 0 0, .slice none 0 0] 26, _] := hS15
 refine nr ?_
 refine wl_alloc wn rfl tf26 hS16 ?_
 intro g17 w18 hS19
 have hS20 : SH _ _ _ _ _ [obj g17 [.slice none 0 0, .slice none 0 0] 26, _, _] := hS19
 refine nr ?_
 refine wl_val wn rfl (rv_fieldAddr ff53_0 rfl) ?_
 refine wl_val wn rfl (rv_loadm1 tf23 rfl (.tail _ (.tail _ (.head _))) hS20 rfl) ?_
 obtain ⟨r21, hx22, h23⟩ := ob hm
 refine wl_call wn rfl (rt_call (vs := [.slice a1 n2 c3]) co67 rfl) ((ok_laws_toStringS F) hS20.enter0 hs4 hx22) ?_
 rintro e31 w25 ⟨a27, n28, c29, K24, rfl, hS26, hs30⟩
 refine ⟨_, rfl, ?_⟩
 have hS32 : SH _ _ _ _ _ [_, _, _, _] := SH.call0 hS20 hS26
 refine wl_val wn rfl (rv_fieldAddr ff26_0 rfl) ?_
 have hS33 : SH _ _ _ _ _ [_, _, _, _] := SH.front (p := [_]) hS32
 refine wl_store (cs' := [.slice a27 n28 c29, .slice none 0 0]) (v := .slice a27 n28 c29) wn tf23 rfl rfl rfl (by simp [Value.cells, Value.oneCell']) hS33 rfl rfl ?_
 intro w34 hS35
 refine nr ?_
 refine wl_val wn rfl (rv_fieldAddr ff53_1 rfl) ?_
 refine wl_val wn rfl (rv_loadm1 tf51 rfl (.tail _ (.tail _ (.tail _ (.head _)))) hS35 rfl) ?_
 obtain ⟨r36, hx37, h38⟩ := ob h23
 refine wl_call wn rfl (rt_call (vs := [.slice a5 n6 c7]) co68 rfl) ((ok_laws_toSynS F) hS35.enter0 (SliceAt.mono hS26.le hs8) hx37) ?_
 rintro e46 w40 ⟨a42, n43, c44, K39, rfl, hS41, hs45⟩
 refine ⟨_, rfl, ?_⟩
 have hS47 : SH _ _ _ _ _ [_, _, _, _, _] := SH.call0 hS35 hS41
 refine wl_val wn rfl (rv_fieldAddr ff26_1 rfl) ?_
 have hS48 : SH _ _ _ _ _ [_, _, _, _, _] := SH.front (p := [_]) hS47
 refine wl_store (cs' := [.slice a27 n28 c29, .slice a42 n43 c44]) (v := .slice a42 n43 c44) wn tf24 rfl rfl rfl (by simp [Value.cells, Value.oneCell']) hS48 rfl rfl ?_
 intro w49 hS50
 refine nr ?_
 refine wl_val wn rfl (rv_loadmS (ds := [.slice a27 n28 c29, .slice a42 n43 c44]) tf26 rfl (.head _) hS50 rfl rfl) ?_
 have hS51 : SH _ _ _ _ _ [_, _, _, _, _] := SH.front (p := [_, _, _]) hS50
 refine wl_store (cs' := [.slice a27 n28 c29, .slice a42 n43 c44]) (v := .agg #[.slice a27 n28 c29, .slice a42 n43 c44]) wn tf26 rfl rfl rfl (by simp [Value.cells, Value.oneCell']) hS51 rfl rfl ?_
 intro w52 hS53
 refine nq ?_
 refine wc_ret ?_
 obtain rfl := oi h38
 have hS54 : SH _ _ _ _ _ [_, _, _, _, _] := SH.front (p := [_, _]) hS53
 have hS55 : SH _ _ _ _ _ [_, _, _, _, _] := SH.front (p := [_, _, _]) hS54
 have hS56 : SH _ _ _ _ _ [_, _] := SH.sublist hS55 (.cons_cons _ (.cons_cons _ (.cons _ (.cons _ (.cons _ .slnil)))))
 exact qe_ret (vs := [_]) Tryz.results21 ⟨⟨_, _, rfl, run_loadVar_at tf26 (cs := [.slice a27 n28 c29, .slice a42 n43 c44]) (fun j c e => by rw [Nat.zero_add, hS53.mem_obj (.head _)]; exact e) (.inl ⟨rfl, rfl, rfl⟩)⟩, trivial⟩ ⟨a27, n28, c29, a42, n43, c44, K39, rfl, hS56, (SliceAt.mono hS41.le hs30), hs45⟩

theorem ok_laws_eqField (F : Nat) {w : World} {K : KMap} {p0_a : GField} {p1_b : GField} {r : Bool} (hS : SH w K [] w K []) (hl1 : p0_a.Name.length ≤ maxLen) (hl2 : p0_a.Text.length ≤ maxLen) (hl3 : p1_b.Name.length ≤ maxLen) (hl4 : p1_b.Text.length ≤ maxLen) (hm : M.laws_eqField F p0_a p1_b = some r) :
  Calls Tryz.prog 163 #[.agg #[sv p0_a.Name, sv p0_a.Text], .agg #[sv p1_b.Name, sv p1_b.Text]] w fun e w' => ∃ (K' : KMap), e = .returned (.bool r) ∧ SH w K [] w' K' [] := by
 rw [M.laws_eqField] at hm
 refine calls_in Tryz.func163 rfl Tryz.ntmps163 rfl ?_
 refine sr ?_
 refine wl_box wn rfl rfl hS ?_
 intro g5 w6 hS7
 have hS8 : SH _ _ _ _ _ [obj g5 [sv p0_a.Name, sv p0_a.Text] 109] := hS7
 refine wl_box wn rfl rfl hS8 ?_
 intro g9 w10 hS11
 have hS12 : SH _ _ _ _ _ [obj g9 [sv p1_b.Name, sv p1_b.Text] 109, _] := hS11
 refine wl_val wn rfl (rv_assign (v := .bool false) rfl) ?_
 refine nsr ?_
 refine wl_val wn rfl (rv_fieldAddr ff109_0 rfl) ?_
 refine wl_val wn rfl (rv_loadm1 tf9 rfl (.tail _ (.head _)) hS12 rfl) ?_
 refine wl_val wn rfl (rv_fieldAddr ff109_0 rfl) ?_
 refine wl_val wn rfl (rv_loadm1 tf9 rfl (.head _) hS12 rfl) ?_
 refine wl_val wn rfl (rv_sneq rfl rfl) ?_
 refine nq ?_
 refine wc_cond rfl (fun hb13 => ?_) (fun hb13 => ?_)
 ·have h14 := cond_t hb13 hm
  refine sr ?_
  refine wl_val wn rfl (rv_assign (v := .bool false) rfl) ?_
  refine nq ?_
  refine rr ?_
  obtain rfl := oi h14
  have hS15 : SH _ _ _ _ _ [] := SH.sublist hS12 (.cons _ (.cons _ .slnil))
  exact qe_ret (vs := [_]) Tryz.results163 ⟨rfl, trivial⟩ ⟨K, rfl, hS15⟩
 ·have h14 := cond_f hb13 hm
  refine wc_skip ?_
  refine qs ?_
  refine sr ?_
  refine wl_val wn rfl (rv_fieldAddr ff109_1 rfl) ?_
  refine wl_val wn rfl (rv_loadm1 tf9 rfl (.tail _ (.head _)) hS12 rfl) ?_
  refine wl_val wn rfl (rv_fieldAddr ff109_1 rfl) ?_
  refine wl_val wn rfl (rv_loadm1 tf9 rfl (.head _) hS12 rfl) ?_
  refine wl_val wn rfl (rv_sneq rfl rfl) ?_
  refine nq ?_
  refine wc_cond rfl (fun hb16 => ?_) (fun hb16 => ?_)
  ·have h17 := cond_t hb16 h14
   refine sr ?_
   refine wl_val wn rfl (rv_assign (v := .bool false) rfl) ?_
   refine nq ?_
   refine rr ?_
   obtain rfl := oi h17
   have hS18 : SH _ _ _ _ _ [] := SH.sublist hS12 (.cons _ (.cons _ .slnil))
   exact qe_ret (vs := [_]) Tryz.results163 ⟨rfl, trivial⟩ ⟨K, rfl, hS18⟩
  ·have h17 := cond_f hb16 h14
   refine wc_skip ?_
   refine qr ?_
   refine wl_val wn rfl (rv_assign (v := .bool true) rfl) ?_
   refine nq ?_
   refine wc_ret ?_
   obtain rfl := oi h17
   have hS19 : SH _ _ _ _ _ [] := SH.sublist hS12 (.cons _ (.cons _ .slnil))
   exact qe_ret (vs := [_]) Tryz.results163 ⟨rfl, trivial⟩ ⟨K, rfl, hS19⟩

theorem ok_laws_eqFieldS (F : Nat) {w : World} {K : KMap} {a1 : Option Addr} {n2 c3 : Nat} {a5 : Option Addr} {n6 c7 : Nat} {p0_a : List GField} {p1_b : List GField} {r : Bool} (hS : SH w K [] w K []) (hs4 : SliceAt tGField K a1 n2 c3 p0_a) (hs8 : SliceAt tGField K a5 n6 c7 p1_b) (hm : M.laws_eqFieldS F p0_a p1_b = some r) :
  Calls Tryz.prog 129 #[.slice a1 n2 c3, .slice a5 n6 c7] w fun e w' => ∃ (K' : KMap), e = .returned (.bool r) ∧ SH w K [] w' K' [] := by
 rw [M.laws_eqFieldS] at hm
 refine calls_in Tryz.func129 rfl Tryz.ntmps129 rfl ?_
 refine sr ?_
 refine wl_val wn rfl (rv_assign (v := .bool false) rfl) ?_
 refine nsr ?_
 refine vm rfl rfl ?_
 refine wl_val wn rfl (rv_len (t := tGField) Tryz.underlying41 rfl hs4) ?_
 refine vm rfl rfl ?_
 refine wl_val wn rfl (rv_len (t := tGField) Tryz.underlying41 rfl hs8) ?_
 refine wl_val wn rfl (rv_neq rfl rfl) ?_
 refine nq ?_
 refine wc_cond rfl (fun hb9 => ?_) (fun hb9 => ?_)
 ·have h10 := cond_t hb9 hm
  refine sr ?_
  refine wl_val wn rfl (rv_assign (v := .bool false) rfl) ?_
  refine nq ?_
  refine rr ?_
  obtain rfl := oi h10
  exact qe_ret (vs := [_]) Tryz.results129 ⟨rfl, trivial⟩ ⟨K, rfl, hS⟩
 ·have h10 := cond_f hb9 hm
  refine wc_skip ?_
  refine qs ?_
  refine sr ?_
  refine wl_val wn rfl (rv_assign (v := .int .i64 0) rfl) ?_
  refine nq ?_
  obtain ⟨o11, h12, h13⟩ := ob h10
  refine wc_cutg (fun E' w' => ∃ (s14 : Unit) (K15 : KMap), o11 = .inl s14 ∧ E' = [] ∧ SH w K [] w' K15 [] ∧ KLe K K15) ?_ ?_
  ·refine wc_block ?_
   obtain ⟨r20, h21, h22⟩ := ob h12
   refine wc_while' (fun (s19 : Int) E' w' => ∃ (K23 : KMap), E' = [(0, .slice a1 n2 c3), (1, .slice a5 n6 c7), (5, .int .i64 s19)] ∧ SH w K [] w' K23 [] ∧ KLe K K23 ∧ rng64 s19) h21 ⟨K, rfl, hS, (KLe.refl _), (by decide : rng64 0)⟩ ⟨rfl, rfl, rfl, trivial⟩ ?_
   rintro s19 _ w25 r28 h29 hx30 ⟨K23, rfl, hS26, hl24, hr27⟩
   refine wc_seq ?_
   refine sr ?_
   refine vm rfl rfl ?_
   refine vm rfl rfl ?_
   refine wl_val wn rfl (rv_len (t := tGField) Tryz.underlying41 rfl (SliceAt.mono hl24 hs4)) ?_
   refine wl_val wn rfl (rv_lss rfl rfl) ?_
   refine nq ?_
   refine wc_cond rfl (fun hb31 => ?_) (fun hb31 => ?_)
   ·have h32 := cond_t hb31 h29
    refine wc_skip ?_
    refine qs ?_
    refine wc_block ?_
    refine wc_seq ?_
    refine wc_quiet mixed (by kernel_rfl) hS26 ?_
    refine qm rfl rfl ?_
    refine qm rfl rfl ?_
    obtain ⟨x33, hx34, h35⟩ := ob h32
    refine wq_indexAddr (t := tGField) wn rfl Tryz.underlying41 tf109 rfl rfl (SliceAt.mono hl24 hs4) hx34 ?_
    intro b36 o37 u38 hu39 ha40
    obtain ⟨rfl, hl41, hl42⟩ := hu39
    have ha43 : AtK _ b36 o37 [sv x33.Name, sv x33.Text] := ha40
    refine wq_val wn rfl (rq_loadS (cs := [sv x33.Name, sv x33.Text]) tf109 rfl ha43 rfl) ?_
    refine qm rfl rfl ?_
    refine qm rfl rfl ?_
    obtain ⟨x44, hx45, h46⟩ := ob h35
    refine wq_indexAddr (t := tGField) wn rfl Tryz.underlying41 tf109 rfl rfl (SliceAt.mono hl24 hs8) hx45 ?_
    intro b47 o48 u49 hu50 ha51
    obtain ⟨rfl, hl52, hl53⟩ := hu50
    have ha54 : AtK _ b47 o48 [sv x44.Name, sv x44.Text] := ha51
    refine wq_val wn rfl (rq_loadS (cs := [sv x44.Name, sv x44.Text]) tf109 rfl ha54 rfl) ?_
    obtain ⟨r55, hx56, h57⟩ := ob h46
    refine wq_call (v := .bool r55) wn rfl (fun _ => rt_call (vs := [.agg #[sv x33.Name, sv x33.Text], .agg #[sv x44.Name, sv x44.Text]]) co163 rfl) (fun w60 ⟨K58, hS59, hl61⟩ => ((ok_laws_eqField F) hS59.enter0 hl41 hl42 hl52 hl53 hx56).mono fun e w' ⟨K', he, hS'⟩ => ⟨he, K', hS59.call0 hS', hl61.trans hS'.le⟩) ?_
    refine wq_val wn rfl (fun _ _ => (rv_not rfl)) ?_
    refine wq_nil ?_
    rintro w63 ⟨K62, hS64, hl65⟩
    refine qe_seq ?_
    refine wc_cond rfl (fun hb66 => ?_) (fun hb66 => ?_)
    ·have h67 := cond_t hb66 h57
     refine sr ?_
     refine wl_val wn rfl (rv_assign (v := .bool false) rfl) ?_
     refine nq ?_
     refine wc_ret ?_
     refine qe_block_ret ?_
     refine qe_then_ret ?_
     refine qe_then_ret ?_
     obtain rfl := oi h67
     have e68 := hx30 _ rfl
     subst e68
     refine qe_block_ret ?_
     refine qe_then_ret ?_
     obtain rfl := oi h22
     refine qe_then_ret ?_
     obtain rfl := oi h13
     exact qe_ret (vs := [_]) Tryz.results129 ⟨rfl, trivial⟩ ⟨K62, rfl, hS64⟩
    ·have h67 := cond_f hb66 h57
     refine wc_skip ?_
     refine qe_block ?_
     refine qe_seq ?_
     refine wc_region ?_
     refine vm rfl rfl ?_
     refine wl_val wn rfl (rv_add rfl rfl) ?_
     refine va rfl rfl ?_
     refine wl_nil ?_
     obtain rfl := oi h67
     exact qe_mid' ⟨_, rfl, K62, rfl, hS64, (hl24.trans hl65), (w64_rng _)⟩ ⟨rfl, rfl, rfl, trivial⟩
   ·have h32 := cond_f hb31 h29
    refine wc_exit ?_
    refine qe_then_exit ?_
    refine qe_then_exit ?_
    obtain rfl := oi h32
    have e69 := hx30 _ rfl
    subst e69
    refine qe_block_eq ?_
    obtain rfl := oi h22
    exact qe_mid' ⟨_, K23, rfl, rfl, hS26, hl24⟩ trivial
  ·rintro _ w17 ⟨s14, K15, rfl, rfl, hS18, hl16⟩
   refine qr ?_
   refine wl_val wn rfl (rv_assign (v := .bool true) rfl) ?_
   refine nq ?_
   refine wc_ret ?_
   obtain rfl := oi h13
   exact qe_ret (vs := [_]) Tryz.results129 ⟨rfl, trivial⟩ ⟨K15, rfl, hS18⟩

theorem ok_laws_eqAttr (F : Nat) {w : World} {K : KMap} {p0_a : GAttr} {p1_b : GAttr} {r : Bool} (hS : SH w K [] w K []) (hl1 : p0_a.Name.length ≤ maxLen) (hr2 : rng64 p0_a.Num) (hl3 : p1_b.Name.length ≤ maxLen) (hr4 : rng64 p1_b.Num) (hm : M.laws_eqAttr F p0_a p1_b = some r) :
  Calls Tryz.prog 164 #[.agg #[sv p0_a.Name, .int .i64 p0_a.Num], .agg #[sv p1_b.Name, .int .i64 p1_b.Num]] w fun e w' => ∃ (K' : KMap), e = .returned (.bool r) ∧ SH w K [] w' K' [] := by
 rw [M.laws_eqAttr] at hm
 refine calls_in Tryz.func164 rfl Tryz.ntmps164 rfl ?_
 refine sr ?_
 refine wl_box wn rfl rfl hS ?_
 intro g5 w6 hS7
 have hS8 : SH _ _ _ _ _ [obj g5 [sv p0_a.Name, .int .i64 p0_a.Num] 152] := hS7
 refine wl_box wn rfl rfl hS8 ?_
 intro g9 w10 hS11
 have hS12 : SH _ _ _ _ _ [obj g9 [sv p1_b.Name, .int .i64 p1_b.Num] 152, _] := hS11
 refine wl_val wn rfl (rv_assign (v := .bool false) rfl) ?_
 refine nsr ?_
 refine wl_val wn rfl (rv_fieldAddr ff152_0 rfl) ?_
 refine wl_val wn rfl (rv_loadm1 tf9 rfl (.tail _ (.head _)) hS12 rfl) ?_
 refine wl_val wn rfl (rv_fieldAddr ff152_0 rfl) ?_
 refine wl_val wn rfl (rv_loadm1 tf9 rfl (.head _) hS12 rfl) ?_
 refine wl_val wn rfl (rv_sneq rfl rfl) ?_
 refine nq ?_
 refine wc_cond rfl (fun hb13 => ?_) (fun hb13 => ?_)
 ·have h14 := cond_t hb13 hm
  refine sr ?_
  refine wl_val wn rfl (rv_assign (v := .bool false) rfl) ?_
  refine nq ?_
  refine rr ?_
  obtain rfl := oi h14
  have hS15 : SH _ _ _ _ _ [] := SH.sublist hS12 (.cons _ (.cons _ .slnil))
  exact qe_ret (vs := [_]) Tryz.results164 ⟨rfl, trivial⟩ ⟨K, rfl, hS15⟩
 ·have h14 := cond_f hb13 hm
  refine wc_skip ?_
  refine qs ?_
  refine sr ?_
  refine wl_val wn rfl (rv_fieldAddr ff152_1 rfl) ?_
  refine wl_val wn rfl (rv_loadm1 tf3 rfl (.tail _ (.head _)) hS12 rfl) ?_
  refine wl_val wn rfl (rv_fieldAddr ff152_1 rfl) ?_
  refine wl_val wn rfl (rv_loadm1 tf3 rfl (.head _) hS12 rfl) ?_
  refine wl_val wn rfl (rv_neq rfl rfl) ?_
  refine nq ?_
  refine wc_cond rfl (fun hb16 => ?_) (fun hb16 => ?_)
  ·have h17 := cond_t hb16 h14
   refine sr ?_
   refine wl_val wn rfl (rv_assign (v := .bool false) rfl) ?_
   refine nq ?_
   refine rr ?_
   obtain rfl := oi h17
   have hS18 : SH _ _ _ _ _ [] := SH.sublist hS12 (.cons _ (.cons _ .slnil))
   exact qe_ret (vs := [_]) Tryz.results164 ⟨rfl, trivial⟩ ⟨K, rfl, hS18⟩
  ·have h17 := cond_f hb16 h14
   refine wc_skip ?_
   refine qr ?_
   refine wl_val wn rfl (rv_assign (v := .bool true) rfl) ?_
   refine nq ?_
   refine wc_ret ?_
   obtain rfl := oi h17
   have hS19 : SH _ _ _ _ _ [] := SH.sublist hS12 (.cons _ (.cons _ .slnil))
   exact qe_ret (vs := [_]) Tryz.results164 ⟨rfl, trivial⟩ ⟨K, rfl, hS19⟩

theorem ok_laws_eqAttrS (F : Nat) {w : World} {K : KMap} {a1 : Option Addr} {n2 c3 : Nat} {a5 : Option Addr} {n6 c7 : Nat} {p0_a : List GAttr} {p1_b : List GAttr} {r : Bool} (hS : SH w K [] w K []) (hs4 : SliceAt tGAttr K a1 n2 c3 p0_a) (hs8 : SliceAt tGAttr K a5 n6 c7 p1_b) (hm : M.laws_eqAttrS F p0_a p1_b = some r) :
  Calls Tryz.prog 130 #[.slice a1 n2 c3, .slice a5 n6 c7] w fun e w' => ∃ (K' : KMap), e = .returned (.bool r) ∧ SH w K [] w' K' [] := by
 rw [M.laws_eqAttrS] at hm
 refine calls_in Tryz.func130 rfl Tryz.ntmps130 rfl ?_
 refine sr ?_
 refine wl_val wn rfl (rv_assign (v := .bool false) rfl) ?_
 refine nsr ?_
 refine vm rfl rfl ?_
 refine wl_val wn rfl (rv_len (t := tGAttr) Tryz.underlying42 rfl hs4) ?_
 refine vm rfl rfl ?_
 refine wl_val wn rfl (rv_len (t := tGAttr) Tryz.underlying42 rfl hs8) ?_
 refine wl_val wn rfl (rv_neq rfl rfl) ?_
 refine nq ?_
 refine wc_cond rfl (fun hb9 => ?_) (fun hb9 => ?_)
 ·have h10 := cond_t hb9 hm
  refine sr ?_
  refine wl_val wn rfl (rv_assign (v := .bool false) rfl) ?_
  refine nq ?_
  refine rr ?_
  obtain rfl := oi h10
  exact qe_ret (vs := [_]) Tryz.results130 ⟨rfl, trivial⟩ ⟨K, rfl, hS⟩
 ·have h10 := cond_f hb9 hm
  refine wc_skip ?_
  refine qs ?_
  refine sr ?_
  refine wl_val wn rfl (rv_assign (v := .int .i64 0) rfl) ?_
  refine nq ?_
  obtain ⟨o11, h12, h13⟩ := ob h10
  refine wc_cutg (fun E' w' => ∃ (s14 : Unit) (K15 : KMap), o11 = .inl s14 ∧ E' = [] ∧ SH w K [] w' K15 [] ∧ KLe K K15) ?_ ?_
  ·refine wc_block ?_
   obtain ⟨r20, h21, h22⟩ := ob h12
   refine wc_while' (fun (s19 : Int) E' w' => ∃ (K23 : KMap), E' = [(0, .slice a1 n2 c3), (1, .slice a5 n6 c7), (5, .int .i64 s19)] ∧ SH w K [] w' K23 [] ∧ KLe K K23 ∧ rng64 s19) h21 ⟨K, rfl, hS, (KLe.refl _), (by decide : rng64 0)⟩ ⟨rfl, rfl, rfl, trivial⟩ ?_
   rintro s19 _ w25 r28 h29 hx30 ⟨K23, rfl, hS26, hl24, hr27⟩
   refine wc_seq ?_
   refine sr ?_
   refine vm rfl rfl ?_
   refine vm rfl rfl ?_
   refine wl_val wn rfl (rv_len (t := tGAttr) Tryz.underlying42 rfl (SliceAt.mono hl24 hs4)) ?_
   refine wl_val wn rfl (rv_lss rfl rfl) ?_
   refine nq ?_
   refine wc_cond rfl (fun hb31 => ?_) (fun hb31 => ?_)
   ·have h32 := cond_t hb31 h29
    refine wc_skip ?_
    refine qs ?_
    refine wc_block ?_
    refine wc_seq ?_
    refine wc_quiet mixed (by kernel_rfl) hS26 ?_
    refine qm rfl rfl ?_
    refine qm rfl rfl ?_
    obtain ⟨x33, hx34, h35⟩ := ob h32
    refine wq_indexAddr (t := tGAttr) wn rfl Tryz.underlying42 tf152 rfl rfl (SliceAt.mono hl24 hs4) hx34 ?_
    intro b36 o37 u38 hu39 ha40
    obtain ⟨rfl, hl41, hr42⟩ := hu39
    have ha43 : AtK _ b36 o37 [sv x33.Name, .int .i64 x33.Num] := ha40
    refine wq_val wn rfl (rq_loadS (cs := [sv x33.Name, .int .i64 x33.Num]) tf152 rfl ha43 rfl) ?_
    refine qm rfl rfl ?_
    refine qm rfl rfl ?_
    obtain ⟨x44, hx45, h46⟩ := ob h35
    refine wq_indexAddr (t := tGAttr) wn rfl Tryz.underlying42 tf152 rfl rfl (SliceAt.mono hl24 hs8) hx45 ?_
    intro b47 o48 u49 hu50 ha51
    obtain ⟨rfl, hl52, hr53⟩ := hu50
    have ha54 : AtK _ b47 o48 [sv x44.Name, .int .i64 x44.Num] := ha51
    refine wq_val wn rfl (rq_loadS (cs := [sv x44.Name, .int .i64 x44.Num]) tf152 rfl ha54 rfl) ?_
    obtain ⟨r55, hx56, h57⟩ := ob h46
    refine wq_call (v := .bool r55) wn rfl (fun _ => rt_call (vs := [.agg #[sv x33.Name, .int .i64 x33.Num], .agg #[sv x44.Name, .int .i64 x44.Num]]) co164 rfl) (fun w60 ⟨K58, hS59, hl61⟩ => ((ok_laws_eqAttr F) hS59.enter0 hl41 hr42 hl52 hr53 hx56).mono fun e w' ⟨K', he, hS'⟩ => ⟨he, K', hS59.call0 hS', hl61.trans hS'.le⟩) ?_
    refine wq_val wn rfl (fun _ _ => (rv_not rfl)) ?_
    refine wq_nil ?_
    rintro w63 ⟨K62, hS64, hl65⟩
    refine qe_seq ?_
    refine wc_cond rfl (fun hb66 => ?_) (fun hb66 => ?_)
    ·have h67 := cond_t hb66 h57
     refine sr ?_
     refine wl_val wn rfl (rv_assign (v := .bool false) rfl) ?_
     refine nq ?_
     refine wc_ret ?_
     refine qe_block_ret ?_
     refine qe_then_ret ?_
     refine qe_then_ret ?_
     obtain rfl := oi h67
     have e68 := hx30 _ rfl
     subst e68
     refine qe_block_ret ?_
     refine qe_then_ret ?_
     obtain rfl := oi h22
     refine qe_then_ret ?_
     obtain rfl := oi h13
     exact qe_ret (vs := [_]) Tryz.results130 ⟨rfl, trivial⟩ ⟨K62, rfl, hS64⟩
    ·have h67 := cond_f hb66 h57
     refine wc_skip ?_
     refine qe_block ?_
     refine qe_seq ?_
     refine wc_region ?_
     refine vm rfl rfl ?_
     refine wl_val wn rfl (rv_add rfl rfl) ?_
     refine va rfl rfl ?_
     refine wl_nil ?_
     obtain rfl := oi h67
     exact qe_mid' ⟨_, rfl, K62, rfl, hS64, (hl24.trans hl65), (w64_rng _)⟩ ⟨rfl, rfl, rfl, trivial⟩
   ·have h32 := cond_f hb31 h29
    refine wc_exit ?_
    refine qe_then_exit ?_
    refine qe_then_exit ?_
    obtain rfl := oi h32
    have e69 := hx30 _ rfl
    subst e69
    refine qe_block_eq ?_
    obtain rfl := oi h22
    exact qe_mid' ⟨_, K23, rfl, rfl, hS26, hl24⟩ trivial
  ·rintro _ w17 ⟨s14, K15, rfl, rfl, hS18, hl16⟩
   refine qr ?_
   refine wl_val wn rfl (rv_assign (v := .bool true) rfl) ?_
   refine nq ?_
   refine wc_ret ?_
   obtain rfl := oi h13
   exact qe_ret (vs := [_]) Tryz.results130 ⟨rfl, trivial⟩ ⟨K15, rfl, hS18⟩

theorem ok_laws_eqDoc (F : Nat) {w : World} {K : KMap} {a2 : Option Addr} {n3 c4 : Nat} {a6 : Option Addr} {n7 c8 : Nat} {a11 : Option Addr} {n12 c13 : Nat} {a15 : Option Addr} {n16 c17 : Nat} {p0_a : GDoc} {p1_b : GDoc} {r : Bool} (hS : SH w K [] w K []) (hr1 : rng64 p0_a.Id) (hs5 : SliceAt tGField K a2 n3 c4 p0_a.Fields) (hs9 : SliceAt tGAttr K a6 n7 c8 p0_a.Nums) (hr10 : rng64 p1_b.Id) (hs14 : SliceAt tGField K a11 n12 c13 p1_b.Fields) (hs18 : SliceAt tGAttr K a15 n16 c17 p1_b.Nums) (hm : M.laws_eqDoc F p0_a p1_b = some r) :
  Calls Tryz.prog 78 #[.agg #[.int .i64 p0_a.Id, .slice a2 n3 c4, .slice a6 n7 c8], .agg #[.int .i64 p1_b.Id, .slice a11 n12 c13, .slice a15 n16 c17]] w fun e w' => ∃ (K' : KMap), e = .returned (.bool r) ∧ SH w K [] w' K' [] := by
 rw [M.laws_eqDoc] at hm
 refine calls_in Tryz.func78 rfl Tryz.ntmps78 rfl ?_
 refine sr ?_
 refine wl_box wn rfl rfl hS ?_
 intro g19 w20 hS21
 have hS22 : SH _ _ _ _ _ [obj g19 [.int .i64 p0_a.Id, .slice a2 n3 c4, .slice a6 n7 c8] 44] := hS21
 refine wl_box wn rfl rfl hS22 ?_
 intro g23 w24 hS25
 have hS26 : SH _ _ _ _ _ [obj g23 [.int .i64 p1_b.Id, .slice a11 n12 c13, .slice a15 n16 c17] 44, _] := hS25
 refine wl_val wn rfl (rv_assign (v := .bool false) rfl) ?_
 refine nsr ?_
 refine wl_val wn rfl (rv_fieldAddr ff44_0 rfl) ?_
 refine wl_val wn rfl (rv_loadm1 tf3 rfl (.tail _ (.head _)) hS26 rfl) ?_
 refine wl_val wn rfl (rv_fieldAddr ff44_0 rfl) ?_
 refine wl_val wn rfl (rv_loadm1 tf3 rfl (.head _) hS26 rfl) ?_
 refine wl_val wn rfl (rv_neq rfl rfl) ?_
 refine nq ?_
 refine wc_cond rfl (fun hb27 => ?_) (fun hb27 => ?_)
 ·have h28 := cond_t hb27 hm
  refine sr ?_
  refine wl_val wn rfl (rv_assign (v := .bool false) rfl) ?_
  refine nq ?_
  refine rr ?_
  obtain rfl := oi h28
  have hS29 : SH _ _ _ _ _ [] := SH.sublist hS26 (.cons _ (.cons _ .slnil))
  exact qe_ret (vs := [_]) Tryz.results78 ⟨rfl, trivial⟩ ⟨K, rfl, hS29⟩
 ·have h28 := cond_f hb27 hm
  refine wc_skip ?_
  refine qs ?_
  refine sr ?_
  refine wl_val wn rfl (rv_fieldAddr ff44_1 rfl) ?_
  refine wl_val wn rfl (rv_loadm1 tf41 rfl (.tail _ (.head _)) hS26 rfl) ?_
  refine wl_val wn rfl (rv_fieldAddr ff44_1 rfl) ?_
  refine wl_val wn rfl (rv_loadm1 tf41 rfl (.head _) hS26 rfl) ?_
  obtain ⟨r30, hx31, h32⟩ := ob h28
  refine wl_call wn rfl (rt_call (vs := [.slice a2 n3 c4, .slice a11 n12 c13]) co129 rfl) ((ok_laws_eqFieldS F) hS26.enter0 hs5 hs14 hx31) ?_
  rintro e36 w34 ⟨K33, rfl, hS35⟩
  refine ⟨_, rfl, ?_⟩
  have hS37 : SH _ _ _ _ _ [_, _] := SH.call0 hS26 hS35
  refine wl_val wn rfl (rv_not rfl) ?_
  refine nq ?_
  refine wc_cond rfl (fun hb38 => ?_) (fun hb38 => ?_)
  ·have h39 := cond_t hb38 h32
   refine sr ?_
   refine wl_val wn rfl (rv_assign (v := .bool false) rfl) ?_
   refine nq ?_
   refine rr ?_
   obtain rfl := oi h39
   have hS40 : SH _ _ _ _ _ [] := SH.sublist hS37 (.cons _ (.cons _ .slnil))
   exact qe_ret (vs := [_]) Tryz.results78 ⟨rfl, trivial⟩ ⟨K33, rfl, hS40⟩
  ·have h39 := cond_f hb38 h32
   refine wc_skip ?_
   refine qs ?_
   refine sr ?_
   refine wl_val wn rfl (rv_fieldAddr ff44_2 rfl) ?_
   refine wl_val wn rfl (rv_loadm1 tf42 rfl (.tail _ (.head _)) hS37 rfl) ?_
   refine wl_val wn rfl (rv_fieldAddr ff44_2 rfl) ?_
   refine wl_val wn rfl (rv_loadm1 tf42 rfl (.head _) hS37 rfl) ?_
   obtain ⟨r41, hx42, h43⟩ := ob h39
   refine wl_call wn rfl (rt_call (vs := [.slice a6 n7 c8, .slice a15 n16 c17]) co130 rfl) ((ok_laws_eqAttrS F) hS37.enter0 (SliceAt.mono hS35.le hs9) (SliceAt.mono hS35.le hs18) hx42) ?_
   rintro e47 w45 ⟨K44, rfl, hS46⟩
   refine ⟨_, rfl, ?_⟩
   have hS48 : SH _ _ _ _ _ [_, _] := SH.call0 hS37 hS46
   refine wl_val wn rfl (rv_not rfl) ?_
   refine nq ?_
   refine wc_cond rfl (fun hb49 => ?_) (fun hb49 => ?_)
   ·have h50 := cond_t hb49 h43
    refine sr ?_
    refine wl_val wn rfl (rv_assign (v := .bool false) rfl) ?_
    refine nq ?_
    refine rr ?_
    obtain rfl := oi h50
    have hS51 : SH _ _ _ _ _ [] := SH.sublist hS48 (.cons _ (.cons _ .slnil))
    exact qe_ret (vs := [_]) Tryz.results78 ⟨rfl, trivial⟩ ⟨K44, rfl, hS51⟩
   ·have h50 := cond_f hb49 h43
    refine wc_skip ?_
    refine qr ?_
    refine wl_val wn rfl (rv_assign (v := .bool true) rfl) ?_
    refine nq ?_
    refine wc_ret ?_
    obtain rfl := oi h50
    have hS52 : SH _ _ _ _ _ [] := SH.sublist hS48 (.cons _ (.cons _ .slnil))
    exact qe_ret (vs := [_]) Tryz.results78 ⟨rfl, trivial⟩ ⟨K44, rfl, hS52⟩

theorem ok_laws_eqDocS (F : Nat) {w : World} {K : KMap} {a1 : Option Addr} {n2 c3 : Nat} {a5 : Option Addr} {n6 c7 : Nat} {p0_a : List GDoc} {p1_b : List GDoc} {r : Bool} (hS : SH w K [] w K []) (hs4 : SliceAt tGDoc K a1 n2 c3 p0_a) (hs8 : SliceAt tGDoc K a5 n6 c7 p1_b) (hm : M.laws_eqDocS F p0_a p1_b = some r) :
  Calls Tryz.prog 26 #[.slice a1 n2 c3, .slice a5 n6 c7] w fun e w' => ∃ (K' : KMap), e = .returned (.bool r) ∧ SH w K [] w' K' [] := by
 rw [M.laws_eqDocS] at hm
 refine calls_in Tryz.func26 rfl Tryz.ntmps26 rfl ?_
 refine sr ?_
 refine wl_val wn rfl (rv_assign (v := .bool false) rfl) ?_
 refine nsr ?_
 refine vm rfl rfl ?_
 refine wl_val wn rfl (rv_len (t := tGDoc) Tryz.underlying27 rfl hs4) ?_
 refine vm rfl rfl ?_
 refine wl_val wn rfl (rv_len (t := tGDoc) Tryz.underlying27 rfl hs8) ?_
 refine wl_val wn rfl (rv_neq rfl rfl) ?_
 refine nq ?_
 refine wc_cond rfl (fun hb9 => ?_) (fun hb9 => ?_)
 ·have h10 := cond_t hb9 hm
  refine sr ?_
  refine wl_val wn rfl (rv_assign (v := .bool false) rfl) ?_
  refine nq ?_
  refine rr ?_
  obtain rfl := oi h10
  exact qe_ret (vs := [_]) Tryz.results26 ⟨rfl, trivial⟩ ⟨K, rfl, hS⟩
 ·have h10 := cond_f hb9 hm
  refine wc_skip ?_
  refine qs ?_
  refine sr ?_
  refine wl_val wn rfl (rv_assign (v := .int .i64 0) rfl) ?_
  refine nq ?_
  obtain ⟨o11, h12, h13⟩ := ob h10
  refine wc_cutg (fun E' w' => ∃ (s14 : Unit) (K15 : KMap), o11 = .inl s14 ∧ E' = [] ∧ SH w K [] w' K15 [] ∧ KLe K K15) ?_ ?_
  ·refine wc_block ?_
   obtain ⟨r20, h21, h22⟩ := ob h12
   refine wc_while' (fun (s19 : Int) E' w' => ∃ (K23 : KMap), E' = [(0, .slice a1 n2 c3), (1, .slice a5 n6 c7), (5, .int .i64 s19)] ∧ SH w K [] w' K23 [] ∧ KLe K K23 ∧ rng64 s19) h21 ⟨K, rfl, hS, (KLe.refl _), (by decide : rng64 0)⟩ ⟨rfl, rfl, rfl, trivial⟩ ?_
   rintro s19 _ w25 r28 h29 hx30 ⟨K23, rfl, hS26, hl24, hr27⟩
   refine wc_seq ?_
   refine sr ?_
   refine vm rfl rfl ?_
   refine vm rfl rfl ?_
   refine wl_val wn rfl (rv_len (t := tGDoc) Tryz.underlying27 rfl (SliceAt.mono hl24 hs4)) ?_
   refine wl_val wn rfl (rv_lss rfl rfl) ?_
   refine nq ?_
   refine wc_cond rfl (fun hb31 => ?_) (fun hb31 => ?_)
   ·have h32 := cond_t hb31 h29
    refine wc_skip ?_
    refine qs ?_
    refine wc_block ?_
    refine wc_seq ?_
    refine wc_quiet mixed (by kernel_rfl) hS26 ?_
    refine qm rfl rfl ?_
    refine qm rfl rfl ?_
    obtain ⟨x33, hx34, h35⟩ := ob h32
    refine wq_indexAddr (t := tGDoc) wn rfl Tryz.underlying27 tf44 rfl rfl (SliceAt.mono hl24 hs4) hx34 ?_
    intro b36 o37 u38 hu39 ha40
    obtain ⟨a42, n43, c44, a46, n47, c48, rfl, hr41, hs45, hs49⟩ := hu39
    have ha50 : AtK _ b36 o37 [.int .i64 x33.Id, .slice a42 n43 c44, .slice a46 n47 c48] := ha40
    refine wq_val wn rfl (rq_loadS (cs := [.int .i64 x33.Id, .slice a42 n43 c44, .slice a46 n47 c48]) tf44 rfl ha50 rfl) ?_
    refine qm rfl rfl ?_
    refine qm rfl rfl ?_
    obtain ⟨x51, hx52, h53⟩ := ob h35
    refine wq_indexAddr (t := tGDoc) wn rfl Tryz.underlying27 tf44 rfl rfl (SliceAt.mono hl24 hs8) hx52 ?_
    intro b54 o55 u56 hu57 ha58
    obtain ⟨a60, n61, c62, a64, n65, c66, rfl, hr59, hs63, hs67⟩ := hu57
    have ha68 : AtK _ b54 o55 [.int .i64 x51.Id, .slice a60 n61 c62, .slice a64 n65 c66] := ha58
    refine wq_val wn rfl (rq_loadS (cs := [.int .i64 x51.Id, .slice a60 n61 c62, .slice a64 n65 c66]) tf44 rfl ha68 rfl) ?_
    obtain ⟨r69, hx70, h71⟩ := ob h53
    refine wq_call (v := .bool r69) wn rfl (fun _ => rt_call (vs := [.agg #[.int .i64 x33.Id, .slice a42 n43 c44, .slice a46 n47 c48], .agg #[.int .i64 x51.Id, .slice a60 n61 c62, .slice a64 n65 c66]]) co78 rfl) (fun w74 ⟨K72, hS73, hl75⟩ => ((ok_laws_eqDoc F) hS73.enter0 hr41 (SliceAt.mono hl75 hs45) (SliceAt.mono hl75 hs49) hr59 (SliceAt.mono hl75 hs63) (SliceAt.mono hl75 hs67) hx70).mono fun e w' ⟨K', he, hS'⟩ => ⟨he, K', hS73.call0 hS', hl75.trans hS'.le⟩) ?_
    refine wq_val wn rfl (fun _ _ => (rv_not rfl)) ?_
    refine wq_nil ?_
    rintro w77 ⟨K76, hS78, hl79⟩
    refine qe_seq ?_
    refine wc_cond rfl (fun hb80 => ?_) (fun hb80 => ?_)
    ·have h81 := cond_t hb80 h71
     refine sr ?_
     refine wl_val wn rfl (rv_assign (v := .bool false) rfl) ?_
     refine nq ?_
     refine wc_ret ?_
     refine qe_block_ret ?_
     refine qe_then_ret ?_
     refine qe_then_ret ?_
     obtain rfl := oi h81
     have e82 := hx30 _ rfl
     subst e82
     refine qe_block_ret ?_
     refine qe_then_ret ?_
     obtain rfl := oi h22
     refine qe_then_ret ?_
     obtain rfl := oi h13
     exact qe_ret (vs := [_]) Tryz.results26 ⟨rfl, trivial⟩ ⟨K76, rfl, hS78⟩
    ·have h81 := cond_f hb80 h71
     refine wc_skip ?_
     refine qe_block ?_
     refine qe_seq ?_
     refine wc_region ?_
     refine vm rfl rfl ?_
     refine wl_val wn rfl (rv_add rfl rfl) ?_
     refine va rfl rfl ?_
     refine wl_nil ?_
     obtain rfl := oi h81
     exact qe_mid' ⟨_, rfl, K76, rfl, hS78, (hl24.trans hl79), (w64_rng _)⟩ ⟨rfl, rfl, rfl, trivial⟩
   ·have h32 := cond_f hb31 h29
    refine wc_exit ?_
    refine qe_then_exit ?_
    refine qe_then_exit ?_
    obtain rfl := oi h32
    have e83 := hx30 _ rfl
    subst e83
    refine qe_block_eq ?_
    obtain rfl := oi h22
    exact qe_mid' ⟨_, K23, rfl, rfl, hS26, hl24⟩ trivial
  ·rintro _ w17 ⟨s14, K15, rfl, rfl, hS18, hl16⟩
   refine qr ?_
   refine wl_val wn rfl (rv_assign (v := .bool true) rfl) ?_
   refine nq ?_
   refine wc_ret ?_
   obtain rfl := oi h13
   exact qe_ret (vs := [_]) Tryz.results26 ⟨rfl, trivial⟩ ⟨K15, rfl, hS18⟩

theorem ok_laws_eqIntS (F : Nat) {w : World} {K : KMap} {a1 : Option Addr} {n2 c3 : Nat} {a5 : Option Addr} {n6 c7 : Nat} {p0_a : List Int} {p1_b : List Int} {r : Bool} (hS : SH w K [] w K []) (hs4 : SliceAt tInt K a1 n2 c3 p0_a) (hs8 : SliceAt tInt K a5 n6 c7 p1_b) (hm : M.laws_eqIntS F p0_a p1_b = some r) :
  Calls Tryz.prog 136 #[.slice a1 n2 c3, .slice a5 n6 c7] w fun e w' => ∃ (K' : KMap), e = .returned (.bool r) ∧ SH w K [] w' K' [] := by
 rw [M.laws_eqIntS] at hm
 refine calls_in Tryz.func136 rfl Tryz.ntmps136 rfl ?_
 refine sr ?_
 refine wl_val wn rfl (rv_assign (v := .bool false) rfl) ?_
 refine nsr ?_
 refine vm rfl rfl ?_
 refine wl_val wn rfl (rv_len (t := tInt) Tryz.underlying37 rfl hs4) ?_
 refine vm rfl rfl ?_
 refine wl_val wn rfl (rv_len (t := tInt) Tryz.underlying37 rfl hs8) ?_
 refine wl_val wn rfl (rv_neq rfl rfl) ?_
 refine nq ?_
 refine wc_cond rfl (fun hb9 => ?_) (fun hb9 => ?_)
 ·have h10 := cond_t hb9 hm
  refine sr ?_
  refine wl_val wn rfl (rv_assign (v := .bool false) rfl) ?_
  refine nq ?_
  refine rr ?_
  obtain rfl := oi h10
  exact qe_ret (vs := [_]) Tryz.results136 ⟨rfl, trivial⟩ ⟨K, rfl, hS⟩
 ·have h10 := cond_f hb9 hm
  refine wc_skip ?_
  refine qs ?_
  refine sr ?_
  refine wl_val wn rfl (rv_assign (v := .int .i64 0) rfl) ?_
  refine nq ?_
  obtain ⟨o11, h12, h13⟩ := ob h10
  refine wc_cutg (fun E' w' => ∃ (s14 : Unit) (K15 : KMap), o11 = .inl s14 ∧ E' = [] ∧ SH w K [] w' K15 [] ∧ KLe K K15) ?_ ?_
  ·refine wc_block ?_
   obtain ⟨r20, h21, h22⟩ := ob h12
   refine wc_while' (fun (s19 : Int) E' w' => ∃ (K23 : KMap), E' = [(0, .slice a1 n2 c3), (1, .slice a5 n6 c7), (5, .int .i64 s19)] ∧ SH w K [] w' K23 [] ∧ KLe K K23 ∧ rng64 s19) h21 ⟨K, rfl, hS, (KLe.refl _), (by decide : rng64 0)⟩ ⟨rfl, rfl, rfl, trivial⟩ ?_
   rintro s19 _ w25 r28 h29 hx30 ⟨K23, rfl, hS26, hl24, hr27⟩
   refine wc_seq ?_
   refine sr ?_
   refine vm rfl rfl ?_
   refine vm rfl rfl ?_
   refine wl_val wn rfl (rv_len (t := tInt) Tryz.underlying37 rfl (SliceAt.mono hl24 hs4)) ?_
   refine wl_val wn rfl (rv_lss rfl rfl) ?_
   refine nq ?_
   refine wc_cond rfl (fun hb31 => ?_) (fun hb31 => ?_)
   ·have h32 := cond_t hb31 h29
    refine wc_skip ?_
    refine qs ?_
    refine wc_block ?_
    refine wc_seq ?_
    refine wc_quiet mixed (by kernel_rfl) hS26 ?_
    refine qm rfl rfl ?_
    refine qm rfl rfl ?_
    obtain ⟨x33, hx34, h35⟩ := ob h32
    refine wq_indexAddr (t := tInt) wn rfl Tryz.underlying37 tf3 rfl rfl (SliceAt.mono hl24 hs4) hx34 ?_
    intro b36 o37 u38 hu39 ha40
    obtain ⟨rfl, hr41⟩ := hu39
    have ha42 : AtK _ b36 o37 [.int .i64 x33] := ha40
    refine wq_val wn rfl (rq_load1 tf3 rfl (ha42 0 _ rfl)) ?_
    refine qm rfl rfl ?_
    refine qm rfl rfl ?_
    obtain ⟨x43, hx44, h45⟩ := ob h35
    refine wq_indexAddr (t := tInt) wn rfl Tryz.underlying37 tf3 rfl rfl (SliceAt.mono hl24 hs8) hx44 ?_
    intro b46 o47 u48 hu49 ha50
    obtain ⟨rfl, hr51⟩ := hu49
    have ha52 : AtK _ b46 o47 [.int .i64 x43] := ha50
    refine wq_val wn rfl (rq_load1 tf3 rfl (ha52 0 _ rfl)) ?_
    refine wq_val wn rfl (fun _ _ => (rv_neq rfl rfl)) ?_
    refine wq_nil ?_
    rintro w54 ⟨K53, hS55, hl56⟩
    refine qe_seq ?_
    refine wc_cond rfl (fun hb57 => ?_) (fun hb57 => ?_)
    ·have h58 := cond_t hb57 h45
     refine sr ?_
     refine wl_val wn rfl (rv_assign (v := .bool false) rfl) ?_
     refine nq ?_
     refine wc_ret ?_
     refine qe_block_ret ?_
     refine qe_then_ret ?_
     refine qe_then_ret ?_
     obtain rfl := oi h58
     have e59 := hx30 _ rfl
     subst e59
     refine qe_block_ret ?_
     refine qe_then_ret ?_
     obtain rfl := oi h22
     refine qe_then_ret ?_
     obtain rfl := oi h13
     exact qe_ret (vs := [_]) Tryz.results136 ⟨rfl, trivial⟩ ⟨K53, rfl, hS55⟩
    ·have h58 := cond_f hb57 h45
     refine wc_skip ?_
     refine qe_block ?_
     refine qe_seq ?_
     refine wc_region ?_
     refine vm rfl rfl ?_
     refine wl_val wn rfl (rv_add rfl rfl) ?_
     refine va rfl rfl ?_
     refine wl_nil ?_
     obtain rfl := oi h58
     exact qe_mid' ⟨_, rfl, K53, rfl, hS55, (hl24.trans hl56), (w64_rng _)⟩ ⟨rfl, rfl, rfl, trivial⟩
   ·have h32 := cond_f hb31 h29
    refine wc_exit ?_
    refine qe_then_exit ?_
    refine qe_then_exit ?_
    obtain rfl := oi h32
    have e60 := hx30 _ rfl
    subst e60
    refine qe_block_eq ?_
    obtain rfl := oi h22
    exact qe_mid' ⟨_, K23, rfl, rfl, hS26, hl24⟩ trivial
  ·rintro _ w17 ⟨s14, K15, rfl, rfl, hS18, hl16⟩
   refine qr ?_
   refine wl_val wn rfl (rv_assign (v := .bool true) rfl) ?_
   refine nq ?_
   refine wc_ret ?_
   obtain rfl := oi h13
   exact qe_ret (vs := [_]) Tryz.results136 ⟨rfl, trivial⟩ ⟨K15, rfl, hS18⟩

theorem ok_laws_eqPost (F : Nat) {w : World} {K : KMap} {a2 : Option Addr} {n3 c4 : Nat} {a7 : Option Addr} {n8 c9 : Nat} {p0_a : GPost} {p1_b : GPost} {r : Bool} (hS : SH w K [] w K []) (hr1 : rng64 p0_a.Doc) (hs5 : SliceAt tInt K a2 n3 c4 p0_a.At) (hr6 : rng64 p1_b.Doc) (hs10 : SliceAt tInt K a7 n8 c9 p1_b.At) (hm : M.laws_eqPost F p0_a p1_b = some r) :
  Calls Tryz.prog 91 #[.agg #[.int .i64 p0_a.Doc, .slice a2 n3 c4], .agg #[.int .i64 p1_b.Doc, .slice a7 n8 c9]] w fun e w' => ∃ (K' : KMap), e = .returned (.bool r) ∧ SH w K [] w' K' [] := by
 rw [M.laws_eqPost] at hm
 refine calls_in Tryz.func91 rfl Tryz.ntmps91 rfl ?_
 refine sr ?_
 refine wl_box wn rfl rfl hS ?_
 intro g11 w12 hS13
 have hS14 : SH _ _ _ _ _ [obj g11 [.int .i64 p0_a.Doc, .slice a2 n3 c4] 48] := hS13
 refine wl_box wn rfl rfl hS14 ?_
 intro g15 w16 hS17
 have hS18 : SH _ _ _ _ _ [obj g15 [.int .i64 p1_b.Doc, .slice a7 n8 c9] 48, _] := hS17
 refine wl_val wn rfl (rv_assign (v := .bool false) rfl) ?_
 refine nsr ?_
 refine wl_val wn rfl (rv_fieldAddr ff48_0 rfl) ?_
 refine wl_val wn rfl (rv_loadm1 tf3 rfl (.tail _ (.head _)) hS18 rfl) ?_
 refine wl_val wn rfl (rv_fieldAddr ff48_0 rfl) ?_
 refine wl_val wn rfl (rv_loadm1 tf3 rfl (.head _) hS18 rfl) ?_
 refine wl_val wn rfl (rv_neq rfl rfl) ?_
 refine nq ?_
 refine wc_cond rfl (fun hb19 => ?_) (fun hb19 => ?_)
 ·have h20 := cond_t hb19 hm
  refine sr ?_
  refine wl_val wn rfl (rv_assign (v := .bool false) rfl) ?_
  refine nq ?_
  refine rr ?_
  obtain rfl := oi h20
  have hS21 : SH _ _ _ _ _ [] := SH.sublist hS18 (.cons _ (.cons _ .slnil))
  exact qe_ret (vs := [_]) Tryz.results91 ⟨rfl, trivial⟩ ⟨K, rfl, hS21⟩
 ·have h20 := cond_f hb19 hm
  refine wc_skip ?_
  refine qs ?_
  refine sr ?_
  refine wl_val wn rfl (rv_fieldAddr ff48_1 rfl) ?_
  refine wl_val wn rfl (rv_loadm1 tf37 rfl (.tail _ (.head _)) hS18 rfl) ?_
  refine wl_val wn rfl (rv_fieldAddr ff48_1 rfl) ?_
  refine wl_val wn rfl (rv_loadm1 tf37 rfl (.head _) hS18 rfl) ?_
  obtain ⟨r22, hx23, h24⟩ := ob h20
  refine wl_call wn rfl (rt_call (vs := [.slice a2 n3 c4, .slice a7 n8 c9]) co136 rfl) ((ok_laws_eqIntS F) hS18.enter0 hs5 hs10 hx23) ?_
  rintro e28 w26 ⟨K25, rfl, hS27⟩
  refine ⟨_, rfl, ?_⟩
  have hS29 : SH _ _ _ _ _ [_, _] := SH.call0 hS18 hS27
  refine wl_val wn rfl (rv_not rfl) ?_
  refine nq ?_
  refine wc_cond rfl (fun hb30 => ?_) (fun hb30 => ?_)
  ·have h31 := cond_t hb30 h24
   refine sr ?_
   refine wl_val wn rfl (rv_assign (v := .bool false) rfl) ?_
   refine nq ?_
   refine rr ?_
   obtain rfl := oi h31
   have hS32 : SH _ _ _ _ _ [] := SH.sublist hS29 (.cons _ (.cons _ .slnil))
   exact qe_ret (vs := [_]) Tryz.results91 ⟨rfl, trivial⟩ ⟨K25, rfl, hS32⟩
  ·have h31 := cond_f hb30 h24
   refine wc_skip ?_
   refine qr ?_
   refine wl_val wn rfl (rv_assign (v := .bool true) rfl) ?_
   refine nq ?_
   refine wc_ret ?_
   obtain rfl := oi h31
   have hS33 : SH _ _ _ _ _ [] := SH.sublist hS29 (.cons _ (.cons _ .slnil))
   exact qe_ret (vs := [_]) Tryz.results91 ⟨rfl, trivial⟩ ⟨K25, rfl, hS33⟩
end Go.Proofs.YtdcmmhjhffcnhaaGreat
