/-
  Walks of the functions. Printed by gen.py.
-/
import Derived.Test.YtdopcpaapniioaaWalkA2
set_option linter.unusedVariables false
set_option maxRecDepth 100000
namespace Go.Proofs.Ytdopcpaapniioaa
open Go Go.Fk Go.RowKit

theorem ok_spec_l30Rd_of (F : Nat) {w : World} {K : KMap} {g1 : Nat} {a2 : Option Addr} {n3 c4 : Nat} {a7 : Option Addr} {n8 c9 : Nat} {p0_r : GL30Rd} {p1_list : List Str} {r : Str × GL30Rd} (hS : SH w K (List.filterMap Item.g [obj g1 [.slice a2 n3 c4, .int .i64 p0_r.p_] 90]) w K [obj g1 [.slice a2 n3 c4, .int .i64 p0_r.p_] 90]) (hs5 : SliceAt tU8 K a2 n3 c4 p0_r.b_) (hr6 : rng64 p0_r.p_) (hs10 : SliceAt tStr K a7 n8 c9 p1_list) (hm : M.spec_l30Rd_of F p0_r p1_list = some r) :
    Calls Try.prog 49 #[.pointer (some ⟨g1, 0, none⟩), .slice a7 n8 c9] w fun e w' => ∃ (a_2 : Option Addr) (n_3 c_4 : Nat) (K' : KMap), e = .returned (sv r.1) ∧ SH w K (List.filterMap Item.g [obj g1 [.slice a2 n3 c4, .int .i64 p0_r.p_] 90]) w' K' [obj g1 [.slice a_2 n_3 c_4, .int .i64 r.2.p_] 90] ∧ r.1.length ≤ maxLen ∧ SliceAt tU8 K' a_2 n_3 c_4 r.2.b_ ∧ rng64 r.2.p_ := by
  rw [M.spec_l30Rd_of] at hm
  refine calls_in Try.func49 rfl Try.ntmps49 rfl ?_
  refine wc_seq ?_
  refine wc_region ?_
  refine wl_val wn rfl (rv_assign (v := sv []) rfl) ?_
  refine wl_nil ?_
  refine qe_seq ?_
  refine wc_seq ?_
  refine wc_region ?_
  refine wl_val wn rfl (rv_move rfl) ?_
  refine wl_val wn rfl (rv_move rfl) ?_
  refine wl_val wn rfl (rv_move rfl) ?_
  refine wl_val wn rfl (rv_len (t := tStr) Try.underlying26 rfl hs10) ?_
  obtain ⟨r11, hx12, h13⟩ := Option.bind_eq_some_iff.1 hm
  refine wl_call wn rfl (rt_call (vs := [.pointer (some ⟨g1, 0, none⟩), .int .i64 (p1_list.length : Int)]) co61 rfl) ((ok_spec_l30Rd_pick F) (SH.enter (Lin := [_]) hS) hs5 hr6 (rng_nat (SliceAt.max hs10)) hx12) ?_
  rintro e23 w15 ⟨a18, n19, c20, K14, rfl, hS16, hr17, hs21, hr22⟩
  refine ⟨_, rfl, ?_⟩
  have hS24 : SH _ _ _ _ _ [_] := SH.call (Lin := [_]) hS hS16
  obtain ⟨x25, hx26, h27⟩ := Option.bind_eq_some_iff.1 h13
  refine wl_indexAddr (t := tStr) wn rfl Try.underlying26 tf9 rfl rfl (SliceAt.mono hS16.le hs10) hx26 ?_
  intro b28 o29 u30 hu31 ha32
  obtain ⟨rfl, hl33⟩ := hu31
  have ha34 : AtK _ b28 o29 [sv x25] := ha32
  refine wl_val wn rfl (rv_load1 tf9 rfl hS24 (ha34 0 _ rfl)) ?_
  refine wl_val wn rfl (rv_assign rfl) ?_
  refine wl_nil ?_
  refine qe_seq ?_
  refine wc_ret ?_
  obtain rfl := Option.some.inj h27
  exact qe_ret (vs := [_]) Try.results49 ⟨rfl, trivial⟩ ⟨a18, n19, c20, K14, rfl, hS24, hl33, hs21, hr22⟩

set_option maxHeartbeats 2000000 in
theorem ok_spec_l7Put (F : Nat) {w : World} {K : KMap} {a1 : Option Addr} {n2 c3 : Nat} {p0_list : List Str} {p1_s : Str} {r : (List Str)} (hS : SH w K (List.filterMap Item.g [tail (.slice a1 n2 c3) 9 1]) w K [tail (.slice a1 n2 c3) 9 1]) (hs4 : SliceAt tStr K a1 n2 c3 p0_list) (hl5 : p1_s.length ≤ maxLen) (hm : M.spec_l7Put F p0_list p1_s = some r) :
    Calls Try.prog 89 #[.slice a1 n2 c3, sv p1_s] w fun e w' => ∃ (a_1 : Option Addr) (n_2 c_3 : Nat) (K' : KMap), e = .returned (.slice a_1 n_2 c_3) ∧ SH w K (List.filterMap Item.g [tail (.slice a1 n2 c3) 9 1]) w' K' [tail (.slice a_1 n_2 c_3) 9 1] ∧ SliceAt tStr K' a_1 n_2 c_3 r := by
  rw [M.spec_l7Put] at hm
  refine calls_in Try.func89 rfl Try.ntmps89 rfl ?_
  refine wc_seq ?_
  refine wc_region ?_
  refine wl_val wn rfl (rv_assign (v := .slice none 0 0) rfl) ?_
  refine wl_nil ?_
  refine qe_seq ?_
  refine wc_seq ?_
  refine wc_region ?_
  refine wl_val wn rfl (rv_assign (v := .int .i64 0) rfl) ?_
  refine wl_nil ?_
  refine qe_seq ?_
  refine wc_seq ?_
  obtain ⟨o6, h7, h8⟩ := Option.bind_eq_some_iff.1 hm
  refine wc_cutg (fun E' w' => ∃ (K9 : KMap), E' = [(0, .slice a1 n2 c3), (1, sv p1_s), (5, .int .i64 o6)] ∧ SH w K (List.filterMap Item.g [tail (.slice a1 n2 c3) 9 1]) w' K9 [tail (.slice a1 n2 c3) 9 1] ∧ KLe K K9 ∧ rng64 o6) ?_ ?_
  · refine wc_block ?_
    obtain ⟨r15, h16, h17⟩ := Option.bind_eq_some_iff.1 h7
    refine wc_while' (fun (s14 : Int) E' w' => ∃ (K18 : KMap), E' = [(0, .slice a1 n2 c3), (1, sv p1_s), (5, .int .i64 s14)] ∧ SH w K (List.filterMap Item.g [tail (.slice a1 n2 c3) 9 1]) w' K18 [tail (.slice a1 n2 c3) 9 1] ∧ KLe K K18 ∧ rng64 s14) h16 ⟨K, rfl, hS, (KLe.refl _), (by decide : rng64 0)⟩ ⟨rfl, rfl, rfl, trivial⟩ ?_
    rintro s14 _ w20 r23 h24 hx25 ⟨K18, rfl, hS21, hl19, hr22⟩
    refine wc_seq ?_
    refine wc_seq ?_
    obtain ⟨o26, h27, h28⟩ := Option.bind_eq_some_iff.1 h24
    refine wc_cutg (fun E' w' => ∃ (K29 : KMap), E' = [(0, .slice a1 n2 c3), (1, sv p1_s), (5, .int .i64 s14), (18, .bool o26)] ∧ SH w K (List.filterMap Item.g [tail (.slice a1 n2 c3) 9 1]) w' K29 [tail (.slice a1 n2 c3) 9 1] ∧ KLe K18 K29) ?_ ?_
    · refine wc_region ?_
      refine wl_val wn rfl (rv_move rfl) ?_
      refine wl_val wn rfl (rv_move rfl) ?_
      refine wl_val wn rfl (rv_len (t := tStr) Try.underlying26 rfl (SliceAt.mono hl19 hs4)) ?_
      refine wl_val wn rfl (rv_lss rfl rfl) ?_
      refine wl_val wn rfl (rv_move rfl) ?_
      rcases bool_tf (decide (s14 < (p0_list.length : Int))) with hb33 | hb33
      · have h34 := cond_t hb33 h27
        refine wl_val (wg rfl rfl hb33) rfl (rv_move rfl) ?_
        refine wl_val (wg rfl rfl hb33) rfl (rv_move rfl) ?_
        obtain ⟨x35, hx36, h37⟩ := Option.bind_eq_some_iff.1 h34
        refine wl_indexAddr (t := tStr) (wg rfl rfl hb33) rfl Try.underlying26 tf9 rfl rfl (SliceAt.mono hl19 hs4) hx36 ?_
        intro b38 o39 u40 hu41 ha42
        obtain ⟨rfl, hl43⟩ := hu41
        have ha44 : AtK _ b38 o39 [sv x35] := ha42
        refine wl_val (wg rfl rfl hb33) rfl (rv_load1 tf9 rfl hS21 (ha44 0 _ rfl)) ?_
        refine wl_val (wg rfl rfl hb33) rfl (rv_move rfl) ?_
        refine wl_val (wg rfl rfl hb33) rfl (rv_slss rfl rfl) ?_
        refine wl_val wn rfl (rv_pick_t rfl hb33 rfl) ?_
        refine wl_nil ?_
        obtain rfl := Option.some.inj h37
        exact qe_mid' ⟨K18, rfl, hS21, (KLe.refl _)⟩ ⟨rfl, rfl, rfl, rfl, trivial⟩
      · have h34 := cond_f hb33 h27
        refine wl_un (ug rfl rfl hb33) rfl ?_
        refine wl_un (ug rfl rfl hb33) rfl ?_
        refine wl_un (ug rfl rfl hb33) rfl ?_
        refine wl_un (ug rfl rfl hb33) rfl ?_
        refine wl_un (ug rfl rfl hb33) rfl ?_
        refine wl_un (ug rfl rfl hb33) rfl ?_
        refine wl_val wn rfl (rv_pick_f (v := .bool false) rfl hb33 rfl) ?_
        refine wl_nil ?_
        obtain rfl := Option.some.inj h34
        exact qe_mid' ⟨K18, rfl, hS21, (KLe.refl _)⟩ ⟨rfl, rfl, rfl, rfl, trivial⟩
    · rintro _ w31 ⟨K29, rfl, hS32, hl30⟩
      refine qe_seq ?_
      refine wc_cond rfl (fun hb45 => ?_) (fun hb45 => ?_)
      · have h46 := cond_t hb45 h28
        refine wc_skip ?_
        refine qe_seq ?_
        refine wc_block ?_
        refine wc_region ?_
        refine wl_val wn rfl (rv_move rfl) ?_
        refine wl_val wn rfl (rv_add rfl rfl) ?_
        refine wl_val wn rfl (rv_assign rfl) ?_
        refine wl_nil ?_
        refine qe_block ?_
        obtain rfl := Option.some.inj h46
        exact qe_mid' ⟨_, rfl, K29, rfl, hS32, (hl19.trans hl30), (w64_rng _)⟩ ⟨rfl, rfl, rfl, trivial⟩
      · have h46 := cond_f hb45 h28
        refine wc_exit ?_
        refine qe_then_exit ?_
        refine qe_then_exit ?_
        obtain rfl := Option.some.inj h46
        have e47 := hx25 _ rfl
        subst e47
        refine qe_block_eq ?_
        obtain rfl := Option.some.inj h17
        exact qe_mid' ⟨K29, rfl, hS32, (hl19.trans hl30), hr22⟩ ⟨rfl, rfl, rfl, trivial⟩
  · rintro _ w11 ⟨K9, rfl, hS12, hl10, hr13⟩
    refine qe_seq ?_
    refine wc_seq ?_
    refine wc_seq ?_
    obtain ⟨o48, h49, h50⟩ := Option.bind_eq_some_iff.1 h8
    refine wc_cutg (fun E' w' => ∃ (K51 : KMap), E' = [(0, .slice a1 n2 c3), (1, sv p1_s), (5, .int .i64 o6), (32, .bool o48)] ∧ SH w K (List.filterMap Item.g [tail (.slice a1 n2 c3) 9 1]) w' K51 [tail (.slice a1 n2 c3) 9 1] ∧ KLe K9 K51) ?_ ?_
    · refine wc_region ?_
      refine wl_val wn rfl (rv_move rfl) ?_
      refine wl_val wn rfl (rv_move rfl) ?_
      refine wl_val wn rfl (rv_len (t := tStr) Try.underlying26 rfl (SliceAt.mono hl10 hs4)) ?_
      refine wl_val wn rfl (rv_lss rfl rfl) ?_
      refine wl_val wn rfl (rv_move rfl) ?_
      rcases bool_tf (decide (o6 < (p0_list.length : Int))) with hb55 | hb55
      · have h56 := cond_t hb55 h49
        refine wl_val (wg rfl rfl hb55) rfl (rv_move rfl) ?_
        refine wl_val (wg rfl rfl hb55) rfl (rv_move rfl) ?_
        obtain ⟨x57, hx58, h59⟩ := Option.bind_eq_some_iff.1 h56
        refine wl_indexAddr (t := tStr) (wg rfl rfl hb55) rfl Try.underlying26 tf9 rfl rfl (SliceAt.mono hl10 hs4) hx58 ?_
        intro b60 o61 u62 hu63 ha64
        obtain ⟨rfl, hl65⟩ := hu63
        have ha66 : AtK _ b60 o61 [sv x57] := ha64
        refine wl_val (wg rfl rfl hb55) rfl (rv_load1 tf9 rfl hS12 (ha66 0 _ rfl)) ?_
        refine wl_val (wg rfl rfl hb55) rfl (rv_move rfl) ?_
        refine wl_val (wg rfl rfl hb55) rfl (rv_seql rfl rfl) ?_
        refine wl_val wn rfl (rv_pick_t rfl hb55 rfl) ?_
        refine wl_nil ?_
        obtain rfl := Option.some.inj h59
        exact qe_mid' ⟨K9, rfl, hS12, (KLe.refl _)⟩ ⟨rfl, rfl, rfl, rfl, trivial⟩
      · have h56 := cond_f hb55 h49
        refine wl_un (ug rfl rfl hb55) rfl ?_
        refine wl_un (ug rfl rfl hb55) rfl ?_
        refine wl_un (ug rfl rfl hb55) rfl ?_
        refine wl_un (ug rfl rfl hb55) rfl ?_
        refine wl_un (ug rfl rfl hb55) rfl ?_
        refine wl_un (ug rfl rfl hb55) rfl ?_
        refine wl_val wn rfl (rv_pick_f (v := .bool false) rfl hb55 rfl) ?_
        refine wl_nil ?_
        obtain rfl := Option.some.inj h56
        exact qe_mid' ⟨K9, rfl, hS12, (KLe.refl _)⟩ ⟨rfl, rfl, rfl, rfl, trivial⟩
    · rintro _ w53 ⟨K51, rfl, hS54, hl52⟩
      refine qe_seq ?_
      refine wc_cond rfl (fun hb67 => ?_) (fun hb67 => ?_)
      · have h68 := cond_t hb67 h50
        refine wc_seq ?_
        refine wc_region ?_
        refine wl_val wn rfl (rv_move rfl) ?_
        refine wl_val wn rfl (rv_assign rfl) ?_
        refine wl_nil ?_
        refine qe_seq ?_
        refine wc_ret ?_
        refine qe_then_ret ?_
        obtain rfl := Option.some.inj h68
        exact qe_ret (vs := [_]) Try.results89 ⟨rfl, trivial⟩ ⟨a1, n2, c3, K51, rfl, hS54, (SliceAt.mono (hl10.trans hl52) hs4)⟩
      · have h68 := cond_f hb67 h50
        refine wc_skip ?_
        refine qe_seq ?_
        refine wc_seq ?_
        refine wc_region ?_
        refine wl_buildSlice0 tStr wn rfl Try.underlying26 tf9 hS54 ?_
        intro a69 w70 K71 hl72 hs73 hS74
        refine wl_val wn rfl (rv_move rfl) ?_
        refine wl_val wn rfl (rv_move rfl) ?_
        obtain ⟨x75, hx76, h77⟩ := Option.bind_eq_some_iff.1 h68
        refine wl_sl_h (t := tStr) wn rfl Try.underlying26 tf9 rfl rfl (SliceAt.mono ((hl10.trans hl52).trans hl72) hs4) hx76 ?_
        intro a78 n79 c80 hs81
        obtain ⟨x82, hx83, h84⟩ := Option.bind_eq_some_iff.1 h77
        refine wl_append (t := tStr) wn rfl Try.underlying26 tf9 rfl rfl rfl rfl rfl hs73 hs81 hx83 hS74 ?_
        intro a85 n86 c87 w88 K89 hl90 hs91 hS92
        refine wl_val wn rfl (rv_assign rfl) ?_
        refine wl_nil ?_
        refine qe_seq ?_
        refine wc_seq ?_
        refine wc_region ?_
        refine wl_val wn rfl (rv_move rfl) ?_
        refine wl_val wn rfl (rv_move rfl) ?_
        refine wl_buildSlice (t := tStr) (n := 1) (pv := [(0, sv p1_s)]) (cs := [sv p1_s]) (xs := [p1_s]) wn rfl Try.underlying26 tf9 rfl rfl rfl (by kernel_rfl) rfl rfl (lit_cons (u := sv p1_s) (z := p1_s) ⟨rfl, hl5⟩ lit_nil) hS92 ?_
        intro a93 w94 K95 hl96 hs97 hS98
        have hS99 : SH _ _ _ _ _ [_, _, _] := SH.front (p := [_]) hS98
        obtain ⟨x100, hx101, h102⟩ := Option.bind_eq_some_iff.1 h84
        refine wl_append (t := tStr) wn rfl Try.underlying26 tf9 rfl rfl rfl rfl rfl (SliceAt.mono hl96 hs91) hs97 hx101 hS99 ?_
        intro a103 n104 c105 w106 K107 hl108 hs109 hS110
        refine wl_val wn rfl (rv_assign rfl) ?_
        refine wl_nil ?_
        refine qe_seq ?_
        refine wc_seq ?_
        refine wc_region ?_
        refine wl_val wn rfl (rv_move rfl) ?_
        refine wl_val wn rfl (rv_move rfl) ?_
        refine wl_val wn rfl (rv_move rfl) ?_
        obtain ⟨x111, hx112, h113⟩ := Option.bind_eq_some_iff.1 h102
        refine wl_sl_l (t := tStr) wn rfl Try.underlying26 tf9 rfl rfl (SliceAt.mono (((((hl10.trans hl52).trans hl72).trans hl90).trans hl96).trans hl108) hs4) hx112 ?_
        intro a114 n115 c116 hs117
        obtain ⟨x118, hx119, h120⟩ := Option.bind_eq_some_iff.1 h113
        refine wl_append (t := tStr) wn rfl Try.underlying26 tf9 rfl rfl rfl rfl rfl hs109 hs117 hx119 hS110 ?_
        intro a121 n122 c123 w124 K125 hl126 hs127 hS128
        refine wl_val wn rfl (rv_assign rfl) ?_
        refine wl_nil ?_
        refine qe_seq ?_
        refine wc_ret ?_
        obtain rfl := Option.some.inj h120
        have hS129 : SH _ _ _ _ _ [_] := SH.sublist hS128 (.cons_cons _ (.cons _ (.cons _ .slnil)))
        exact qe_ret (vs := [_]) Try.results89 ⟨rfl, trivial⟩ ⟨a121, n122, c123, K125, rfl, hS129, hs127⟩

theorem ok_spec_l30Words (F : Nat) {w : World} {K : KMap} {g1 : Nat} {a2 : Option Addr} {n3 c4 : Nat} {p0_r : GL30Rd} {r : (List Str) × GL30Rd} (hS : SH w K (List.filterMap Item.g [obj g1 [.slice a2 n3 c4, .int .i64 p0_r.p_] 90]) w K [obj g1 [.slice a2 n3 c4, .int .i64 p0_r.p_] 90]) (hs5 : SliceAt tU8 K a2 n3 c4 p0_r.b_) (hr6 : rng64 p0_r.p_) (hm : M.spec_l30Words F p0_r = some r) :
    Calls Try.prog 75 #[.pointer (some ⟨g1, 0, none⟩)] w fun e w' => ∃ (a_1 : Option Addr) (n_2 c_3 : Nat) (a_5 : Option Addr) (n_6 c_7 : Nat) (K' : KMap), e = .returned (.slice a_1 n_2 c_3) ∧ SH w K (List.filterMap Item.g [obj g1 [.slice a2 n3 c4, .int .i64 p0_r.p_] 90]) w' K' [tail (.slice a_1 n_2 c_3) 9 1, obj g1 [.slice a_5 n_6 c_7, .int .i64 r.2.p_] 90] ∧ SliceAt tStr K' a_1 n_2 c_3 r.1 ∧ SliceAt tU8 K' a_5 n_6 c_7 r.2.b_ ∧ rng64 r.2.p_ := by
  rw [M.spec_l30Words] at hm
  refine calls_in Try.func75 rfl Try.ntmps75 rfl ?_
  refine wc_seq ?_
  refine wc_region ?_
  refine wl_val wn rfl (rv_assign (v := .slice none 0 0) rfl) ?_
  refine wl_nil ?_
  refine qe_seq ?_
  refine wc_seq ?_
  refine wc_region ?_
  refine wl_buildSlice0 tStr wn rfl Try.underlying26 tf9 hS ?_
  intro a7 w8 K9 hl10 hs11 hS12
  refine wl_val wn rfl (rv_assign rfl) ?_
  refine wl_nil ?_
  refine qe_seq ?_
  refine wc_seq ?_
  refine wc_seq ?_
  refine wc_region ?_
  refine wl_val wn rfl (rv_move rfl) ?_
  obtain ⟨r13, hx14, h15⟩ := Option.bind_eq_some_iff.1 hm
  have hS16 : SH _ _ _ _ _ [_, _] := SH.front (p := [_]) hS12
  refine wl_call wn rfl (rt_call (vs := [.pointer (some ⟨g1, 0, none⟩), .int .i64 9]) co61 rfl) ((ok_spec_l30Rd_pick F) (SH.enter (Lin := [_]) hS16) (SliceAt.mono hl10 hs5) hr6 (by decide : rng64 9) hx14) ?_
  rintro e26 w18 ⟨a21, n22, c23, K17, rfl, hS19, hr20, hs24, hr25⟩
  refine ⟨_, rfl, ?_⟩
  have hS27 : SH _ _ _ _ _ [_, _] := SH.call (Lin := [_]) hS16 hS19
  refine wl_val wn rfl (rv_assign rfl) ?_
  refine wl_nil ?_
  refine qe_seq ?_
  obtain ⟨o28, h29, h30⟩ := Option.bind_eq_some_iff.1 h15
  refine wc_cutg (fun E' w' => ∃ (a35 : Option Addr) (n36 c37 : Nat) (a39 : Option Addr) (n40 c41 : Nat) (K31 : KMap), E' = [(0, .pointer (some ⟨g1, 0, none⟩)), (3, .slice a35 n36 c37)] ∧ SH w K (List.filterMap Item.g [obj g1 [.slice a2 n3 c4, .int .i64 p0_r.p_] 90]) w' K31 [obj g1 [.slice a39 n40 c41, .int .i64 o28.2.p_] 90, tail (.slice a35 n36 c37) 9 1] ∧ KLe K17 K31 ∧ SliceAt tStr K31 a35 n36 c37 o28.1 ∧ SliceAt tU8 K31 a39 n40 c41 o28.2.b_ ∧ rng64 o28.2.p_) ?_ ?_
  · refine wc_block ?_
    obtain ⟨r45, h46, h47⟩ := Option.bind_eq_some_iff.1 h29
    refine wc_while' (fun (s44 : (List Str) × Int × GL30Rd) E' w' => ∃ (a52 : Option Addr) (n53 c54 : Nat) (a57 : Option Addr) (n58 c59 : Nat) (K48 : KMap), E' = [(0, .pointer (some ⟨g1, 0, none⟩)), (3, .slice a52 n53 c54), (4, .int .i64 s44.2.1)] ∧ SH w K (List.filterMap Item.g [obj g1 [.slice a2 n3 c4, .int .i64 p0_r.p_] 90]) w' K48 [obj g1 [.slice a57 n58 c59, .int .i64 s44.2.2.p_] 90, tail (.slice a52 n53 c54) 9 1] ∧ KLe K17 K48 ∧ SliceAt tStr K48 a52 n53 c54 s44.1 ∧ rng64 s44.2.1 ∧ SliceAt tU8 K48 a57 n58 c59 s44.2.2.b_ ∧ rng64 s44.2.2.p_) h46 ⟨a7, 0, 0, a21, n22, c23, K17, rfl, hS27, (KLe.refl _), (SliceAt.mono hS19.le hs11), hr20, hs24, hr25⟩ ⟨rfl, rfl, rfl, trivial⟩ ?_
    rintro s44 _ w50 r62 h63 hx64 ⟨a52, n53, c54, a57, n58, c59, K48, rfl, hS51, hl49, hs55, hr56, hs60, hr61⟩
    refine wc_seq ?_
    refine wc_seq ?_
    refine wc_region ?_
    refine wl_val wn rfl (rv_move rfl) ?_
    refine wl_val wn rfl (rv_gtr rfl rfl) ?_
    refine wl_nil ?_
    refine qe_seq ?_
    refine wc_cond rfl (fun hb65 => ?_) (fun hb65 => ?_)
    · have h66 := cond_t hb65 h63
      refine wc_skip ?_
      refine qe_seq ?_
      refine wc_seq ?_
      refine wc_block ?_
      refine wc_region ?_
      refine wl_val wn rfl (rv_move rfl) ?_
      refine wl_val wn rfl (rv_move rfl) ?_
      refine wl_buildSlice (t := tStr) (n := 13) (pv := [(0, sv [97]), (1, sv [99, 97, 116]), (2, sv [99, 97, 116, 115]), (3, sv [99, 97, 114]), (4, sv [99, 97, 114, 115]), (5, sv [100, 111, 103]), (6, sv [100, 111, 103, 115]), (7, sv [100, 111]), (8, sv [116, 97, 112]), (9, sv [116, 97, 112, 115]), (10, sv [116, 111, 112]), (11, sv [116, 111, 112, 115]), (12, sv [114, 117, 110])]) (cs := [sv [97], sv [99, 97, 116], sv [99, 97, 116, 115], sv [99, 97, 114], sv [99, 97, 114, 115], sv [100, 111, 103], sv [100, 111, 103, 115], sv [100, 111], sv [116, 97, 112], sv [116, 97, 112, 115], sv [116, 111, 112], sv [116, 111, 112, 115], sv [114, 117, 110]]) (xs := [([97] : Str), ([99, 97, 116] : Str), ([99, 97, 116, 115] : Str), ([99, 97, 114] : Str), ([99, 97, 114, 115] : Str), ([100, 111, 103] : Str), ([100, 111, 103, 115] : Str), ([100, 111] : Str), ([116, 97, 112] : Str), ([116, 97, 112, 115] : Str), ([116, 111, 112] : Str), ([116, 111, 112, 115] : Str), ([114, 117, 110] : Str)]) wn rfl Try.underlying26 tf9 rfl rfl rfl (by kernel_rfl) rfl rfl (lit_cons (u := sv [97]) (z := ([97] : Str)) ⟨rfl, (by decide : ([97] : Str).length ≤ maxLen)⟩ (lit_cons (u := sv [99, 97, 116]) (z := ([99, 97, 116] : Str)) ⟨rfl, (by decide : ([99, 97, 116] : Str).length ≤ maxLen)⟩ (lit_cons (u := sv [99, 97, 116, 115]) (z := ([99, 97, 116, 115] : Str)) ⟨rfl, (by decide : ([99, 97, 116, 115] : Str).length ≤ maxLen)⟩ (lit_cons (u := sv [99, 97, 114]) (z := ([99, 97, 114] : Str)) ⟨rfl, (by decide : ([99, 97, 114] : Str).length ≤ maxLen)⟩ (lit_cons (u := sv [99, 97, 114, 115]) (z := ([99, 97, 114, 115] : Str)) ⟨rfl, (by decide : ([99, 97, 114, 115] : Str).length ≤ maxLen)⟩ (lit_cons (u := sv [100, 111, 103]) (z := ([100, 111, 103] : Str)) ⟨rfl, (by decide : ([100, 111, 103] : Str).length ≤ maxLen)⟩ (lit_cons (u := sv [100, 111, 103, 115]) (z := ([100, 111, 103, 115] : Str)) ⟨rfl, (by decide : ([100, 111, 103, 115] : Str).length ≤ maxLen)⟩ (lit_cons (u := sv [100, 111]) (z := ([100, 111] : Str)) ⟨rfl, (by decide : ([100, 111] : Str).length ≤ maxLen)⟩ (lit_cons (u := sv [116, 97, 112]) (z := ([116, 97, 112] : Str)) ⟨rfl, (by decide : ([116, 97, 112] : Str).length ≤ maxLen)⟩ (lit_cons (u := sv [116, 97, 112, 115]) (z := ([116, 97, 112, 115] : Str)) ⟨rfl, (by decide : ([116, 97, 112, 115] : Str).length ≤ maxLen)⟩ (lit_cons (u := sv [116, 111, 112]) (z := ([116, 111, 112] : Str)) ⟨rfl, (by decide : ([116, 111, 112] : Str).length ≤ maxLen)⟩ (lit_cons (u := sv [116, 111, 112, 115]) (z := ([116, 111, 112, 115] : Str)) ⟨rfl, (by decide : ([116, 111, 112, 115] : Str).length ≤ maxLen)⟩ (lit_cons (u := sv [114, 117, 110]) (z := ([114, 117, 110] : Str)) ⟨rfl, (by decide : ([114, 117, 110] : Str).length ≤ maxLen)⟩ lit_nil))))))))))))) hS51 ?_
      intro a67 w68 K69 hl70 hs71 hS72
      obtain ⟨r73, hx74, h75⟩ := Option.bind_eq_some_iff.1 h66
      have hS76 : SH _ _ _ _ _ [_, _, _] := SH.front (p := [_]) hS72
      refine wl_call wn rfl (rt_call (vs := [.pointer (some ⟨g1, 0, none⟩), .slice a67 13 13]) co49 rfl) ((ok_spec_l30Rd_of F) (SH.enter (Lin := [_]) hS76) (SliceAt.mono hl70 hs60) hr61 hs71 hx74) ?_
      rintro e86 w78 ⟨a81, n82, c83, K77, rfl, hS79, hl80, hs84, hr85⟩
      refine ⟨_, rfl, ?_⟩
      have hS87 : SH _ _ _ _ _ [_, _, _] := SH.call (Lin := [_]) hS76 hS79
      obtain ⟨r88, hx89, h90⟩ := Option.bind_eq_some_iff.1 h75
      have hS91 : SH _ _ _ _ _ [_, _, _] := SH.front (p := [_, _]) hS87
      refine wl_call wn rfl (rt_call (vs := [.slice a52 n53 c54, sv r73.1]) co89 rfl) ((ok_spec_l7Put F) (SH.enter (Lin := [_]) hS91) (SliceAt.mono (hl70.trans hS79.le) hs55) hl80 hx89) ?_
      rintro e99 w93 ⟨a95, n96, c97, K92, rfl, hS94, hs98⟩
      refine ⟨_, rfl, ?_⟩
      have hS100 : SH _ _ _ _ _ [_, _, _] := SH.call (Lin := [_]) hS91 hS94
      refine wl_val wn rfl (rv_assign rfl) ?_
      refine wl_nil ?_
      refine qe_block ?_
      refine qe_seq ?_
      refine wc_region ?_
      refine wl_val wn rfl (rv_move rfl) ?_
      refine wl_val wn rfl (rv_sub rfl rfl) ?_
      refine wl_val wn rfl (rv_assign rfl) ?_
      refine wl_nil ?_
      obtain rfl := Option.some.inj h90
      have hS101 : SH _ _ _ _ _ [_, _, _] := SH.front (p := [_]) hS100
      have hS102 : SH _ _ _ _ _ [_, _] := SH.sublist hS101 (.cons_cons _ (.cons_cons _ (.cons _ .slnil)))
      exact qe_mid' ⟨_, rfl, a95, n96, c97, a81, n82, c83, K92, rfl, hS102, (((hl49.trans hl70).trans hS79.le).trans hS94.le), hs98, (w64_rng _), (SliceAt.mono hS94.le hs84), hr85⟩ ⟨rfl, rfl, rfl, trivial⟩
    · have h66 := cond_f hb65 h63
      refine wc_exit ?_
      refine qe_then_exit ?_
      refine qe_then_exit ?_
      obtain rfl := Option.some.inj h66
      have e103 := hx64 _ rfl
      subst e103
      refine qe_block_eq ?_
      obtain rfl := Option.some.inj h47
      exact qe_mid' ⟨a52, n53, c54, a57, n58, c59, K48, rfl, hS51, hl49, hs55, hs60, hr61⟩ ⟨rfl, rfl, trivial⟩
  · rintro _ w33 ⟨a35, n36, c37, a39, n40, c41, K31, rfl, hS34, hl32, hs38, hs42, hr43⟩
    refine qe_seq ?_
    refine wc_seq ?_
    refine wc_region ?_
    refine wl_val wn rfl (rv_move rfl) ?_
    refine wl_val wn rfl (rv_assign rfl) ?_
    refine wl_nil ?_
    refine qe_seq ?_
    refine wc_ret ?_
    obtain rfl := Option.some.inj h30
    have hS104 : SH _ _ _ _ _ [_, _] := SH.front (p := [_]) hS34
    exact qe_ret (vs := [_]) Try.results75 ⟨rfl, trivial⟩ ⟨a35, n36, c37, a39, n40, c41, K31, rfl, hS104, hs38, hs42, hr43⟩

theorem ok_spec_l30Rd_one (F : Nat) {w : World} {K : KMap} {g1 : Nat} {a2 : Option Addr} {n3 c4 : Nat} {a7 : Option Addr} {n8 c9 : Nat} {p0_r : GL30Rd} {p1_list : List Int} {r : Int × GL30Rd} (hS : SH w K (List.filterMap Item.g [obj g1 [.slice a2 n3 c4, .int .i64 p0_r.p_] 90]) w K [obj g1 [.slice a2 n3 c4, .int .i64 p0_r.p_] 90]) (hs5 : SliceAt tU8 K a2 n3 c4 p0_r.b_) (hr6 : rng64 p0_r.p_) (hs10 : SliceAt tInt K a7 n8 c9 p1_list) (hm : M.spec_l30Rd_one F p0_r p1_list = some r) :
    Calls Try.prog 84 #[.pointer (some ⟨g1, 0, none⟩), .slice a7 n8 c9] w fun e w' => ∃ (a_2 : Option Addr) (n_3 c_4 : Nat) (K' : KMap), e = .returned (.int .i64 r.1) ∧ SH w K (List.filterMap Item.g [obj g1 [.slice a2 n3 c4, .int .i64 p0_r.p_] 90]) w' K' [obj g1 [.slice a_2 n_3 c_4, .int .i64 r.2.p_] 90] ∧ rng64 r.1 ∧ SliceAt tU8 K' a_2 n_3 c_4 r.2.b_ ∧ rng64 r.2.p_ := by
  rw [M.spec_l30Rd_one] at hm
  refine calls_in Try.func84 rfl Try.ntmps84 rfl ?_
  refine wc_seq ?_
  refine wc_region ?_
  refine wl_val wn rfl (rv_assign (v := .int .i64 0) rfl) ?_
  refine wl_nil ?_
  refine qe_seq ?_
  refine wc_seq ?_
  refine wc_region ?_
  refine wl_val wn rfl (rv_move rfl) ?_
  refine wl_val wn rfl (rv_move rfl) ?_
  refine wl_val wn rfl (rv_move rfl) ?_
  refine wl_val wn rfl (rv_len (t := tInt) Try.underlying100 rfl hs10) ?_
  obtain ⟨r11, hx12, h13⟩ := Option.bind_eq_some_iff.1 hm
  refine wl_call wn rfl (rt_call (vs := [.pointer (some ⟨g1, 0, none⟩), .int .i64 (p1_list.length : Int)]) co61 rfl) ((ok_spec_l30Rd_pick F) (SH.enter (Lin := [_]) hS) hs5 hr6 (rng_nat (SliceAt.max hs10)) hx12) ?_
  rintro e23 w15 ⟨a18, n19, c20, K14, rfl, hS16, hr17, hs21, hr22⟩
  refine ⟨_, rfl, ?_⟩
  have hS24 : SH _ _ _ _ _ [_] := SH.call (Lin := [_]) hS hS16
  obtain ⟨x25, hx26, h27⟩ := Option.bind_eq_some_iff.1 h13
  refine wl_indexAddr (t := tInt) wn rfl Try.underlying100 tf3 rfl rfl (SliceAt.mono hS16.le hs10) hx26 ?_
  intro b28 o29 u30 hu31 ha32
  obtain ⟨rfl, hr33⟩ := hu31
  have ha34 : AtK _ b28 o29 [.int .i64 x25] := ha32
  refine wl_val wn rfl (rv_load1 tf3 rfl hS24 (ha34 0 _ rfl)) ?_
  refine wl_val wn rfl (rv_assign rfl) ?_
  refine wl_nil ?_
  refine qe_seq ?_
  refine wc_ret ?_
  obtain rfl := Option.some.inj h27
  exact qe_ret (vs := [_]) Try.results84 ⟨rfl, trivial⟩ ⟨a18, n19, c20, K14, rfl, hS24, hr33, hs21, hr22⟩

set_option maxHeartbeats 2000000 in
theorem ok_spec_l30Dawg (F : Nat) {w : World} {K : KMap} {g1 : Nat} {a2 : Option Addr} {n3 c4 : Nat} {p0_r : GL30Rd} {r : (List GState) × GL30Rd} (hS : SH w K (List.filterMap Item.g [obj g1 [.slice a2 n3 c4, .int .i64 p0_r.p_] 90]) w K [obj g1 [.slice a2 n3 c4, .int .i64 p0_r.p_] 90]) (hs5 : SliceAt tU8 K a2 n3 c4 p0_r.b_) (hr6 : rng64 p0_r.p_) (hm : M.spec_l30Dawg F p0_r = some r) :
    Calls Try.prog 66 #[.pointer (some ⟨g1, 0, none⟩)] w fun e w' => ∃ (a_1 : Option Addr) (n_2 c_3 : Nat) (a_5 : Option Addr) (n_6 c_7 : Nat) (K' : KMap), e = .returned (.slice a_1 n_2 c_3) ∧ SH w K (List.filterMap Item.g [obj g1 [.slice a2 n3 c4, .int .i64 p0_r.p_] 90]) w' K' [tail (.slice a_1 n_2 c_3) 33 3, obj g1 [.slice a_5 n_6 c_7, .int .i64 r.2.p_] 90] ∧ SliceAt tGState K' a_1 n_2 c_3 r.1 ∧ SliceAt tU8 K' a_5 n_6 c_7 r.2.b_ ∧ rng64 r.2.p_ := by
  rw [M.spec_l30Dawg] at hm
  refine calls_in Try.func66 rfl Try.ntmps66 rfl ?_
  refine wc_seq ?_
  refine wc_region ?_
  refine wl_val wn rfl (rv_assign (v := .slice none 0 0) rfl) ?_
  refine wl_nil ?_
  refine qe_seq ?_
  refine wc_seq ?_
  refine wc_region ?_
  refine wl_val wn rfl (rv_move rfl) ?_
  obtain ⟨r7, hx8, h9⟩ := Option.bind_eq_some_iff.1 hm
  refine wl_call wn rfl (rt_call (vs := [.pointer (some ⟨g1, 0, none⟩)]) co75 rfl) ((ok_spec_l30Words F) (SH.enter (Lin := [_]) hS) hs5 hr6 hx8) ?_
  rintro e22 w11 ⟨a13, n14, c15, a17, n18, c19, K10, rfl, hS12, hs16, hs20, hr21⟩
  refine ⟨_, rfl, ?_⟩
  have hS23 : SH _ _ _ _ _ [_, _] := SH.call (Lin := [_]) hS hS12
  obtain ⟨r24, hx25, h26⟩ := Option.bind_eq_some_iff.1 h9
  refine wl_call wn rfl (rt_call (vs := [.slice a13 n14 c15]) co21 rfl) ((ok_spec_DawgOf F) hS23.enter0 hs16 hx25) ?_
  rintro e34 w28 ⟨a30, n31, c32, K27, rfl, hS29, hs33⟩
  refine ⟨_, rfl, ?_⟩
  have hS35 : SH _ _ _ _ _ [_, _, _] := SH.call0 hS23 hS29
  refine wl_val wn rfl (rv_assign rfl) ?_
  refine wl_nil ?_
  refine qe_seq ?_
  refine wc_seq ?_
  refine wc_region ?_
  refine wl_val wn rfl (rv_move rfl) ?_
  refine wl_val wn rfl (rv_move rfl) ?_
  refine wl_val wn rfl (rv_len (t := tGState) Try.underlying28 rfl hs33) ?_
  obtain ⟨r36, hx37, h38⟩ := Option.bind_eq_some_iff.1 h26
  have hS39 : SH _ _ _ _ _ [_, _, _] := SH.front (p := [_, _]) hS35
  refine wl_call wn rfl (rt_call (vs := [.pointer (some ⟨g1, 0, none⟩), .int .i64 (r24.length : Int)]) co61 rfl) ((ok_spec_l30Rd_pick F) (SH.enter (Lin := [_]) hS39) (SliceAt.mono hS29.le hs20) hr21 (rng_nat (SliceAt.max hs33)) hx37) ?_
  rintro e49 w41 ⟨a44, n45, c46, K40, rfl, hS42, hr43, hs47, hr48⟩
  refine ⟨_, rfl, ?_⟩
  have hS50 : SH _ _ _ _ _ [_, _, _] := SH.call (Lin := [_]) hS39 hS42
  refine wl_val wn rfl (rv_assign rfl) ?_
  refine wl_nil ?_
  refine qe_seq ?_
  refine wc_seq ?_
  refine wc_seq ?_
  refine wc_region ?_
  refine wl_val wn rfl (rv_move rfl) ?_
  obtain ⟨r51, hx52, h53⟩ := Option.bind_eq_some_iff.1 h38
  refine wl_call wn rfl (rt_call (vs := [.pointer (some ⟨g1, 0, none⟩), .int .i64 14]) co61 rfl) ((ok_spec_l30Rd_pick F) (SH.enter (Lin := [_]) hS50) hs47 hr48 (by decide : rng64 14) hx52) ?_
  rintro e63 w55 ⟨a58, n59, c60, K54, rfl, hS56, hr57, hs61, hr62⟩
  refine ⟨_, rfl, ?_⟩
  have hS64 : SH _ _ _ _ _ [_, _, _] := SH.call (Lin := [_]) hS50 hS56
  refine wl_nil ?_
  refine qe_seq ?_
  refine wc_block ?_
  refine wc_seq ?_
  refine wc_region ?_
  refine wl_val wn rfl (rv_eql rfl rfl) ?_
  refine wl_val wn rfl (rv_assign rfl) ?_
  refine wl_nil ?_
  refine qe_seq ?_
  refine wc_cond rfl (fun hb65 => ?_) (fun hb65 => ?_)
  · have h66 := cond_t hb65 h53
    refine wc_region ?_
    refine wl_val wn rfl (rv_move rfl) ?_
    refine wl_val wn rfl (rv_move rfl) ?_
    refine wl_val wn rfl (rv_move rfl) ?_
    refine wl_val wn rfl (rv_move rfl) ?_
    obtain ⟨x67, hx68, h69⟩ := Option.bind_eq_some_iff.1 h66
    refine wl_indexAddr (t := tGState) wn rfl Try.underlying28 tf33 rfl rfl (SliceAt.mono (hS42.le.trans hS56.le) hs33) hx68 ?_
    intro b70 o71 u72 hu73 ha74
    obtain ⟨a76, n77, c78, rfl, hr75, hs79⟩ := hu73
    have ha80 : AtK _ b70 o71 [.bool x67.Final, .int .i64 x67.Many, .slice a76 n77 c78] := ha74
    refine wl_val wn rfl (rv_fieldAddr ff33_0 rfl) ?_
    refine wl_val wn rfl (rv_load1 tf4 rfl hS64 (ha80 0 _ rfl)) ?_
    refine wl_val wn rfl (rv_not rfl) ?_
    refine wl_indexAddrK (t := tGState) wn rfl Try.underlying28 tf33 rfl rfl (SliceAt.mono (hS42.le.trans hS56.le) hs33) hx68 ?_
    intro b84 o85 u86 o86 hu87 ha88 hb88 ho88
    obtain ⟨a90, n91, c92, rfl, hr89, hs93⟩ := hu87
    have ha94 : AtK _ b84 o85 [.bool x67.Final, .int .i64 x67.Many, .slice a90 n91 c92] := ha88
    refine wl_val wn rfl (rv_fieldAddr ff33_0 rfl) ?_
    have hSf : SH _ _ _ _ _ [_, _, _] := SH.front (p := [_]) hS64
    refine wl_kstore' wn tf4 rfl rfl rfl hSf hb88 hS.holds (fun b hb => ⟨_, .head _, by obtain ⟨it, hi, e⟩ := List.mem_filterMap.1 hb; rw [List.mem_singleton.1 hi] at e; exact e⟩) (ha94 0 _ rfl) ?_
    intro w95 hS96
    have hsd := final_turn (SliceAt.mono (hS42.le.trans hS56.le) hs33) hx68 hb88 ho88 ha94 (!x67.Final)
    have hsr := u8_hole (v := .bool (!x67.Final)) hs61 (ha94 0 _ rfl) (fun z e => by cases e)
    refine wl_nil ?_
    refine qe_block ?_
    refine qe_seq ?_
    refine wc_seq ?_
    refine wc_region ?_
    refine wl_val wn rfl (rv_move rfl) ?_
    refine wl_val wn rfl (rv_assign rfl) ?_
    refine wl_nil ?_
    refine qe_seq ?_
    refine wc_ret ?_
    obtain rfl := Option.some.inj h69
    have hS98 : SH _ _ _ _ _ [_, _] := SH.sublist hS96 (.cons_cons _ (.cons_cons _ (.cons _ .slnil)))
    exact qe_ret (vs := [_]) Try.results66 ⟨rfl, trivial⟩ ⟨a30, n31, c32, a58, n59, c60, _, rfl, hS98, hsd, hsr, hr62⟩
  · have h66 := cond_f hb65 h53
    refine wc_seq ?_
    refine wc_region ?_
    refine wl_val wn rfl (rv_eql rfl rfl) ?_
    refine wl_val wn rfl (rv_assign rfl) ?_
    refine wl_nil ?_
    refine qe_seq ?_
    refine wc_cond rfl (fun hb99 => ?_) (fun hb99 => ?_)
    · have h100 := cond_t hb99 h66
      refine wc_region ?_
      refine wl_val wn rfl (rv_move rfl) ?_
      refine wl_val wn rfl (rv_move rfl) ?_
      refine wl_val wn rfl (rv_move rfl) ?_
      refine wl_val wn rfl (rv_move rfl) ?_
      obtain ⟨x101, hx102, h103⟩ := Option.bind_eq_some_iff.1 h100
      refine wl_indexAddr (t := tGState) wn rfl Try.underlying28 tf33 rfl rfl (SliceAt.mono (hS42.le.trans hS56.le) hs33) hx102 ?_
      intro b104 o105 u106 hu107 ha108
      obtain ⟨a110, n111, c112, rfl, hr109, hs113⟩ := hu107
      have ha114 : AtK _ b104 o105 [.bool x101.Final, .int .i64 x101.Many, .slice a110 n111 c112] := ha108
      refine wl_val wn rfl (rv_fieldAddr ff33_1 rfl) ?_
      refine wl_val wn rfl (rv_load1 tf3 rfl hS64 (ha114 1 _ rfl)) ?_
      refine wl_val wn rfl (rv_add rfl rfl) ?_
      refine wl_indexAddrK (t := tGState) wn rfl Try.underlying28 tf33 rfl rfl (SliceAt.mono (hS42.le.trans hS56.le) hs33) hx102 ?_
      intro b118 o119 u120 o120 hu121 ha122 hb122 ho122
      obtain ⟨a124, n125, c126, rfl, hr123, hs127⟩ := hu121
      have ha128 : AtK _ b118 o119 [.bool x101.Final, .int .i64 x101.Many, .slice a124 n125 c126] := ha122
      refine wl_val wn rfl (rv_fieldAddr ff33_1 rfl) ?_
      have hSf : SH _ _ _ _ _ [_, _, _] := SH.front (p := [_]) hS64
      refine wl_kstore' wn tf3 rfl rfl rfl hSf hb122 hS.holds (fun b hb => ⟨_, .head _, by obtain ⟨it, hi, e⟩ := List.mem_filterMap.1 hb; rw [List.mem_singleton.1 hi] at e; exact e⟩) (ha128 1 _ rfl) ?_
      intro w129 hS130
      have hsd := many_turn (SliceAt.mono (hS42.le.trans hS56.le) hs33) hx102 hb122 ho122 ha128 (m := w64 (x101.Many + (1 : Int))) (w64_rng _)
      have hsr := u8_hole (v := .int .i64 (w64 (x101.Many + (1 : Int)))) hs61 (ha128 1 _ rfl) (fun z e => by cases e)
      refine wl_nil ?_
      refine qe_block ?_
      refine qe_seq ?_
      refine wc_seq ?_
      refine wc_region ?_
      refine wl_val wn rfl (rv_move rfl) ?_
      refine wl_val wn rfl (rv_assign rfl) ?_
      refine wl_nil ?_
      refine qe_seq ?_
      refine wc_ret ?_
      obtain rfl := Option.some.inj h103
      have hS132 : SH _ _ _ _ _ [_, _] := SH.sublist hS130 (.cons_cons _ (.cons_cons _ (.cons _ .slnil)))
      exact qe_ret (vs := [_]) Try.results66 ⟨rfl, trivial⟩ ⟨a30, n31, c32, a58, n59, c60, _, rfl, hS132, hsd, hsr, hr62⟩
    · have h100 := cond_f hb99 h66
      refine wc_seq ?_
      refine wc_region ?_
      refine wl_val wn rfl (rv_eql rfl rfl) ?_
      refine wl_val wn rfl (rv_assign rfl) ?_
      refine wl_nil ?_
      refine qe_seq ?_
      refine wc_cond rfl (fun hb133 => ?_) (fun hb133 => ?_)
      · have h134 := cond_t hb133 h100
        refine wc_seq ?_
        refine wc_region ?_
        refine wl_val wn rfl (rv_move rfl) ?_
        refine wl_val wn rfl (rv_move rfl) ?_
        obtain ⟨x135, hx136, h137⟩ := Option.bind_eq_some_iff.1 h134
        refine wl_indexAddr (t := tGState) wn rfl Try.underlying28 tf33 rfl rfl (SliceAt.mono (hS42.le.trans hS56.le) hs33) hx136 ?_
        intro b138 o139 u140 hu141 ha142
        obtain ⟨a144, n145, c146, rfl, hr143, hs147⟩ := hu141
        have ha148 : AtK _ b138 o139 [.bool x135.Final, .int .i64 x135.Many, .slice a144 n145 c146] := ha142
        refine wl_val wn rfl (rv_fieldAddr ff33_2 rfl) ?_
        refine wl_val wn rfl (rv_load1 tf31 rfl hS64 (ha148 2 _ rfl)) ?_
        refine wl_val wn rfl (rv_len (t := tGArc) Try.underlying31 rfl hs147) ?_
        refine wl_val wn rfl (rv_gtr rfl rfl) ?_
        refine wl_nil ?_
        refine qe_seq ?_
        refine wc_cond rfl (fun hb149 => ?_) (fun hb149 => ?_)
        · have h150 := cond_t hb149 h137
          refine wc_seq ?_
          refine wc_region ?_
          refine wl_val wn rfl (rv_move rfl) ?_
          refine wl_val wn rfl (rv_move rfl) ?_
          have hN0 := hS64.enter0
          refine wl_buildSlice0 tGArc wn rfl Try.underlying31 tf35 hN0 ?_
          intro a151 w152 K153 hl154 hs155 hS156
          refine wl_val wn rfl (rv_move rfl) ?_
          refine wl_val wn rfl (rv_move rfl) ?_
          refine wl_indexAddr (t := tGState) wn rfl Try.underlying28 tf33 rfl rfl (SliceAt.mono ((hS42.le.trans hS56.le).trans hl154) hs33) hx136 ?_
          intro b160 o161 u162 hu163 ha164
          obtain ⟨a166, n167, c168, rfl, hr165, hs169⟩ := hu163
          have ha170 : AtK _ b160 o161 [.bool x135.Final, .int .i64 x135.Many, .slice a166 n167 c168] := ha164
          refine wl_val wn rfl (rv_fieldAddr ff33_2 rfl) ?_
          refine wl_val wn rfl (rv_load1 tf31 rfl hS156 (ha170 2 _ rfl)) ?_
          obtain ⟨x171, hx172, h173⟩ := Option.bind_eq_some_iff.1 h150
          refine wl_append (t := tGArc) wn rfl Try.underlying31 tf35 rfl rfl rfl rfl rfl hs155 hs169 hx172 hS156 ?_
          intro a174 n175 c176 w177 K178 hl179 hs180 hS181
          have hSN : SH _ _ _ _ _ [_, _, _, _] := SH.call0 hS64 hS181
          refine wl_indexAddrK (t := tGState) wn rfl Try.underlying28 tf33 rfl rfl (SliceAt.mono (hS42.le.trans hS56.le) hs33) hx136 ?_
          intro b185 o186 u187 o187 hu188 ha189 hb189 ho189
          obtain ⟨a191, n192, c193, rfl, hr190, hs194⟩ := hu188
          have ha195 : AtK _ b185 o186 [.bool x135.Final, .int .i64 x135.Many, .slice a191 n192 c193] := ha189
          refine wl_val wn rfl (rv_fieldAddr ff33_2 rfl) ?_
          have hSf : SH _ _ _ _ _ [_, _, _, _] := SH.front (p := [_, _]) hSN
          refine wl_kstore' wn tf31 rfl rfl rfl hSf hb189 hS.holds (fun b hb => ⟨_, .tail _ (.head _), by obtain ⟨it, hi, e⟩ := List.mem_filterMap.1 hb; rw [List.mem_singleton.1 hi] at e; exact e⟩) ((ha195.mono (hl154.trans hl179)) 2 _ rfl) ?_
          intro w196 hS197
          refine wl_nil ?_
          refine qe_seq ?_
          have hlen : 0 < x171.length := by
            have h1 : (0 : Int) < (x135.Arcs.length : Int) := of_decide_eq_true hb149
            have h2 : x171 = x135.Arcs := by
              unfold catL at hx172
              split at hx172
              · cases hx172; rfl
              · cases hx172
            rw [h2]; omega
          obtain ⟨g174, o174, hga, _⟩ := hs180.2.2.2 (by have h1 := hs180.1; have h2 := hs180.2.1; omega)
          have ho174 := hS181.tail_at hga
          subst ho174
          subst hga
          have hfresh := (hS181.tail_new hN0.holds (fun b hb => by cases hb)).2.1
          have hne : b185 ≠ g174 := fun e => by
            have h1 := ha195 0 _ rfl
            rw [e, hfresh] at h1; cases h1
          have hsl := (ha195.mono (hl154.trans hl179)) 2 _ rfl
          have hsr1 := u8_hole (v := .slice (some ⟨g174, 0, none⟩) n175 c176) (SliceAt.mono (hl154.trans hl179) hs61) hsl (fun z e => by cases e)
          have hsa1 := arc_keep hs180 (hole_keep (v := .slice (some ⟨g174, 0, none⟩) n175 c176)) hsl (fun z e => by cases e) (fun z e => by cases e)
          have hkp : ∀ b' q z, K178 b' q = some z → (b' ≠ b185 ∨ q ≠ o186 + 2) → hole K178 b185 (o186 + 2) (.slice (some ⟨g174, 0, none⟩) n175 c176) b' q = some z := hole_keep
          have hcl := hole_same K178 b185 (o186 + 2) (.slice (some ⟨g174, 0, none⟩) n175 c176)
          generalize hole K178 b185 (o186 + 2) (.slice (some ⟨g174, 0, none⟩) n175 c176) = KH at hS197 hsr1 hsa1 hkp hcl
          obtain ⟨KQ, hQ, hQn, hQo⟩ : ∃ KQ, KLe KQ KH ∧ KQ g174 (0 + 1) = none ∧ ∀ b o, b ≠ g174 → KQ b o = KH b o := ⟨cutK KH g174 (0 + 1), cutK_le _ _ _, cutK_same _ _ _, fun b o h => cutK_other (.inl h)⟩
          have hcell : KQ b185 (o186 + 2) = some (.slice (some ⟨g174, 0, none⟩) n175 c176) := by rw [hQo _ _ hne]; exact hcl
          refine wc_held (fun w' => Holds KQ w') (fun w' => True) 13 [] mixed ?_
          have hS199 := SH.drew hS197
          refine wg_val (i := 0) (listed' := #[true, false, false, false, false, false, false, false, false, false, false, false, false, false]) (fun _ => True) rfl (by kernel_rfl) (pk_block (pk_then pk_body)) (by kernel_rfl) rfl (by kernel_rfl) (by kernel_rfl) rfl (.inl fun _ _ => trivial) ⟨(hS199.hasK hQ), (fun _ => trivial), by decide⟩ wn rfl (fun _ _ => (rv_move rfl)) ?_
          refine wg_val (i := 1) (listed' := #[true, true, false, false, false, false, false, false, false, false, false, false, false, false]) (fun _ => True) rfl (by kernel_rfl) (pk_block (pk_then pk_body)) (by kernel_rfl) rfl (by kernel_rfl) (by kernel_rfl) rfl (.inl fun _ _ => trivial) ⟨(hS199.hasK hQ), (fun _ => trivial), by decide⟩ wn rfl (fun _ _ => (rv_move rfl)) ?_
          refine wg_indexAddrK (t := tGState) (j := 2) (listed' := #[true, true, true, false, false, false, false, false, false, false, false, false, false, false]) rfl (by kernel_rfl) (pk_block (pk_then pk_body)) (by kernel_rfl) rfl (by kernel_rfl) (by kernel_rfl) rfl ⟨(hS199.hasK hQ), (fun _ => trivial), by decide⟩ wn rfl Try.underlying28 tf33 rfl rfl hs33 hx136 ?_
          intro b203 o204 u205 o205 hu206 ha207 hb207 ho207
          have hcell2 : KQ b203 (o204 + 2) = some (.slice (some ⟨g174, 0, none⟩) n175 c176) := by
            rw [hb189] at hb207
            injection hb207 with q
            injection q with q1 q2 _
            rw [← q1, show o204 = o186 by omega]; exact hcell
          refine wg_val (i := 3) (listed' := #[true, true, true, true, false, false, false, false, false, false, false, false, false, false]) (fun _ => True) rfl (by kernel_rfl) (pk_block (pk_then pk_body)) (by kernel_rfl) rfl (by kernel_rfl) (by kernel_rfl) rfl (.inl fun _ _ => trivial) ⟨(hS199.hasK hQ), (fun _ => trivial), by decide⟩ wn rfl (fun _ _ => (rv_fieldAddr ff33_2 rfl)) ?_
          refine wg_val (i := 4) (listed' := #[true, true, true, true, true, false, false, false, false, false, false, false, false, false]) (Holds KQ) rfl (by kernel_rfl) (pk_block (pk_then pk_body)) (by kernel_rfl) rfl (by kernel_rfl) (by kernel_rfl) rfl (.inl fun _ h => h) ⟨(hS199.hasK hQ), (fun _ => trivial), by decide⟩ wn rfl (fun _ h => rh_load1 tf31 rfl hcell2 h) ?_
          refine wg_val (i := 5) (listed' := #[true, true, true, true, true, true, false, false, false, false, false, false, false, false]) (fun _ => True) rfl (by kernel_rfl) (pk_block (pk_then pk_body)) (by kernel_rfl) rfl (by kernel_rfl) (by kernel_rfl) rfl (.inl fun _ _ => trivial) ⟨(hS199.hasK hQ), (fun _ => trivial), by decide⟩ wn rfl (fun _ _ => (rv_move rfl)) ?_
          refine wg_val (i := 6) (listed' := #[true, true, true, true, true, true, true, false, false, false, false, false, false, false]) (fun _ => True) rfl (by kernel_rfl) (pk_block (pk_then pk_body)) (by kernel_rfl) rfl (by kernel_rfl) (by kernel_rfl) rfl (.inl fun _ _ => trivial) ⟨(hS199.hasK hQ), (fun _ => trivial), by decide⟩ wn rfl (fun _ _ => (rv_move rfl)) ?_
          refine wg_val (i := 7) (listed' := #[true, true, true, true, true, true, true, true, false, false, false, false, false, false]) (fun _ => True) rfl (by kernel_rfl) (pk_block (pk_then pk_body)) (by kernel_rfl) rfl (by kernel_rfl) (by kernel_rfl) rfl (.inl fun _ _ => trivial) ⟨(hS199.hasK hQ), (fun _ => trivial), by decide⟩ wn rfl (fun _ _ => (rv_move rfl)) ?_
          refine wg_val (i := 8) (listed' := #[true, true, true, true, true, true, true, true, true, false, false, false, false, false]) (fun _ => True) rfl (by kernel_rfl) (pk_block (pk_then pk_body)) (by kernel_rfl) rfl (by kernel_rfl) (by kernel_rfl) rfl (.inl fun _ _ => trivial) ⟨(hS199.hasK hQ), (fun _ => trivial), by decide⟩ wn rfl (fun _ _ => (rv_len (t := tGState) Try.underlying28 rfl hs33)) ?_
          refine wg_one (i := 9) (by kernel_rfl) rfl ?_
          refine wl_buildSlice (t := tInt) (n := 4) (pv := [(0, .int .i64 (-1)), (1, .int .i64 0), (2, .int .i64 r36.1), (3, .int .i64 (r24.length : Int))]) (cs := [.int .i64 (-1), .int .i64 0, .int .i64 r36.1, .int .i64 (r24.length : Int)]) (xs := [(-1 : Int), (0 : Int), r36.1, (r24.length : Int)]) wn rfl Try.underlying100 tf3 rfl rfl rfl (by kernel_rfl) rfl rfl (lit_cons (u := .int .i64 (-1)) (z := (-1 : Int)) ⟨rfl, (by decide : rng64 (-1))⟩ (lit_cons (u := .int .i64 0) (z := (0 : Int)) ⟨rfl, (by decide : rng64 0)⟩ (lit_cons (u := .int .i64 r36.1) (z := r36.1) ⟨rfl, hr43⟩ (lit_cons (u := .int .i64 (r24.length : Int)) (z := (r24.length : Int)) ⟨rfl, (rng_nat (SliceAt.max hs33))⟩ lit_nil)))) hS199 ?_
          intro a214 w215 K216 hl217 hs218 hS219
          refine wl_nil (qe_held (listed' := #[true, true, true, true, true, true, true, true, true, true, false, false, false, false]) rfl ⟨(hS219.hasK (hQ.trans hl217)), (fun _ => trivial), by decide⟩ ?_)
          refine wg_one (i := 10) (by kernel_rfl) rfl ?_
          obtain ⟨r220, hx221, h222⟩ := Option.bind_eq_some_iff.1 h173
          have hS223 : SH _ _ _ _ _ [_, _, _, _, _] := SH.front (p := [_, _, _]) hS219
          refine wl_call wn rfl (rt_call (vs := [.pointer (some ⟨g1, 0, none⟩), .slice a214 4 4]) co84 rfl) ((ok_spec_l30Rd_one F) (SH.enter (Lin := [_]) hS223) (SliceAt.mono hl217 hsr1) hr62 hs218 hx221) ?_
          rintro e233 w225 ⟨a228, n229, c230, K224, rfl, hS226, hr227, hs231, hr232⟩
          refine ⟨_, rfl, ?_⟩
          have hS234 : SH _ _ _ _ _ [_, _, _, _, _] := SH.call (Lin := [_]) hS223 hS226
          refine wl_nil (qe_held (listed' := #[true, true, true, true, true, true, true, true, true, true, true, false, false, false]) rfl ⟨(hS234.hasK ((hQ.trans hl217).trans hS226.le)), (fun _ => trivial), by decide⟩ ?_)
          obtain ⟨x235, hx236, h237⟩ := Option.bind_eq_some_iff.1 h222
          refine wg_indexAddrK (t := tGArc) (j := 11) (listed' := #[true, true, true, true, true, true, true, true, true, true, true, true, false, false]) rfl (by kernel_rfl) (pk_block (pk_then pk_body)) (by kernel_rfl) rfl (by kernel_rfl) (by kernel_rfl) rfl ⟨(hS234.hasK ((hQ.trans hl217).trans hS226.le)), (fun _ => trivial), by decide⟩ wn rfl Try.underlying31 tf35 rfl rfl hs180 hx236 ?_
          intro b238 o239 u240 o240 hu241 ha242 hb242 ho242
          obtain ⟨rfl, hr243⟩ := hu241
          have ha244 : AtK _ b238 o239 [iv8 x235.Byte, .int .i64 x235.To] := ha242
          injection hb242 with q
          injection q with q1 q2 _
          have e5 : o239 = 0 := by rw [ho242, ← q2]; simp
          subst e5
          subst q1
          refine wg_val (i := 12) (listed' := #[true, true, true, true, true, true, true, true, true, true, true, true, true, false]) (fun _ => True) rfl (by kernel_rfl) (pk_block (pk_then pk_body)) (by kernel_rfl) rfl (by kernel_rfl) (by kernel_rfl) rfl (.inl fun _ _ => trivial) ⟨(hS234.hasK ((hQ.trans hl217).trans hS226.le)), (fun _ => trivial), by decide⟩ wn rfl (fun _ _ => (rv_fieldAddr ff35_1 rfl)) ?_
          refine wg_one (i := 13) (by kernel_rfl) rfl ?_
          have hk24 : K224 g174 (0 + 1) = some (.int .i64 x235.To) := hS226.le _ _ _ (hl217 _ _ _ (hkp _ _ _ (ha244 1 _ rfl) (.inl (Ne.symm hne))))
          have hSg : SH _ _ _ _ _ [_, _, _, _, _] := SH.front (p := [_, _, _]) hS234
          refine wl_kstore' wn tf3 rfl rfl rfl hSg rfl hS.holds (fun b hb => ⟨_, .head _, by obtain ⟨it, hi, e⟩ := List.mem_filterMap.1 hb; rw [List.mem_singleton.1 hi] at e; exact e⟩) hk24 ?_
          intro w245 hS246
          refine wl_nil (qe_held (listed' := #[true, true, true, true, true, true, true, true, true, true, true, true, true, true]) rfl ⟨(hS246.hasK (hole_le ((hQ.trans hl217).trans hS226.le) hQn)), (fun _ => trivial), by decide⟩ ?_)
          refine wg_done (by kernel_rfl) ?_
          refine qe_block ?_
          refine qe_seq ?_
          refine wc_seq ?_
          refine wc_region ?_
          refine wl_val wn rfl (rv_move rfl) ?_
          refine wl_val wn rfl (rv_assign rfl) ?_
          refine wl_nil ?_
          refine qe_seq ?_
          refine wc_ret ?_
          obtain rfl := Option.some.inj h237
          have hS247 : SH _ _ _ _ _ [_, _, _, _, _] := SH.front (p := [_, _, _]) hS246
          have hS248 : SH _ _ _ _ _ [_, _] := SH.sublist hS247 (.cons_cons _ (.cons _ (.cons_cons _ (.cons _ (.cons _ .slnil)))))
          have hsr2 := u8_hole (v := .int .i64 r220.1) hs231 hk24 (fun z e => by cases e)
          have hsa2 := arc_set (SliceAt.mono (hl217.trans hS226.le) hsa1) hx236 rfl hr227
          have hsd := arcs_turn (K' := hole K224 g174 (0 + 1) (.int .i64 r220.1)) (SliceAt.mono (hS42.le.trans hS56.le) hs33) hx136 hb189 ho189 ha195 (fun b' q z e hn => by
            rw [hole_other (.inl fun e' => by rw [e', hfresh] at e; cases e)]
            exact hS226.le _ _ _ (hl217 _ _ _ (hkp _ _ _ (hl179 _ _ _ (hl154 _ _ _ e)) hn))) (by
            rw [hole_other (.inl hne)]
            exact hS226.le _ _ _ (hl217 _ _ _ hcl)) hsa2
          exact qe_ret (vs := [_]) Try.results66 ⟨rfl, trivial⟩ ⟨a30, n31, c32, a228, n229, c230, _, rfl, hS248, hsd, hsr2, hr232⟩
        · have h150 := cond_f hb149 h137
          refine wc_skip ?_
          refine qe_block ?_
          refine qe_seq ?_
          refine wc_seq ?_
          refine wc_region ?_
          refine wl_val wn rfl (rv_move rfl) ?_
          refine wl_val wn rfl (rv_assign rfl) ?_
          refine wl_nil ?_
          refine qe_seq ?_
          refine wc_ret ?_
          obtain rfl := Option.some.inj h150
          have hS249 : SH _ _ _ _ _ [_, _, _] := SH.front (p := [_]) hS64
          have hS250 : SH _ _ _ _ _ [_, _] := SH.sublist hS249 (.cons_cons _ (.cons_cons _ (.cons _ .slnil)))
          exact qe_ret (vs := [_]) Try.results66 ⟨rfl, trivial⟩ ⟨a30, n31, c32, a58, n59, c60, K54, rfl, hS250, (SliceAt.mono (hS42.le.trans hS56.le) hs33), hs61, hr62⟩
      · have h134 := cond_f hb133 h100
        refine wc_skip ?_
        refine qe_block ?_
        refine qe_seq ?_
        refine wc_seq ?_
        refine wc_region ?_
        refine wl_val wn rfl (rv_move rfl) ?_
        refine wl_val wn rfl (rv_assign rfl) ?_
        refine wl_nil ?_
        refine qe_seq ?_
        refine wc_ret ?_
        obtain rfl := Option.some.inj h134
        have hS251 : SH _ _ _ _ _ [_, _, _] := SH.front (p := [_]) hS64
        have hS252 : SH _ _ _ _ _ [_, _] := SH.sublist hS251 (.cons_cons _ (.cons_cons _ (.cons _ .slnil)))
        exact qe_ret (vs := [_]) Try.results66 ⟨rfl, trivial⟩ ⟨a30, n31, c32, a58, n59, c60, K54, rfl, hS252, (SliceAt.mono (hS42.le.trans hS56.le) hs33), hs61, hr62⟩

theorem ok_spec_DrawDawgAt (F : Nat) {w : World} {K : KMap} {a1 : Option Addr} {n2 c3 : Nat} {p0_code : List UInt8} {r : (List GState) × Int} (hS : SH w K [] w K []) (hs4 : SliceAt tU8 K a1 n2 c3 p0_code) (hm : M.spec_DrawDawgAt F p0_code = some r) :
    Calls Try.prog 37 #[.slice a1 n2 c3] w fun e w' => ∃ (a_1 : Option Addr) (n_2 c_3 : Nat) (K' : KMap), e = .returned (.tuple #[.slice a_1 n_2 c_3, .int .i64 r.2]) ∧ SH w K [] w' K' [tail (.slice a_1 n_2 c_3) 33 3] ∧ SliceAt tGState K' a_1 n_2 c_3 r.1 ∧ rng64 r.2 := by
  rw [M.spec_DrawDawgAt] at hm
  refine calls_in Try.func37 rfl Try.ntmps37 rfl ?_
  refine wc_seq ?_
  refine wc_region ?_
  refine wl_val wn rfl (rv_assign (v := .slice none 0 0) rfl) ?_
  refine wl_val wn rfl (rv_assign (v := .int .i64 0) rfl) ?_
  refine wl_nil ?_
  refine qe_seq ?_
  refine wc_seq ?_
  refine wc_region ?_
  refine wl_val wn rfl (rv_move rfl) ?_
  obtain ⟨r5, hx6, h7⟩ := Option.bind_eq_some_iff.1 hm
  refine wl_call wn rfl (rt_call (vs := [.slice a1 n2 c3]) co48 rfl) ((ok_spec_l30Open F) hS.enter0 hs4 hx6) ?_
  rintro e17 w9 ⟨g11, a12, n13, c14, K8, rfl, hS10, hs15, hr16⟩
  refine ⟨_, rfl, ?_⟩
  have hS18 : SH _ _ _ _ _ [_] := SH.call0 hS hS10
  refine wl_val wn rfl (rv_assign rfl) ?_
  refine wl_nil ?_
  refine qe_seq ?_
  refine wc_seq ?_
  refine wc_region ?_
  refine wl_val wn rfl (rv_move rfl) ?_
  obtain ⟨r19, hx20, h21⟩ := Option.bind_eq_some_iff.1 h7
  refine wl_call wn rfl (rt_call (vs := [.pointer (some ⟨g11, 0, none⟩)]) co66 rfl) ((ok_spec_l30Dawg F) (SH.enter (Lin := [_]) hS18) hs15 hr16 hx20) ?_
  rintro e34 w23 ⟨a25, n26, c27, a29, n30, c31, K22, rfl, hS24, hs28, hs32, hr33⟩
  refine ⟨_, rfl, ?_⟩
  have hS35 : SH _ _ _ _ _ [_, _] := SH.call (Lin := [_]) hS18 hS24
  refine wl_val wn rfl (rv_assign rfl) ?_
  refine wl_nil ?_
  refine qe_seq ?_
  refine wc_seq ?_
  refine wc_region ?_
  refine wl_val wn rfl (rv_move rfl) ?_
  refine wl_val wn rfl (rv_move rfl) ?_
  obtain ⟨r36, hx37, h38⟩ := Option.bind_eq_some_iff.1 h21
  have hS39 : SH _ _ _ _ _ [_, _] := SH.front (p := [_]) hS35
  refine wl_call wn rfl (rt_call (vs := [.pointer (some ⟨g11, 0, none⟩), .int .i64 10]) co61 rfl) ((ok_spec_l30Rd_pick F) (SH.enter (Lin := [_]) hS39) hs32 hr33 (by decide : rng64 10) hx37) ?_
  rintro e49 w41 ⟨a44, n45, c46, K40, rfl, hS42, hr43, hs47, hr48⟩
  refine ⟨_, rfl, ?_⟩
  have hS50 : SH _ _ _ _ _ [_, _] := SH.call (Lin := [_]) hS39 hS42
  refine wl_val wn rfl (rv_sub rfl rfl) ?_
  refine wl_val wn rfl (rv_assign rfl) ?_
  refine wl_val wn rfl (rv_assign rfl) ?_
  refine wl_nil ?_
  refine qe_seq ?_
  refine wc_ret ?_
  obtain rfl := Option.some.inj h38
  have hS51 : SH _ _ _ _ _ [_] := SH.sublist hS50 (.cons _ (.cons_cons _ .slnil))
  exact qe_ret (vs := [_, _]) Try.results37 ⟨rfl, rfl, trivial⟩ ⟨a25, n26, c27, K40, rfl, hS51, (SliceAt.mono hS42.le hs28), (w64_rng _)⟩

theorem ok_impl_DawgAt (F : Nat) {w : World} {K : KMap} {a1 : Option Addr} {n2 c3 : Nat} {p0_d : List GState} {p1_rank : Int} {r : Str} (hS : SH w K [] w K []) (hs4 : SliceAt tGState K a1 n2 c3 p0_d) (hr5 : rng64 p1_rank) (hm : M.impl_DawgAt F p0_d p1_rank = some r) :
    Calls Try.prog 38 #[.slice a1 n2 c3, .int .i64 p1_rank] w fun e w' => ∃ (K' : KMap), e = .returned (sv r) ∧ SH w K [] w' K' [] ∧ r.length ≤ maxLen := by
  rw [M.impl_DawgAt] at hm
  refine calls_in Try.func38 rfl Try.ntmps38 rfl ?_
  refine wc_seq ?_
  refine wc_region ?_
  refine wl_val wn rfl (rv_assign (v := sv []) rfl) ?_
  refine wl_nil ?_
  refine qe_seq ?_
  refine wc_seq ?_
  refine wc_region ?_
  refine wl_val wn rfl (rv_move rfl) ?_
  obtain ⟨r6, hx7, h8⟩ := Option.bind_eq_some_iff.1 hm
  refine wl_call wn rfl (rt_call (vs := [.slice a1 n2 c3]) co63 rfl) ((ok_impl_wordsIn F) hS.enter0 hs4 hx7) ?_
  rintro e16 w10 ⟨a12, n13, c14, K9, rfl, hS11, hs15⟩
  refine ⟨_, rfl, ?_⟩
  have hS17 : SH _ _ _ _ _ [_] := SH.call0 hS hS11
  refine wl_val wn rfl (rv_move rfl) ?_
  refine wl_val wn rfl (rv_extract rfl rfl) ?_
  refine wl_val wn rfl (rv_extract rfl rfl) ?_
  refine wl_val wn rfl (rv_assign rfl) ?_
  refine wl_val wn rfl (rv_assign rfl) ?_
  refine wl_nil ?_
  refine qe_seq ?_
  refine wc_seq ?_
  refine wc_seq ?_
  refine wc_region ?_
  refine wl_val wn rfl (rv_move rfl) ?_
  refine wl_val wn rfl (rv_move rfl) ?_
  refine wl_val wn rfl (rv_len (t := tStr) Try.underlying26 rfl hs15) ?_
  refine wl_val wn rfl (rv_sub rfl rfl) ?_
  obtain ⟨r18, hx19, h20⟩ := Option.bind_eq_some_iff.1 h8
  refine wl_call wn rfl (rt_call (vs := [.int .i64 p1_rank, .int .i64 0, .int .i64 (w64 ((r6.1.length : Int) - (1 : Int)))]) co67 rfl) ((ok_impl_within F) hS17.enter0 hr5 (by decide : rng64 0) (w64_rng _) hx19) ?_
  rintro e24 w22 ⟨K21, rfl, hS23⟩
  refine ⟨_, rfl, ?_⟩
  have hS25 : SH _ _ _ _ _ [_] := SH.call0 hS17 hS23
  refine wl_val wn rfl (rv_not rfl) ?_
  refine wl_nil ?_
  refine qe_seq ?_
  refine wc_cond rfl (fun hb26 => ?_) (fun hb26 => ?_)
  · have h27 := cond_t hb26 h20
    refine wc_seq ?_
    refine wc_region ?_
    refine wl_val wn rfl (rv_assign (v := sv []) rfl) ?_
    refine wl_nil ?_
    refine qe_seq ?_
    refine wc_ret ?_
    refine qe_then_ret ?_
    obtain rfl := Option.some.inj h27
    have hS28 : SH _ _ _ _ _ [] := SH.sublist hS25 (.cons _ .slnil)
    exact qe_ret (vs := [_]) Try.results38 ⟨rfl, trivial⟩ ⟨K21, rfl, hS28, (by decide : ([] : Str).length ≤ maxLen)⟩
  · have h27 := cond_f hb26 h20
    refine wc_skip ?_
    refine qe_seq ?_
    refine wc_seq ?_
    refine wc_region ?_
    refine wl_val wn rfl (rv_move rfl) ?_
    refine wl_val wn rfl (rv_move rfl) ?_
    obtain ⟨x29, hx30, h31⟩ := Option.bind_eq_some_iff.1 h27
    refine wl_indexAddr (t := tStr) wn rfl Try.underlying26 tf9 rfl rfl (SliceAt.mono hS23.le hs15) hx30 ?_
    intro b32 o33 u34 hu35 ha36
    obtain ⟨rfl, hl37⟩ := hu35
    have ha38 : AtK _ b32 o33 [sv x29] := ha36
    refine wl_val wn rfl (rv_load1 tf9 rfl hS25 (ha38 0 _ rfl)) ?_
    refine wl_val wn rfl (rv_assign rfl) ?_
    refine wl_nil ?_
    refine qe_seq ?_
    refine wc_ret ?_
    obtain rfl := Option.some.inj h31
    have hS39 : SH _ _ _ _ _ [] := SH.sublist hS25 (.cons _ .slnil)
    exact qe_ret (vs := [_]) Try.results38 ⟨rfl, trivial⟩ ⟨K21, rfl, hS39, hl37⟩

set_option maxHeartbeats 2000000 in
theorem ok_spec_l4All (F : Nat) : ∀ {w : World} {K : KMap} {a1 : Option Addr} {n2 c3 : Nat} {p0_d : List GState} {p1_at : Int} {p2_head : Str} {r : (List Str)} (hS : SH w K [] w K []) (hs4 : SliceAt tGState K a1 n2 c3 p0_d) (hr5 : rng64 p1_at) (hl6 : p2_head.length ≤ maxLen) (hm : M.spec_l4All F p0_d p1_at p2_head = some r),
    Calls Try.prog 70 #[.slice a1 n2 c3, .int .i64 p1_at, sv p2_head] w fun e w' => ∃ (a_1 : Option Addr) (n_2 c_3 : Nat) (K' : KMap), e = .returned (.slice a_1 n_2 c_3) ∧ SH w K [] w' K' [tail (.slice a_1 n_2 c_3) 9 1] ∧ SliceAt tStr K' a_1 n_2 c_3 r := by
  induction F with
  | zero => intros; rename_i hm; rw [M.spec_l4All] at hm; cases hm
  | succ F ih =>
    intro w K a1 n2 c3 p0_d p1_at p2_head r hS hs4 hr5 hl6 hm
    rw [M.spec_l4All] at hm
    refine calls_in Try.func70 rfl Try.ntmps70 rfl ?_
    refine wc_seq ?_
    refine wc_region ?_
    refine wl_val wn rfl (rv_assign (v := .slice none 0 0) rfl) ?_
    refine wl_nil ?_
    refine qe_seq ?_
    refine wc_seq ?_
    refine wc_region ?_
    refine wl_buildSlice0 tStr wn rfl Try.underlying26 tf9 hS ?_
    intro a7 w8 K9 hl10 hs11 hS12
    refine wl_val wn rfl (rv_assign rfl) ?_
    refine wl_nil ?_
    refine qe_seq ?_
    refine wc_seq ?_
    refine wc_seq ?_
    refine wc_region ?_
    refine wl_val wn rfl (rv_move rfl) ?_
    refine wl_val wn rfl (rv_move rfl) ?_
    obtain ⟨x13, hx14, h15⟩ := Option.bind_eq_some_iff.1 hm
    refine wl_indexAddr (t := tGState) wn rfl Try.underlying28 tf33 rfl rfl (SliceAt.mono hl10 hs4) hx14 ?_
    intro b16 o17 u18 hu19 ha20
    obtain ⟨a22, n23, c24, rfl, hr21, hs25⟩ := hu19
    have ha26 : AtK _ b16 o17 [.bool x13.Final, .int .i64 x13.Many, .slice a22 n23 c24] := ha20
    refine wl_val wn rfl (rv_fieldAddr ff33_0 rfl) ?_
    refine wl_val wn rfl (rv_load1 tf4 rfl hS12 (ha26 0 _ rfl)) ?_
    refine wl_nil ?_
    refine qe_seq ?_
    obtain ⟨o27, h28, h29⟩ := Option.bind_eq_some_iff.1 h15
    refine wc_cutg (fun E' w' => ∃ (a34 : Option Addr) (n35 c36 : Nat) (K30 : KMap), E' = [(0, .slice a1 n2 c3), (1, .int .i64 p1_at), (2, sv p2_head), (7, .slice a34 n35 c36)] ∧ SH w K [] w' K30 [tail (.slice a34 n35 c36) 9 1] ∧ KLe K9 K30 ∧ SliceAt tStr K30 a34 n35 c36 o27) ?_ ?_
    · refine wc_cond rfl (fun hb38 => ?_) (fun hb38 => ?_)
      · have h39 := cond_t hb38 h28
        refine wc_region ?_
        refine wl_val wn rfl (rv_move rfl) ?_
        refine wl_val wn rfl (rv_move rfl) ?_
        refine wl_buildSlice (t := tStr) (n := 1) (pv := [(0, sv p2_head)]) (cs := [sv p2_head]) (xs := [p2_head]) wn rfl Try.underlying26 tf9 rfl rfl rfl (by kernel_rfl) rfl rfl (lit_cons (u := sv p2_head) (z := p2_head) ⟨rfl, hl6⟩ lit_nil) hS12 ?_
        intro a40 w41 K42 hl43 hs44 hS45
        have hS46 : SH _ _ _ _ _ [_, _] := SH.front (p := [_]) hS45
        obtain ⟨x47, hx48, h49⟩ := Option.bind_eq_some_iff.1 h39
        refine wl_append (t := tStr) wn rfl Try.underlying26 tf9 rfl rfl rfl rfl rfl (SliceAt.mono hl43 hs11) hs44 hx48 hS46 ?_
        intro a50 n51 c52 w53 K54 hl55 hs56 hS57
        refine wl_val wn rfl (rv_assign rfl) ?_
        refine wl_nil ?_
        obtain rfl := Option.some.inj h49
        have hS58 : SH _ _ _ _ _ [_] := SH.sublist hS57 (.cons_cons _ (.cons _ .slnil))
        exact qe_mid' ⟨a50, n51, c52, K54, rfl, hS58, (hl43.trans hl55), hs56⟩ ⟨rfl, rfl, rfl, rfl, trivial⟩
      · have h39 := cond_f hb38 h28
        refine wc_skip ?_
        obtain rfl := Option.some.inj h39
        exact qe_mid' ⟨a7, 0, 0, K9, rfl, hS12, (KLe.refl _), hs11⟩ ⟨rfl, rfl, rfl, rfl, trivial⟩
    · rintro _ w32 ⟨a34, n35, c36, K30, rfl, hS33, hl31, hs37⟩
      refine qe_seq ?_
      refine wc_seq ?_
      refine wc_seq ?_
      refine wc_region ?_
      refine wl_val wn rfl (rv_assign (v := .int .i64 0) rfl) ?_
      refine wl_nil ?_
      refine qe_seq ?_
      obtain ⟨o59, h60, h61⟩ := Option.bind_eq_some_iff.1 h29
      refine wc_cutg (fun E' w' => ∃ (a66 : Option Addr) (n67 c68 : Nat) (K62 : KMap), E' = [(7, .slice a66 n67 c68)] ∧ SH w K [] w' K62 [tail (.slice a66 n67 c68) 9 1] ∧ KLe K30 K62 ∧ SliceAt tStr K62 a66 n67 c68 o59) ?_ ?_
      · refine wc_block ?_
        obtain ⟨r71, h72, h73⟩ := Option.bind_eq_some_iff.1 h60
        refine wc_while' (fun (s70 : (List Str) × Int) E' w' => ∃ (a78 : Option Addr) (n79 c80 : Nat) (K74 : KMap), E' = [(0, .slice a1 n2 c3), (1, .int .i64 p1_at), (2, sv p2_head), (7, .slice a78 n79 c80), (8, .int .i64 s70.2)] ∧ SH w K [] w' K74 [tail (.slice a78 n79 c80) 9 1] ∧ KLe K30 K74 ∧ SliceAt tStr K74 a78 n79 c80 s70.1 ∧ rng64 s70.2) h72 ⟨a34, n35, c36, K30, rfl, hS33, (KLe.refl _), hs37, (by decide : rng64 0)⟩ ⟨rfl, rfl, rfl, rfl, rfl, trivial⟩ ?_
        rintro s70 _ w76 r83 h84 hx85 ⟨a78, n79, c80, K74, rfl, hS77, hl75, hs81, hr82⟩
        refine wc_seq ?_
        refine wc_seq ?_
        refine wc_region ?_
        refine wl_val wn rfl (rv_move rfl) ?_
        refine wl_val wn rfl (rv_move rfl) ?_
        refine wl_val wn rfl (rv_move rfl) ?_
        obtain ⟨x86, hx87, h88⟩ := Option.bind_eq_some_iff.1 h84
        refine wl_indexAddr (t := tGState) wn rfl Try.underlying28 tf33 rfl rfl (SliceAt.mono ((hl10.trans hl31).trans hl75) hs4) hx87 ?_
        intro b89 o90 u91 hu92 ha93
        obtain ⟨a95, n96, c97, rfl, hr94, hs98⟩ := hu92
        have ha99 : AtK _ b89 o90 [.bool x86.Final, .int .i64 x86.Many, .slice a95 n96 c97] := ha93
        refine wl_val wn rfl (rv_fieldAddr ff33_2 rfl) ?_
        refine wl_val wn rfl (rv_load1 tf31 rfl hS77 (ha99 2 _ rfl)) ?_
        refine wl_val wn rfl (rv_len (t := tGArc) Try.underlying31 rfl hs98) ?_
        refine wl_val wn rfl (rv_lss rfl rfl) ?_
        refine wl_nil ?_
        refine qe_seq ?_
        refine wc_cond rfl (fun hb100 => ?_) (fun hb100 => ?_)
        · have h101 := cond_t hb100 h88
          refine wc_skip ?_
          refine qe_seq ?_
          refine wc_seq ?_
          refine wc_block ?_
          refine wc_seq ?_
          refine wc_region ?_
          refine wl_val wn rfl (rv_move rfl) ?_
          refine wl_val wn rfl (rv_move rfl) ?_
          obtain ⟨x102, hx103, h104⟩ := Option.bind_eq_some_iff.1 h101
          refine wl_indexAddr (t := tGState) wn rfl Try.underlying28 tf33 rfl rfl (SliceAt.mono ((hl10.trans hl31).trans hl75) hs4) hx103 ?_
          intro b105 o106 u107 hu108 ha109
          obtain ⟨a111, n112, c113, rfl, hr110, hs114⟩ := hu108
          have ha115 : AtK _ b105 o106 [.bool x102.Final, .int .i64 x102.Many, .slice a111 n112 c113] := ha109
          refine wl_val wn rfl (rv_fieldAddr ff33_2 rfl) ?_
          refine wl_val wn rfl (rv_load1 tf31 rfl hS77 (ha115 2 _ rfl)) ?_
          refine wl_val wn rfl (rv_move rfl) ?_
          obtain ⟨x116, hx117, h118⟩ := Option.bind_eq_some_iff.1 h104
          refine wl_indexAddr (t := tGArc) wn rfl Try.underlying31 tf35 rfl rfl hs114 hx117 ?_
          intro b119 o120 u121 hu122 ha123
          obtain ⟨rfl, hr124⟩ := hu122
          have ha125 : AtK _ b119 o120 [iv8 x116.Byte, .int .i64 x116.To] := ha123
          refine wl_val wn rfl (rv_loadS (cs := [iv8 x116.Byte, .int .i64 x116.To]) tf35 rfl hS77 ha125 rfl) ?_
          refine wl_alloc wn rfl tf35 hS77 ?_
          intro g126 w127 hS128
          have hS129 : SH _ _ _ _ _ [obj g126 [iv8 0, .int .i64 0] 35, _] := hS128
          refine wl_store (cs' := [iv8 x116.Byte, .int .i64 x116.To]) (v := .agg #[iv8 x116.Byte, .int .i64 x116.To]) wn tf35 rfl rfl rfl (by simp [Value.cells, Value.oneCell', iv8]) hS129 rfl rfl ?_
          intro w130 hS131
          refine wl_nil ?_
          refine qe_seq ?_
          refine wc_region ?_
          refine wl_val wn rfl (rv_move rfl) ?_
          refine wl_val wn rfl (rv_move rfl) ?_
          refine wl_val wn rfl (rv_fieldAddr ff35_1 rfl) ?_
          refine wl_val wn rfl (rv_loadm1 tf3 rfl (.head _) hS131 rfl) ?_
          refine wl_val wn rfl (rv_move rfl) ?_
          refine wl_val wn rfl (rv_fieldAddr ff35_0 rfl) ?_
          refine wl_val wn rfl (rv_loadm1 tf5 rfl (.head _) hS131 rfl) ?_
          refine wl_buildSlice (t := tU8) (n := 1) (pv := [(0, iv8 x116.Byte)]) (cs := [iv8 x116.Byte]) (xs := [x116.Byte]) wn rfl Try.underlying22 tf5 rfl rfl rfl (by kernel_rfl) rfl rfl (lit_cons (u := iv8 x116.Byte) (z := x116.Byte) rfl lit_nil) hS131 ?_
          intro a132 w133 K134 hl135 hs136 hS137
          refine wl_val wn rfl (rv_b2s Try.underlying22 Try.underlying5 Try.underlying9 rfl hs136 hS137) ?_
          obtain ⟨x138, hx139, h140⟩ := Option.bind_eq_some_iff.1 h118
          refine wl_val wn rfl (rv_sadd rfl rfl hx139) ?_
          obtain ⟨r141, hx142, h143⟩ := Option.bind_eq_some_iff.1 h140
          refine wl_call wn rfl (rt_call (vs := [.slice a1 n2 c3, .int .i64 x116.To, sv x138]) co70 rfl) (ih hS137.enter0 (SliceAt.mono (((hl10.trans hl31).trans hl75).trans hl135) hs4) hr124 (len_cat hx139) hx142) ?_
          rintro e151 w145 ⟨a147, n148, c149, K144, rfl, hS146, hs150⟩
          refine ⟨_, rfl, ?_⟩
          have hS152 : SH _ _ _ _ _ [_, _, _, _] := SH.call0 hS137 hS146
          have hS153 : SH _ _ _ _ _ [_, _, _, _] := SH.front (p := [_, _, _]) hS152
          obtain ⟨x154, hx155, h156⟩ := Option.bind_eq_some_iff.1 h143
          refine wl_append (t := tStr) wn rfl Try.underlying26 tf9 rfl rfl rfl rfl rfl (SliceAt.mono (hl135.trans hS146.le) hs81) hs150 hx155 hS153 ?_
          intro a157 n158 c159 w160 K161 hl162 hs163 hS164
          refine wl_val wn rfl (rv_assign rfl) ?_
          refine wl_nil ?_
          refine qe_block ?_
          refine qe_seq ?_
          refine wc_region ?_
          refine wl_val wn rfl (rv_move rfl) ?_
          refine wl_val wn rfl (rv_add rfl rfl) ?_
          refine wl_val wn rfl (rv_assign rfl) ?_
          refine wl_nil ?_
          obtain rfl := Option.some.inj h156
          have hS165 : SH _ _ _ _ _ [_] := SH.sublist hS164 (.cons_cons _ (.cons _ (.cons _ (.cons _ .slnil))))
          exact qe_mid' ⟨_, rfl, a157, n158, c159, K161, rfl, hS165, (((hl75.trans hl135).trans hS146.le).trans hl162), hs163, (w64_rng _)⟩ ⟨rfl, rfl, rfl, rfl, rfl, trivial⟩
        · have h101 := cond_f hb100 h88
          refine wc_exit ?_
          refine qe_then_exit ?_
          refine qe_then_exit ?_
          obtain rfl := Option.some.inj h101
          have e166 := hx85 _ rfl
          subst e166
          refine qe_block_eq ?_
          obtain rfl := Option.some.inj h73
          exact qe_mid' ⟨a78, n79, c80, K74, rfl, hS77, hl75, hs81⟩ ⟨rfl, trivial⟩
      · rintro _ w64 ⟨a66, n67, c68, K62, rfl, hS65, hl63, hs69⟩
        refine qe_seq ?_
        refine wc_seq ?_
        refine wc_region ?_
        refine wl_val wn rfl (rv_move rfl) ?_
        refine wl_val wn rfl (rv_assign rfl) ?_
        refine wl_nil ?_
        refine qe_seq ?_
        refine wc_ret ?_
        obtain rfl := Option.some.inj h61
        exact qe_ret (vs := [_]) Try.results70 ⟨rfl, trivial⟩ ⟨a66, n67, c68, K62, rfl, hS65, hs69⟩
end Go.Proofs.Ytdopcpaapniioaa
