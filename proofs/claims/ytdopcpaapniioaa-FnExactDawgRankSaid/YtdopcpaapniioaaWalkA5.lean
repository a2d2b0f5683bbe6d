/-
  Walks of the functions. Printed by gen.py.
-/
import Derived.Test.YtdopcpaapniioaaWalkA4
set_option linter.unusedVariables false
namespace Go.Proofs.Ytdopcpaapniioaa
open Go Go.Fk Go.RowKit

theorem ok_laws_FnDawgOf (F : Nat) {w : World} {K : KMap} {a1 : Option Addr} {n2 c3 : Nat} {p0_code : List UInt8} {r : Bool} (hS : SH w K [] w K []) (hs4 : SliceAt tU8 K a1 n2 c3 p0_code) (hm : M.laws_FnDawgOf F p0_code = some r) :
    Calls Try.prog 7 #[.slice a1 n2 c3] w fun e w' => ∃ (K' : KMap), e = .returned (.bool r) ∧ SH w K [] w' K' [] := by
  rw [M.laws_FnDawgOf] at hm
  refine calls_in Try.func7 rfl Try.ntmps7 rfl ?_
  refine wc_seq ?_
  refine wc_region ?_
  refine wl_val wn rfl (rv_assign (v := .bool false) rfl) ?_
  refine wl_nil ?_
  refine qe_seq ?_
  refine wc_seq ?_
  refine wc_seq ?_
  refine wc_region ?_
  refine wl_val wn rfl (rv_move rfl) ?_
  refine wl_val wn rfl (rv_len (t := tU8) Try.underlying22 rfl hs4) ?_
  refine wl_val wn rfl (rv_gtr rfl rfl) ?_
  refine wl_nil ?_
  refine qe_seq ?_
  refine wc_cond rfl (fun hb5 => ?_) (fun hb5 => ?_)
  · have h6 := cond_t hb5 hm
    refine wc_seq ?_
    refine wc_region ?_
    refine wl_val wn rfl (rv_assign (v := .bool true) rfl) ?_
    refine wl_nil ?_
    refine qe_seq ?_
    refine wc_ret ?_
    refine qe_then_ret ?_
    obtain rfl := Option.some.inj h6
    exact qe_ret (vs := [_]) Try.results7 ⟨rfl, trivial⟩ ⟨K, rfl, hS⟩
  · have h6 := cond_f hb5 hm
    refine wc_skip ?_
    refine qe_seq ?_
    refine wc_seq ?_
    refine wc_region ?_
    refine wl_val wn rfl (rv_move rfl) ?_
    obtain ⟨r7, hx8, h9⟩ := Option.bind_eq_some_iff.1 h6
    refine wl_call wn rfl (rt_call (vs := [.slice a1 n2 c3]) co18 rfl) ((ok_spec_DrawDawgOf F) hS.enter0 hs4 hx8) ?_
    rintro e17 w11 ⟨a13, n14, c15, K10, rfl, hS12, hs16⟩
    refine ⟨_, rfl, ?_⟩
    have hS18 : SH _ _ _ _ _ [_] := SH.call0 hS hS12
    refine wl_val wn rfl (rv_assign rfl) ?_
    refine wl_nil ?_
    refine qe_seq ?_
    refine wc_seq ?_
    refine wc_region ?_
    refine wl_val wn rfl (rv_move rfl) ?_
    obtain ⟨r19, hx20, h21⟩ := Option.bind_eq_some_iff.1 h9
    refine wl_call wn rfl (rt_call (vs := [.slice a13 n14 c15]) co19 rfl) ((ok_impl_DawgOf F) hS18.enter0 hs16 hx20) ?_
    rintro e29 w23 ⟨a25, n26, c27, K22, rfl, hS24, hs28⟩
    refine ⟨_, rfl, ?_⟩
    have hS30 : SH _ _ _ _ _ [_, _] := SH.call0 hS18 hS24
    refine wl_val wn rfl (rv_assign rfl) ?_
    refine wl_nil ?_
    refine qe_seq ?_
    refine wc_seq ?_
    refine wc_seq ?_
    obtain ⟨o31, h32, h33⟩ := Option.bind_eq_some_iff.1 h21
    refine wc_cutg (fun E' w' => ∃ (K34 : KMap), E' = [(3, .slice a13 n14 c15), (4, .slice a25 n26 c27), (28, .bool o31)] ∧ SH w K [] w' K34 [] ∧ KLe K22 K34) ?_ ?_
    · refine wc_region ?_
      refine wl_val wn rfl (rv_move rfl) ?_
      refine wl_val wn rfl (rv_move rfl) ?_
      obtain ⟨r38, hx39, h40⟩ := Option.bind_eq_some_iff.1 h32
      refine wl_call wn rfl (rt_call (vs := [.slice a13 n14 c15]) co21 rfl) ((ok_spec_DawgOf F) hS30.enter0 (SliceAt.mono hS24.le hs16) hx39) ?_
      rintro e48 w42 ⟨a44, n45, c46, K41, rfl, hS43, hs47⟩
      refine ⟨_, rfl, ?_⟩
      have hS49 : SH _ _ _ _ _ [_, _, _] := SH.call0 hS30 hS43
      obtain ⟨r50, hx51, h52⟩ := Option.bind_eq_some_iff.1 h40
      refine wl_call wn rfl (rt_call (vs := [.slice a25 n26 c27, .slice a44 n45 c46]) co20 rfl) ((ok_laws_foStates F) hS49.enter0 (SliceAt.mono hS43.le hs28) hs47 hx51) ?_
      rintro e56 w54 ⟨K53, rfl, hS55⟩
      refine ⟨_, rfl, ?_⟩
      have hS57 : SH _ _ _ _ _ [_, _, _] := SH.call0 hS49 hS55
      refine wl_val wn rfl (rv_not rfl) ?_
      refine wl_val wn rfl (rv_move rfl) ?_
      rcases bool_tf ((!r50)) with hb58 | hb58
      · have h59 := cond_t hb58 h52
        refine wl_un (ug rfl rfl hb58) rfl ?_
        refine wl_un (ug rfl rfl hb58) rfl ?_
        refine wl_un (ug rfl rfl hb58) rfl ?_
        refine wl_un (ug rfl rfl hb58) rfl ?_
        refine wl_un (ug rfl rfl hb58) rfl ?_
        refine wl_val wn rfl (rv_pick_t (v := .bool true) rfl hb58 rfl) ?_
        refine wl_val wn rfl (rv_move rfl) ?_
        refine wl_un (ug rfl rfl rfl) rfl ?_
        refine wl_un (ug rfl rfl rfl) rfl ?_
        refine wl_un (ug rfl rfl rfl) rfl ?_
        refine wl_val wn rfl (rv_pick_t (v := .bool true) rfl rfl rfl) ?_
        refine wl_nil ?_
        obtain rfl := Option.some.inj h59
        have hS60 : SH _ _ _ _ _ [] := SH.sublist hS57 (.cons _ (.cons _ (.cons _ .slnil)))
        exact qe_mid' ⟨K53, rfl, hS60, (hS43.le.trans hS55.le)⟩ ⟨rfl, rfl, rfl, trivial⟩
      · have h59 := cond_f hb58 h52
        refine wl_val (wg rfl rfl hb58) rfl (rv_move rfl) ?_
        obtain ⟨r61, hx62, h63⟩ := Option.bind_eq_some_iff.1 h59
        refine wl_call (wg rfl rfl hb58) rfl (rt_call (vs := [.slice a13 n14 c15]) co30 rfl) ((ok_impl_WordsUp F) hS57.enter0 (SliceAt.mono ((hS24.le.trans hS43.le).trans hS55.le) hs16) hx62) ?_
        rintro e67 w65 ⟨K64, rfl, hS66⟩
        refine ⟨_, rfl, ?_⟩
        have hS68 : SH _ _ _ _ _ [_, _, _] := SH.call0 hS57 hS66
        refine wl_val (wg rfl rfl hb58) rfl (rv_move rfl) ?_
        obtain ⟨r69, hx70, h71⟩ := Option.bind_eq_some_iff.1 h63
        refine wl_call (wg rfl rfl hb58) rfl (rt_call (vs := [.slice a13 n14 c15]) co33 rfl) ((ok_spec_WordsUp F) hS68.enter0 (SliceAt.mono (((hS24.le.trans hS43.le).trans hS55.le).trans hS66.le) hs16) hx70) ?_
        rintro e75 w73 ⟨K72, rfl, hS74⟩
        refine ⟨_, rfl, ?_⟩
        have hS76 : SH _ _ _ _ _ [_, _, _] := SH.call0 hS68 hS74
        refine wl_val (wg rfl rfl hb58) rfl (rv_boolne Try.underlying4 rfl rfl) ?_
        refine wl_val wn rfl (rv_pick_f rfl hb58 rfl) ?_
        refine wl_val wn rfl (rv_move rfl) ?_
        rcases bool_tf ((!(r61 == r69))) with hb77 | hb77
        · have h78 := cond_t hb77 h71
          refine wl_un (ug rfl rfl hb77) rfl ?_
          refine wl_un (ug rfl rfl hb77) rfl ?_
          refine wl_un (ug rfl rfl hb77) rfl ?_
          refine wl_val wn rfl (rv_pick_t (v := .bool true) rfl hb77 rfl) ?_
          refine wl_nil ?_
          obtain rfl := Option.some.inj h78
          have hS79 : SH _ _ _ _ _ [] := SH.sublist hS76 (.cons _ (.cons _ (.cons _ .slnil)))
          exact qe_mid' ⟨K72, rfl, hS79, (((hS43.le.trans hS55.le).trans hS66.le).trans hS74.le)⟩ ⟨rfl, rfl, rfl, trivial⟩
        · have h78 := cond_f hb77 h71
          refine wl_val (wg rfl rfl hb77) rfl (rv_move rfl) ?_
          refine wl_val (wg rfl rfl hb77) rfl (rv_len (t := tGState) Try.underlying28 rfl (SliceAt.mono (((hS43.le.trans hS55.le).trans hS66.le).trans hS74.le) hs28)) ?_
          refine wl_val (wg rfl rfl hb77) rfl (rv_eql rfl rfl) ?_
          refine wl_val wn rfl (rv_pick_f rfl hb77 rfl) ?_
          refine wl_nil ?_
          obtain rfl := Option.some.inj h78
          have hS80 : SH _ _ _ _ _ [] := SH.sublist hS76 (.cons _ (.cons _ (.cons _ .slnil)))
          exact qe_mid' ⟨K72, rfl, hS80, (((hS43.le.trans hS55.le).trans hS66.le).trans hS74.le)⟩ ⟨rfl, rfl, rfl, trivial⟩
    · rintro _ w36 ⟨K34, rfl, hS37, hl35⟩
      refine qe_seq ?_
      refine wc_cond rfl (fun hb81 => ?_) (fun hb81 => ?_)
      · have h82 := cond_t hb81 h33
        refine wc_seq ?_
        obtain ⟨o83, h84, h85⟩ := Option.bind_eq_some_iff.1 h82
        refine wc_cutg (fun E' w' => ∃ (K86 : KMap), E' = [(2, .bool o83)] ∧ SH w K [] w' K86 [] ∧ KLe K34 K86) ?_ ?_
        · refine wc_region ?_
          refine wl_val wn rfl (rv_move rfl) ?_
          refine wl_val wn rfl (rv_move rfl) ?_
          obtain ⟨r90, hx91, h92⟩ := Option.bind_eq_some_iff.1 h84
          refine wl_call wn rfl (rt_call (vs := [.slice a13 n14 c15]) co21 rfl) ((ok_spec_DawgOf F) hS37.enter0 (SliceAt.mono (hS24.le.trans hl35) hs16) hx91) ?_
          rintro e100 w94 ⟨a96, n97, c98, K93, rfl, hS95, hs99⟩
          refine ⟨_, rfl, ?_⟩
          have hS101 : SH _ _ _ _ _ [_] := SH.call0 hS37 hS95
          obtain ⟨r102, hx103, h104⟩ := Option.bind_eq_some_iff.1 h92
          refine wl_call wn rfl (rt_call (vs := [.slice a25 n26 c27, .slice a96 n97 c98]) co20 rfl) ((ok_laws_foStates F) hS101.enter0 (SliceAt.mono (hl35.trans hS95.le) hs28) hs99 hx103) ?_
          rintro e108 w106 ⟨K105, rfl, hS107⟩
          refine ⟨_, rfl, ?_⟩
          have hS109 : SH _ _ _ _ _ [_] := SH.call0 hS101 hS107
          refine wl_val wn rfl (rv_move rfl) ?_
          rcases bool_tf (r102) with hb110 | hb110
          · have h111 := cond_t hb110 h104
            refine wl_val (wg rfl rfl hb110) rfl (rv_move rfl) ?_
            obtain ⟨r112, hx113, h114⟩ := Option.bind_eq_some_iff.1 h111
            refine wl_call (wg rfl rfl hb110) rfl (rt_call (vs := [.slice a13 n14 c15]) co30 rfl) ((ok_impl_WordsUp F) hS109.enter0 (SliceAt.mono (((hS24.le.trans hl35).trans hS95.le).trans hS107.le) hs16) hx113) ?_
            rintro e118 w116 ⟨K115, rfl, hS117⟩
            refine ⟨_, rfl, ?_⟩
            have hS119 : SH _ _ _ _ _ [_] := SH.call0 hS109 hS117
            refine wl_val (wg rfl rfl hb110) rfl (rv_move rfl) ?_
            obtain ⟨r120, hx121, h122⟩ := Option.bind_eq_some_iff.1 h114
            refine wl_call (wg rfl rfl hb110) rfl (rt_call (vs := [.slice a13 n14 c15]) co33 rfl) ((ok_spec_WordsUp F) hS119.enter0 (SliceAt.mono ((((hS24.le.trans hl35).trans hS95.le).trans hS107.le).trans hS117.le) hs16) hx121) ?_
            rintro e126 w124 ⟨K123, rfl, hS125⟩
            refine ⟨_, rfl, ?_⟩
            have hS127 : SH _ _ _ _ _ [_] := SH.call0 hS119 hS125
            refine wl_val (wg rfl rfl hb110) rfl (rv_booleq Try.underlying4 rfl rfl) ?_
            refine wl_val wn rfl (rv_pick_t rfl hb110 rfl) ?_
            refine wl_val wn rfl (rv_move rfl) ?_
            rcases bool_tf ((r112 == r120)) with hb128 | hb128
            · have h129 := cond_t hb128 h122
              refine wl_val (wg rfl rfl hb128) rfl (rv_move rfl) ?_
              obtain ⟨r130, hx131, h132⟩ := Option.bind_eq_some_iff.1 h129
              refine wl_call (wg rfl rfl hb128) rfl (rt_call (vs := [.slice a13 n14 c15]) co30 rfl) ((ok_impl_WordsUp F) hS127.enter0 (SliceAt.mono (((((hS24.le.trans hl35).trans hS95.le).trans hS107.le).trans hS117.le).trans hS125.le) hs16) hx131) ?_
              rintro e136 w134 ⟨K133, rfl, hS135⟩
              refine ⟨_, rfl, ?_⟩
              have hS137 : SH _ _ _ _ _ [_] := SH.call0 hS127 hS135
              refine wl_val (wg rfl rfl hb128) rfl (rv_not rfl) ?_
              refine wl_val wn rfl (rv_pick_t rfl hb128 rfl) ?_
              refine wl_val wn rfl (rv_assign rfl) ?_
              refine wl_nil ?_
              obtain rfl := Option.some.inj h132
              have hS138 : SH _ _ _ _ _ [] := SH.sublist hS137 (.cons _ .slnil)
              exact qe_mid' ⟨K133, rfl, hS138, ((((hS95.le.trans hS107.le).trans hS117.le).trans hS125.le).trans hS135.le)⟩ ⟨rfl, trivial⟩
            · have h129 := cond_f hb128 h122
              refine wl_un (ug rfl rfl hb128) rfl ?_
              refine wl_un (ug rfl rfl hb128) rfl ?_
              refine wl_un (ug rfl rfl hb128) rfl ?_
              refine wl_val wn rfl (rv_pick_f (v := .bool false) rfl hb128 rfl) ?_
              refine wl_val wn rfl (rv_assign rfl) ?_
              refine wl_nil ?_
              obtain rfl := Option.some.inj h129
              have hS139 : SH _ _ _ _ _ [] := SH.sublist hS127 (.cons _ .slnil)
              exact qe_mid' ⟨K123, rfl, hS139, (((hS95.le.trans hS107.le).trans hS117.le).trans hS125.le)⟩ ⟨rfl, trivial⟩
          · have h111 := cond_f hb110 h104
            refine wl_un (ug rfl rfl hb110) rfl ?_
            refine wl_un (ug rfl rfl hb110) rfl ?_
            refine wl_un (ug rfl rfl hb110) rfl ?_
            refine wl_un (ug rfl rfl hb110) rfl ?_
            refine wl_un (ug rfl rfl hb110) rfl ?_
            refine wl_val wn rfl (rv_pick_f (v := .bool false) rfl hb110 rfl) ?_
            refine wl_val wn rfl (rv_move rfl) ?_
            refine wl_un (ug rfl rfl rfl) rfl ?_
            refine wl_un (ug rfl rfl rfl) rfl ?_
            refine wl_un (ug rfl rfl rfl) rfl ?_
            refine wl_val wn rfl (rv_pick_f (v := .bool false) rfl rfl rfl) ?_
            refine wl_val wn rfl (rv_assign rfl) ?_
            refine wl_nil ?_
            obtain rfl := Option.some.inj h111
            have hS140 : SH _ _ _ _ _ [] := SH.sublist hS109 (.cons _ .slnil)
            exact qe_mid' ⟨K105, rfl, hS140, (hS95.le.trans hS107.le)⟩ ⟨rfl, trivial⟩
        · rintro _ w88 ⟨K86, rfl, hS89, hl87⟩
          refine qe_seq ?_
          refine wc_ret ?_
          refine qe_then_ret ?_
          obtain rfl := Option.some.inj h85
          exact qe_ret (vs := [_]) Try.results7 ⟨rfl, trivial⟩ ⟨K86, rfl, hS89⟩
      · have h82 := cond_f hb81 h33
        refine wc_skip ?_
        refine qe_seq ?_
        refine wc_seq ?_
        refine wc_region ?_
        refine wl_val wn rfl (rv_move rfl) ?_
        obtain ⟨r141, hx142, h143⟩ := Option.bind_eq_some_iff.1 h82
        refine wl_call wn rfl (rt_call (vs := [.slice a25 n26 c27]) co34 rfl) ((ok_impl_DawgOk F) hS37.enter0 (SliceAt.mono hl35 hs28) hx142) ?_
        rintro e147 w145 ⟨K144, rfl, hS146⟩
        refine ⟨_, rfl, ?_⟩
        have hS148 : SH _ _ _ _ _ [] := SH.call0 hS37 hS146
        refine wl_val wn rfl (rv_move rfl) ?_
        rcases bool_tf (r141) with hb149 | hb149
        · have h150 := cond_t hb149 h143
          refine wl_val (wg rfl rfl hb149) rfl (rv_move rfl) ?_
          obtain ⟨r151, hx152, h153⟩ := Option.bind_eq_some_iff.1 h150
          refine wl_call (wg rfl rfl hb149) rfl (rt_call (vs := [.slice a25 n26 c27, sv []]) co36 rfl) ((ok_impl_DawgHead F) hS148.enter0 (SliceAt.mono (hl35.trans hS146.le) hs28) (by decide : ([] : Str).length ≤ maxLen) hx152) ?_
          rintro e161 w155 ⟨a157, n158, c159, K154, rfl, hS156, hs160⟩
          refine ⟨_, rfl, ?_⟩
          have hS162 : SH _ _ _ _ _ [_] := SH.call0 hS148 hS156
          refine wl_val (wg rfl rfl hb149) rfl (rv_move rfl) ?_
          obtain ⟨r163, hx164, h165⟩ := Option.bind_eq_some_iff.1 h153
          refine wl_call (wg rfl rfl hb149) rfl (rt_call (vs := [.slice a157 n158 c159, .slice a13 n14 c15]) co35 rfl) ((ok_laws_foTexts F) hS162.enter0 hs160 (SliceAt.mono (((hS24.le.trans hl35).trans hS146.le).trans hS156.le) hs16) hx164) ?_
          rintro e169 w167 ⟨K166, rfl, hS168⟩
          refine ⟨_, rfl, ?_⟩
          have hS170 : SH _ _ _ _ _ [_] := SH.call0 hS162 hS168
          refine wl_val wn rfl (rv_pick_t rfl hb149 rfl) ?_
          refine wl_val wn rfl (rv_move rfl) ?_
          rcases bool_tf (r163) with hb171 | hb171
          · have h172 := cond_t hb171 h165
            refine wl_val (wg rfl rfl hb171) rfl (rv_move rfl) ?_
            refine wl_val (wg rfl rfl hb171) rfl (rv_move rfl) ?_
            refine wl_val (wg rfl rfl hb171) rfl (rv_len (t := tGState) Try.underlying28 rfl (SliceAt.mono (((hl35.trans hS146.le).trans hS156.le).trans hS168.le) hs28)) ?_
            refine wl_val (wg rfl rfl hb171) rfl (rv_sub rfl rfl) ?_
            obtain ⟨x173, hx174, h175⟩ := Option.bind_eq_some_iff.1 h172
            refine wl_indexAddr (t := tGState) (wg rfl rfl hb171) rfl Try.underlying28 tf33 rfl rfl (SliceAt.mono (((hl35.trans hS146.le).trans hS156.le).trans hS168.le) hs28) hx174 ?_
            intro b176 o177 u178 hu179 ha180
            obtain ⟨a182, n183, c184, rfl, hr181, hs185⟩ := hu179
            have ha186 : AtK _ b176 o177 [.bool x173.Final, .int .i64 x173.Many, .slice a182 n183 c184] := ha180
            refine wl_val (wg rfl rfl hb171) rfl (rv_fieldAddr ff33_1 rfl) ?_
            refine wl_val (wg rfl rfl hb171) rfl (rv_load1 tf3 rfl hS170 (ha186 1 _ rfl)) ?_
            refine wl_val (wg rfl rfl hb171) rfl (rv_move rfl) ?_
            refine wl_val (wg rfl rfl hb171) rfl (rv_len (t := tStr) Try.underlying26 rfl (SliceAt.mono ((((hS24.le.trans hl35).trans hS146.le).trans hS156.le).trans hS168.le) hs16)) ?_
            refine wl_val (wg rfl rfl hb171) rfl (rv_eql rfl rfl) ?_
            refine wl_val wn rfl (rv_pick_t rfl hb171 rfl) ?_
            refine wl_val wn rfl (rv_assign rfl) ?_
            refine wl_nil ?_
            refine qe_seq ?_
            refine wc_ret ?_
            obtain rfl := Option.some.inj h175
            have hS187 : SH _ _ _ _ _ [] := SH.sublist hS170 (.cons _ .slnil)
            exact qe_ret (vs := [_]) Try.results7 ⟨rfl, trivial⟩ ⟨K166, rfl, hS187⟩
          · have h172 := cond_f hb171 h165
            refine wl_un (ug rfl rfl hb171) rfl ?_
            refine wl_un (ug rfl rfl hb171) rfl ?_
            refine wl_un (ug rfl rfl hb171) rfl ?_
            refine wl_un (ug rfl rfl hb171) rfl ?_
            refine wl_un (ug rfl rfl hb171) rfl ?_
            refine wl_un (ug rfl rfl hb171) rfl ?_
            refine wl_un (ug rfl rfl hb171) rfl ?_
            refine wl_un (ug rfl rfl hb171) rfl ?_
            refine wl_un (ug rfl rfl hb171) rfl ?_
            refine wl_un (ug rfl rfl hb171) rfl ?_
            refine wl_val wn rfl (rv_pick_f (v := .bool false) rfl hb171 rfl) ?_
            refine wl_val wn rfl (rv_assign rfl) ?_
            refine wl_nil ?_
            refine qe_seq ?_
            refine wc_ret ?_
            obtain rfl := Option.some.inj h172
            have hS188 : SH _ _ _ _ _ [] := SH.sublist hS170 (.cons _ .slnil)
            exact qe_ret (vs := [_]) Try.results7 ⟨rfl, trivial⟩ ⟨K166, rfl, hS188⟩
        · have h150 := cond_f hb149 h143
          refine wl_un (ug rfl rfl hb149) rfl ?_
          refine wl_un (ug rfl rfl hb149) rfl ?_
          refine wl_un (ug rfl rfl hb149) rfl ?_
          refine wl_un (ug rfl rfl hb149) rfl ?_
          refine wl_val wn rfl (rv_pick_f (v := .bool false) rfl hb149 rfl) ?_
          refine wl_val wn rfl (rv_move rfl) ?_
          refine wl_un (ug rfl rfl rfl) rfl ?_
          refine wl_un (ug rfl rfl rfl) rfl ?_
          refine wl_un (ug rfl rfl rfl) rfl ?_
          refine wl_un (ug rfl rfl rfl) rfl ?_
          refine wl_un (ug rfl rfl rfl) rfl ?_
          refine wl_un (ug rfl rfl rfl) rfl ?_
          refine wl_un (ug rfl rfl rfl) rfl ?_
          refine wl_un (ug rfl rfl rfl) rfl ?_
          refine wl_un (ug rfl rfl rfl) rfl ?_
          refine wl_un (ug rfl rfl rfl) rfl ?_
          refine wl_val wn rfl (rv_pick_f (v := .bool false) rfl rfl rfl) ?_
          refine wl_val wn rfl (rv_assign rfl) ?_
          refine wl_nil ?_
          refine qe_seq ?_
          refine wc_ret ?_
          obtain rfl := Option.some.inj h150
          exact qe_ret (vs := [_]) Try.results7 ⟨rfl, trivial⟩ ⟨K144, rfl, hS148⟩

theorem ok_laws_eqArc (F : Nat) {w : World} {K : KMap} {p0_a : GArc} {p1_b : GArc} {r : Bool} (hS : SH w K [] w K []) (hr1 : rng64 p0_a.To) (hr2 : rng64 p1_b.To) (hm : M.laws_eqArc F p0_a p1_b = some r) :
    Calls Try.prog 92 #[.agg #[iv8 p0_a.Byte, .int .i64 p0_a.To], .agg #[iv8 p1_b.Byte, .int .i64 p1_b.To]] w fun e w' => ∃ (K' : KMap), e = .returned (.bool r) ∧ SH w K [] w' K' [] := by
  rw [M.laws_eqArc] at hm
  refine calls_in Try.func92 rfl Try.ntmps92 rfl ?_
  refine wc_seq ?_
  refine wc_region ?_
  refine wl_box wn rfl rfl hS ?_
  intro g3 w4 hS5
  have hS6 : SH _ _ _ _ _ [obj g3 [iv8 p0_a.Byte, .int .i64 p0_a.To] 35] := hS5
  refine wl_box wn rfl rfl hS6 ?_
  intro g7 w8 hS9
  have hS10 : SH _ _ _ _ _ [obj g7 [iv8 p1_b.Byte, .int .i64 p1_b.To] 35, _] := hS9
  refine wl_val wn rfl (rv_assign (v := .bool false) rfl) ?_
  refine wl_nil ?_
  refine qe_seq ?_
  refine wc_seq ?_
  refine wc_seq ?_
  refine wc_region ?_
  refine wl_val wn rfl (rv_fieldAddr ff35_0 rfl) ?_
  refine wl_val wn rfl (rv_loadm1 tf5 rfl (.tail _ (.head _)) hS10 rfl) ?_
  refine wl_val wn rfl (rv_fieldAddr ff35_0 rfl) ?_
  refine wl_val wn rfl (rv_loadm1 tf5 rfl (.head _) hS10 rfl) ?_
  refine wl_val wn rfl (rv_bne rfl rfl) ?_
  refine wl_nil ?_
  refine qe_seq ?_
  refine wc_cond rfl (fun hb11 => ?_) (fun hb11 => ?_)
  · have h12 := cond_t hb11 hm
    refine wc_seq ?_
    refine wc_region ?_
    refine wl_val wn rfl (rv_assign (v := .bool false) rfl) ?_
    refine wl_nil ?_
    refine qe_seq ?_
    refine wc_ret ?_
    refine qe_then_ret ?_
    obtain rfl := Option.some.inj h12
    have hS13 : SH _ _ _ _ _ [] := SH.sublist hS10 (.cons _ (.cons _ .slnil))
    exact qe_ret (vs := [_]) Try.results92 ⟨rfl, trivial⟩ ⟨K, rfl, hS13⟩
  · have h12 := cond_f hb11 hm
    refine wc_skip ?_
    refine qe_seq ?_
    refine wc_seq ?_
    refine wc_seq ?_
    refine wc_region ?_
    refine wl_val wn rfl (rv_fieldAddr ff35_1 rfl) ?_
    refine wl_val wn rfl (rv_loadm1 tf3 rfl (.tail _ (.head _)) hS10 rfl) ?_
    refine wl_val wn rfl (rv_fieldAddr ff35_1 rfl) ?_
    refine wl_val wn rfl (rv_loadm1 tf3 rfl (.head _) hS10 rfl) ?_
    refine wl_val wn rfl (rv_neq rfl rfl) ?_
    refine wl_nil ?_
    refine qe_seq ?_
    refine wc_cond rfl (fun hb14 => ?_) (fun hb14 => ?_)
    · have h15 := cond_t hb14 h12
      refine wc_seq ?_
      refine wc_region ?_
      refine wl_val wn rfl (rv_assign (v := .bool false) rfl) ?_
      refine wl_nil ?_
      refine qe_seq ?_
      refine wc_ret ?_
      refine qe_then_ret ?_
      obtain rfl := Option.some.inj h15
      have hS16 : SH _ _ _ _ _ [] := SH.sublist hS10 (.cons _ (.cons _ .slnil))
      exact qe_ret (vs := [_]) Try.results92 ⟨rfl, trivial⟩ ⟨K, rfl, hS16⟩
    · have h15 := cond_f hb14 h12
      refine wc_skip ?_
      refine qe_seq ?_
      refine wc_seq ?_
      refine wc_region ?_
      refine wl_val wn rfl (rv_assign (v := .bool true) rfl) ?_
      refine wl_nil ?_
      refine qe_seq ?_
      refine wc_ret ?_
      obtain rfl := Option.some.inj h15
      have hS17 : SH _ _ _ _ _ [] := SH.sublist hS10 (.cons _ (.cons _ .slnil))
      exact qe_ret (vs := [_]) Try.results92 ⟨rfl, trivial⟩ ⟨K, rfl, hS17⟩

theorem ok_laws_eqArcS (F : Nat) {w : World} {K : KMap} {a1 : Option Addr} {n2 c3 : Nat} {a5 : Option Addr} {n6 c7 : Nat} {p0_a : List GArc} {p1_b : List GArc} {r : Bool} (hS : SH w K [] w K []) (hs4 : SliceAt tGArc K a1 n2 c3 p0_a) (hs8 : SliceAt tGArc K a5 n6 c7 p1_b) (hm : M.laws_eqArcS F p0_a p1_b = some r) :
    Calls Try.prog 79 #[.slice a1 n2 c3, .slice a5 n6 c7] w fun e w' => ∃ (K' : KMap), e = .returned (.bool r) ∧ SH w K [] w' K' [] := by
  rw [M.laws_eqArcS] at hm
  refine calls_in Try.func79 rfl Try.ntmps79 rfl ?_
  refine wc_seq ?_
  refine wc_region ?_
  refine wl_val wn rfl (rv_assign (v := .bool false) rfl) ?_
  refine wl_nil ?_
  refine qe_seq ?_
  refine wc_seq ?_
  refine wc_seq ?_
  refine wc_region ?_
  refine wl_val wn rfl (rv_move rfl) ?_
  refine wl_val wn rfl (rv_len (t := tGArc) Try.underlying31 rfl hs4) ?_
  refine wl_val wn rfl (rv_move rfl) ?_
  refine wl_val wn rfl (rv_len (t := tGArc) Try.underlying31 rfl hs8) ?_
  refine wl_val wn rfl (rv_neq rfl rfl) ?_
  refine wl_nil ?_
  refine qe_seq ?_
  refine wc_cond rfl (fun hb9 => ?_) (fun hb9 => ?_)
  · have h10 := cond_t hb9 hm
    refine wc_seq ?_
    refine wc_region ?_
    refine wl_val wn rfl (rv_assign (v := .bool false) rfl) ?_
    refine wl_nil ?_
    refine qe_seq ?_
    refine wc_ret ?_
    refine qe_then_ret ?_
    obtain rfl := Option.some.inj h10
    exact qe_ret (vs := [_]) Try.results79 ⟨rfl, trivial⟩ ⟨K, rfl, hS⟩
  · have h10 := cond_f hb9 hm
    refine wc_skip ?_
    refine qe_seq ?_
    refine wc_seq ?_
    refine wc_seq ?_
    refine wc_region ?_
    refine wl_val wn rfl (rv_assign (v := .int .i64 0) rfl) ?_
    refine wl_nil ?_
    refine qe_seq ?_
    obtain ⟨o11, h12, h13⟩ := Option.bind_eq_some_iff.1 h10
    refine wc_cutg (fun E' w' => ∃ (s14 : Unit) (K15 : KMap), o11 = .inl s14 ∧ E' = [] ∧ SH w K [] w' K15 [] ∧ KLe K K15) ?_ ?_
    · refine wc_block ?_
      obtain ⟨r20, h21, h22⟩ := Option.bind_eq_some_iff.1 h12
      refine wc_while' (fun (s19 : Int) E' w' => ∃ (K23 : KMap), E' = [(0, .slice a1 n2 c3), (1, .slice a5 n6 c7), (5, .int .i64 s19)] ∧ SH w K [] w' K23 [] ∧ KLe K K23 ∧ rng64 s19) h21 ⟨K, rfl, hS, (KLe.refl _), (by decide : rng64 0)⟩ ⟨rfl, rfl, rfl, trivial⟩ ?_
      rintro s19 _ w25 r28 h29 hx30 ⟨K23, rfl, hS26, hl24, hr27⟩
      refine wc_seq ?_
      refine wc_seq ?_
      refine wc_region ?_
      refine wl_val wn rfl (rv_move rfl) ?_
      refine wl_val wn rfl (rv_move rfl) ?_
      refine wl_val wn rfl (rv_len (t := tGArc) Try.underlying31 rfl (SliceAt.mono hl24 hs4)) ?_
      refine wl_val wn rfl (rv_lss rfl rfl) ?_
      refine wl_nil ?_
      refine qe_seq ?_
      refine wc_cond rfl (fun hb31 => ?_) (fun hb31 => ?_)
      · have h32 := cond_t hb31 h29
        refine wc_skip ?_
        refine qe_seq ?_
        refine wc_seq ?_
        refine wc_block ?_
        refine wc_seq ?_
        refine wc_quiet mixed (by kernel_rfl) hS26 ?_
        refine wq_val wn rfl (fun _ _ => (rv_move rfl)) ?_
        refine wq_val wn rfl (fun _ _ => (rv_move rfl)) ?_
        obtain ⟨x33, hx34, h35⟩ := Option.bind_eq_some_iff.1 h32
        refine wq_indexAddr (t := tGArc) wn rfl Try.underlying31 tf35 rfl rfl (SliceAt.mono hl24 hs4) hx34 ?_
        intro b36 o37 u38 hu39 ha40
        obtain ⟨rfl, hr41⟩ := hu39
        have ha42 : AtK _ b36 o37 [iv8 x33.Byte, .int .i64 x33.To] := ha40
        refine wq_val wn rfl (rq_loadS (cs := [iv8 x33.Byte, .int .i64 x33.To]) tf35 rfl ha42 rfl) ?_
        refine wq_val wn rfl (fun _ _ => (rv_move rfl)) ?_
        refine wq_val wn rfl (fun _ _ => (rv_move rfl)) ?_
        obtain ⟨x43, hx44, h45⟩ := Option.bind_eq_some_iff.1 h35
        refine wq_indexAddr (t := tGArc) wn rfl Try.underlying31 tf35 rfl rfl (SliceAt.mono hl24 hs8) hx44 ?_
        intro b46 o47 u48 hu49 ha50
        obtain ⟨rfl, hr51⟩ := hu49
        have ha52 : AtK _ b46 o47 [iv8 x43.Byte, .int .i64 x43.To] := ha50
        refine wq_val wn rfl (rq_loadS (cs := [iv8 x43.Byte, .int .i64 x43.To]) tf35 rfl ha52 rfl) ?_
        obtain ⟨r53, hx54, h55⟩ := Option.bind_eq_some_iff.1 h45
        refine wq_call (v := .bool r53) wn rfl (fun _ => rt_call (vs := [.agg #[iv8 x33.Byte, .int .i64 x33.To], .agg #[iv8 x43.Byte, .int .i64 x43.To]]) co92 rfl) (fun w58 ⟨K56, hS57, hl59⟩ => ((ok_laws_eqArc F) hS57.enter0 hr41 hr51 hx54).mono fun e w' ⟨K', he, hS'⟩ => ⟨he, K', hS57.call0 hS', hl59.trans hS'.le⟩) ?_
        refine wq_val wn rfl (fun _ _ => (rv_not rfl)) ?_
        refine wq_nil ?_
        rintro w61 ⟨K60, hS62, hl63⟩
        refine qe_seq ?_
        refine wc_cond rfl (fun hb64 => ?_) (fun hb64 => ?_)
        · have h65 := cond_t hb64 h55
          refine wc_seq ?_
          refine wc_region ?_
          refine wl_val wn rfl (rv_assign (v := .bool false) rfl) ?_
          refine wl_nil ?_
          refine qe_seq ?_
          refine wc_ret ?_
          refine qe_block_ret ?_
          refine qe_then_ret ?_
          refine qe_then_ret ?_
          obtain rfl := Option.some.inj h65
          have e66 := hx30 _ rfl
          subst e66
          refine qe_block_ret ?_
          refine qe_then_ret ?_
          obtain rfl := Option.some.inj h22
          refine qe_then_ret ?_
          obtain rfl := Option.some.inj h13
          exact qe_ret (vs := [_]) Try.results79 ⟨rfl, trivial⟩ ⟨K60, rfl, hS62⟩
        · have h65 := cond_f hb64 h55
          refine wc_skip ?_
          refine qe_block ?_
          refine qe_seq ?_
          refine wc_region ?_
          refine wl_val wn rfl (rv_move rfl) ?_
          refine wl_val wn rfl (rv_add rfl rfl) ?_
          refine wl_val wn rfl (rv_assign rfl) ?_
          refine wl_nil ?_
          obtain rfl := Option.some.inj h65
          exact qe_mid' ⟨_, rfl, K60, rfl, hS62, (hl24.trans hl63), (w64_rng _)⟩ ⟨rfl, rfl, rfl, trivial⟩
      · have h32 := cond_f hb31 h29
        refine wc_exit ?_
        refine qe_then_exit ?_
        refine qe_then_exit ?_
        obtain rfl := Option.some.inj h32
        have e67 := hx30 _ rfl
        subst e67
        refine qe_block_eq ?_
        obtain rfl := Option.some.inj h22
        exact qe_mid' ⟨_, K23, rfl, rfl, hS26, hl24⟩ trivial
    · rintro _ w17 ⟨s14, K15, rfl, rfl, hS18, hl16⟩
      refine qe_seq ?_
      refine wc_seq ?_
      refine wc_region ?_
      refine wl_val wn rfl (rv_assign (v := .bool true) rfl) ?_
      refine wl_nil ?_
      refine qe_seq ?_
      refine wc_ret ?_
      obtain rfl := Option.some.inj h13
      exact qe_ret (vs := [_]) Try.results79 ⟨rfl, trivial⟩ ⟨K15, rfl, hS18⟩

theorem ok_laws_eqState (F : Nat) {w : World} {K : KMap} {a2 : Option Addr} {n3 c4 : Nat} {a7 : Option Addr} {n8 c9 : Nat} {p0_a : GState} {p1_b : GState} {r : Bool} (hS : SH w K [] w K []) (hr1 : rng64 p0_a.Many) (hs5 : SliceAt tGArc K a2 n3 c4 p0_a.Arcs) (hr6 : rng64 p1_b.Many) (hs10 : SliceAt tGArc K a7 n8 c9 p1_b.Arcs) (hm : M.laws_eqState F p0_a p1_b = some r) :
    Calls Try.prog 56 #[.agg #[.bool p0_a.Final, .int .i64 p0_a.Many, .slice a2 n3 c4], .agg #[.bool p1_b.Final, .int .i64 p1_b.Many, .slice a7 n8 c9]] w fun e w' => ∃ (K' : KMap), e = .returned (.bool r) ∧ SH w K [] w' K' [] := by
  rw [M.laws_eqState] at hm
  refine calls_in Try.func56 rfl Try.ntmps56 rfl ?_
  refine wc_seq ?_
  refine wc_region ?_
  refine wl_box wn rfl rfl hS ?_
  intro g11 w12 hS13
  have hS14 : SH _ _ _ _ _ [obj g11 [.bool p0_a.Final, .int .i64 p0_a.Many, .slice a2 n3 c4] 33] := hS13
  refine wl_box wn rfl rfl hS14 ?_
  intro g15 w16 hS17
  have hS18 : SH _ _ _ _ _ [obj g15 [.bool p1_b.Final, .int .i64 p1_b.Many, .slice a7 n8 c9] 33, _] := hS17
  refine wl_val wn rfl (rv_assign (v := .bool false) rfl) ?_
  refine wl_nil ?_
  refine qe_seq ?_
  refine wc_seq ?_
  refine wc_seq ?_
  refine wc_region ?_
  refine wl_val wn rfl (rv_fieldAddr ff33_0 rfl) ?_
  refine wl_val wn rfl (rv_loadm1 tf4 rfl (.tail _ (.head _)) hS18 rfl) ?_
  refine wl_val wn rfl (rv_fieldAddr ff33_0 rfl) ?_
  refine wl_val wn rfl (rv_loadm1 tf4 rfl (.head _) hS18 rfl) ?_
  refine wl_val wn rfl (rv_boolne Try.underlying4 rfl rfl) ?_
  refine wl_nil ?_
  refine qe_seq ?_
  refine wc_cond rfl (fun hb19 => ?_) (fun hb19 => ?_)
  · have h20 := cond_t hb19 hm
    refine wc_seq ?_
    refine wc_region ?_
    refine wl_val wn rfl (rv_assign (v := .bool false) rfl) ?_
    refine wl_nil ?_
    refine qe_seq ?_
    refine wc_ret ?_
    refine qe_then_ret ?_
    obtain rfl := Option.some.inj h20
    have hS21 : SH _ _ _ _ _ [] := SH.sublist hS18 (.cons _ (.cons _ .slnil))
    exact qe_ret (vs := [_]) Try.results56 ⟨rfl, trivial⟩ ⟨K, rfl, hS21⟩
  · have h20 := cond_f hb19 hm
    refine wc_skip ?_
    refine qe_seq ?_
    refine wc_seq ?_
    refine wc_seq ?_
    refine wc_region ?_
    refine wl_val wn rfl (rv_fieldAddr ff33_1 rfl) ?_
    refine wl_val wn rfl (rv_loadm1 tf3 rfl (.tail _ (.head _)) hS18 rfl) ?_
    refine wl_val wn rfl (rv_fieldAddr ff33_1 rfl) ?_
    refine wl_val wn rfl (rv_loadm1 tf3 rfl (.head _) hS18 rfl) ?_
    refine wl_val wn rfl (rv_neq rfl rfl) ?_
    refine wl_nil ?_
    refine qe_seq ?_
    refine wc_cond rfl (fun hb22 => ?_) (fun hb22 => ?_)
    · have h23 := cond_t hb22 h20
      refine wc_seq ?_
      refine wc_region ?_
      refine wl_val wn rfl (rv_assign (v := .bool false) rfl) ?_
      refine wl_nil ?_
      refine qe_seq ?_
      refine wc_ret ?_
      refine qe_then_ret ?_
      obtain rfl := Option.some.inj h23
      have hS24 : SH _ _ _ _ _ [] := SH.sublist hS18 (.cons _ (.cons _ .slnil))
      exact qe_ret (vs := [_]) Try.results56 ⟨rfl, trivial⟩ ⟨K, rfl, hS24⟩
    · have h23 := cond_f hb22 h20
      refine wc_skip ?_
      refine qe_seq ?_
      refine wc_seq ?_
      refine wc_seq ?_
      refine wc_region ?_
      refine wl_val wn rfl (rv_fieldAddr ff33_2 rfl) ?_
      refine wl_val wn rfl (rv_loadm1 tf31 rfl (.tail _ (.head _)) hS18 rfl) ?_
      refine wl_val wn rfl (rv_fieldAddr ff33_2 rfl) ?_
      refine wl_val wn rfl (rv_loadm1 tf31 rfl (.head _) hS18 rfl) ?_
      obtain ⟨r25, hx26, h27⟩ := Option.bind_eq_some_iff.1 h23
      refine wl_call wn rfl (rt_call (vs := [.slice a2 n3 c4, .slice a7 n8 c9]) co79 rfl) ((ok_laws_eqArcS F) hS18.enter0 hs5 hs10 hx26) ?_
      rintro e31 w29 ⟨K28, rfl, hS30⟩
      refine ⟨_, rfl, ?_⟩
      have hS32 : SH _ _ _ _ _ [_, _] := SH.call0 hS18 hS30
      refine wl_val wn rfl (rv_not rfl) ?_
      refine wl_nil ?_
      refine qe_seq ?_
      refine wc_cond rfl (fun hb33 => ?_) (fun hb33 => ?_)
      · have h34 := cond_t hb33 h27
        refine wc_seq ?_
        refine wc_region ?_
        refine wl_val wn rfl (rv_assign (v := .bool false) rfl) ?_
        refine wl_nil ?_
        refine qe_seq ?_
        refine wc_ret ?_
        refine qe_then_ret ?_
        obtain rfl := Option.some.inj h34
        have hS35 : SH _ _ _ _ _ [] := SH.sublist hS32 (.cons _ (.cons _ .slnil))
        exact qe_ret (vs := [_]) Try.results56 ⟨rfl, trivial⟩ ⟨K28, rfl, hS35⟩
      · have h34 := cond_f hb33 h27
        refine wc_skip ?_
        refine qe_seq ?_
        refine wc_seq ?_
        refine wc_region ?_
        refine wl_val wn rfl (rv_assign (v := .bool true) rfl) ?_
        refine wl_nil ?_
        refine qe_seq ?_
        refine wc_ret ?_
        obtain rfl := Option.some.inj h34
        have hS36 : SH _ _ _ _ _ [] := SH.sublist hS32 (.cons _ (.cons _ .slnil))
        exact qe_ret (vs := [_]) Try.results56 ⟨rfl, trivial⟩ ⟨K28, rfl, hS36⟩

theorem ok_laws_eqStateS (F : Nat) {w : World} {K : KMap} {a1 : Option Addr} {n2 c3 : Nat} {a5 : Option Addr} {n6 c7 : Nat} {p0_a : List GState} {p1_b : List GState} {r : Bool} (hS : SH w K [] w K []) (hs4 : SliceAt tGState K a1 n2 c3 p0_a) (hs8 : SliceAt tGState K a5 n6 c7 p1_b) (hm : M.laws_eqStateS F p0_a p1_b = some r) :
    Calls Try.prog 24 #[.slice a1 n2 c3, .slice a5 n6 c7] w fun e w' => ∃ (K' : KMap), e = .returned (.bool r) ∧ SH w K [] w' K' [] := by
  rw [M.laws_eqStateS] at hm
  refine calls_in Try.func24 rfl Try.ntmps24 rfl ?_
  refine wc_seq ?_
  refine wc_region ?_
  refine wl_val wn rfl (rv_assign (v := .bool false) rfl) ?_
  refine wl_nil ?_
  refine qe_seq ?_
  refine wc_seq ?_
  refine wc_seq ?_
  refine wc_region ?_
  refine wl_val wn rfl (rv_move rfl) ?_
  refine wl_val wn rfl (rv_len (t := tGState) Try.underlying28 rfl hs4) ?_
  refine wl_val wn rfl (rv_move rfl) ?_
  refine wl_val wn rfl (rv_len (t := tGState) Try.underlying28 rfl hs8) ?_
  refine wl_val wn rfl (rv_neq rfl rfl) ?_
  refine wl_nil ?_
  refine qe_seq ?_
  refine wc_cond rfl (fun hb9 => ?_) (fun hb9 => ?_)
  · have h10 := cond_t hb9 hm
    refine wc_seq ?_
    refine wc_region ?_
    refine wl_val wn rfl (rv_assign (v := .bool false) rfl) ?_
    refine wl_nil ?_
    refine qe_seq ?_
    refine wc_ret ?_
    refine qe_then_ret ?_
    obtain rfl := Option.some.inj h10
    exact qe_ret (vs := [_]) Try.results24 ⟨rfl, trivial⟩ ⟨K, rfl, hS⟩
  · have h10 := cond_f hb9 hm
    refine wc_skip ?_
    refine qe_seq ?_
    refine wc_seq ?_
    refine wc_seq ?_
    refine wc_region ?_
    refine wl_val wn rfl (rv_assign (v := .int .i64 0) rfl) ?_
    refine wl_nil ?_
    refine qe_seq ?_
    obtain ⟨o11, h12, h13⟩ := Option.bind_eq_some_iff.1 h10
    refine wc_cutg (fun E' w' => ∃ (s14 : Unit) (K15 : KMap), o11 = .inl s14 ∧ E' = [] ∧ SH w K [] w' K15 [] ∧ KLe K K15) ?_ ?_
    · refine wc_block ?_
      obtain ⟨r20, h21, h22⟩ := Option.bind_eq_some_iff.1 h12
      refine wc_while' (fun (s19 : Int) E' w' => ∃ (K23 : KMap), E' = [(0, .slice a1 n2 c3), (1, .slice a5 n6 c7), (5, .int .i64 s19)] ∧ SH w K [] w' K23 [] ∧ KLe K K23 ∧ rng64 s19) h21 ⟨K, rfl, hS, (KLe.refl _), (by decide : rng64 0)⟩ ⟨rfl, rfl, rfl, trivial⟩ ?_
      rintro s19 _ w25 r28 h29 hx30 ⟨K23, rfl, hS26, hl24, hr27⟩
      refine wc_seq ?_
      refine wc_seq ?_
      refine wc_region ?_
      refine wl_val wn rfl (rv_move rfl) ?_
      refine wl_val wn rfl (rv_move rfl) ?_
      refine wl_val wn rfl (rv_len (t := tGState) Try.underlying28 rfl (SliceAt.mono hl24 hs4)) ?_
      refine wl_val wn rfl (rv_lss rfl rfl) ?_
      refine wl_nil ?_
      refine qe_seq ?_
      refine wc_cond rfl (fun hb31 => ?_) (fun hb31 => ?_)
      · have h32 := cond_t hb31 h29
        refine wc_skip ?_
        refine qe_seq ?_
        refine wc_seq ?_
        refine wc_block ?_
        refine wc_seq ?_
        refine wc_quiet mixed (by kernel_rfl) hS26 ?_
        refine wq_val wn rfl (fun _ _ => (rv_move rfl)) ?_
        refine wq_val wn rfl (fun _ _ => (rv_move rfl)) ?_
        obtain ⟨x33, hx34, h35⟩ := Option.bind_eq_some_iff.1 h32
        refine wq_indexAddr (t := tGState) wn rfl Try.underlying28 tf33 rfl rfl (SliceAt.mono hl24 hs4) hx34 ?_
        intro b36 o37 u38 hu39 ha40
        obtain ⟨a42, n43, c44, rfl, hr41, hs45⟩ := hu39
        have ha46 : AtK _ b36 o37 [.bool x33.Final, .int .i64 x33.Many, .slice a42 n43 c44] := ha40
        refine wq_val wn rfl (rq_loadS (cs := [.bool x33.Final, .int .i64 x33.Many, .slice a42 n43 c44]) tf33 rfl ha46 rfl) ?_
        refine wq_val wn rfl (fun _ _ => (rv_move rfl)) ?_
        refine wq_val wn rfl (fun _ _ => (rv_move rfl)) ?_
        obtain ⟨x47, hx48, h49⟩ := Option.bind_eq_some_iff.1 h35
        refine wq_indexAddr (t := tGState) wn rfl Try.underlying28 tf33 rfl rfl (SliceAt.mono hl24 hs8) hx48 ?_
        intro b50 o51 u52 hu53 ha54
        obtain ⟨a56, n57, c58, rfl, hr55, hs59⟩ := hu53
        have ha60 : AtK _ b50 o51 [.bool x47.Final, .int .i64 x47.Many, .slice a56 n57 c58] := ha54
        refine wq_val wn rfl (rq_loadS (cs := [.bool x47.Final, .int .i64 x47.Many, .slice a56 n57 c58]) tf33 rfl ha60 rfl) ?_
        obtain ⟨r61, hx62, h63⟩ := Option.bind_eq_some_iff.1 h49
        refine wq_call (v := .bool r61) wn rfl (fun _ => rt_call (vs := [.agg #[.bool x33.Final, .int .i64 x33.Many, .slice a42 n43 c44], .agg #[.bool x47.Final, .int .i64 x47.Many, .slice a56 n57 c58]]) co56 rfl) (fun w66 ⟨K64, hS65, hl67⟩ => ((ok_laws_eqState F) hS65.enter0 hr41 (SliceAt.mono hl67 hs45) hr55 (SliceAt.mono hl67 hs59) hx62).mono fun e w' ⟨K', he, hS'⟩ => ⟨he, K', hS65.call0 hS', hl67.trans hS'.le⟩) ?_
        refine wq_val wn rfl (fun _ _ => (rv_not rfl)) ?_
        refine wq_nil ?_
        rintro w69 ⟨K68, hS70, hl71⟩
        refine qe_seq ?_
        refine wc_cond rfl (fun hb72 => ?_) (fun hb72 => ?_)
        · have h73 := cond_t hb72 h63
          refine wc_seq ?_
          refine wc_region ?_
          refine wl_val wn rfl (rv_assign (v := .bool false) rfl) ?_
          refine wl_nil ?_
          refine qe_seq ?_
          refine wc_ret ?_
          refine qe_block_ret ?_
          refine qe_then_ret ?_
          refine qe_then_ret ?_
          obtain rfl := Option.some.inj h73
          have e74 := hx30 _ rfl
          subst e74
          refine qe_block_ret ?_
          refine qe_then_ret ?_
          obtain rfl := Option.some.inj h22
          refine qe_then_ret ?_
          obtain rfl := Option.some.inj h13
          exact qe_ret (vs := [_]) Try.results24 ⟨rfl, trivial⟩ ⟨K68, rfl, hS70⟩
        · have h73 := cond_f hb72 h63
          refine wc_skip ?_
          refine qe_block ?_
          refine qe_seq ?_
          refine wc_region ?_
          refine wl_val wn rfl (rv_move rfl) ?_
          refine wl_val wn rfl (rv_add rfl rfl) ?_
          refine wl_val wn rfl (rv_assign rfl) ?_
          refine wl_nil ?_
          obtain rfl := Option.some.inj h73
          exact qe_mid' ⟨_, rfl, K68, rfl, hS70, (hl24.trans hl71), (w64_rng _)⟩ ⟨rfl, rfl, rfl, trivial⟩
      · have h32 := cond_f hb31 h29
        refine wc_exit ?_
        refine qe_then_exit ?_
        refine qe_then_exit ?_
        obtain rfl := Option.some.inj h32
        have e75 := hx30 _ rfl
        subst e75
        refine qe_block_eq ?_
        obtain rfl := Option.some.inj h22
        exact qe_mid' ⟨_, K23, rfl, rfl, hS26, hl24⟩ trivial
    · rintro _ w17 ⟨s14, K15, rfl, rfl, hS18, hl16⟩
      refine qe_seq ?_
      refine wc_seq ?_
      refine wc_region ?_
      refine wl_val wn rfl (rv_assign (v := .bool true) rfl) ?_
      refine wl_nil ?_
      refine qe_seq ?_
      refine wc_ret ?_
      obtain rfl := Option.some.inj h13
      exact qe_ret (vs := [_]) Try.results24 ⟨rfl, trivial⟩ ⟨K15, rfl, hS18⟩

theorem ok_laws_szArcS (F : Nat) {w : World} {K : KMap} {a1 : Option Addr} {n2 c3 : Nat} {p0_a : List GArc} {p1_left : Int} {r : Int} (hS : SH w K [] w K []) (hs4 : SliceAt tGArc K a1 n2 c3 p0_a) (hr5 : rng64 p1_left) (hm : M.laws_szArcS F p0_a p1_left = some r) :
    Calls Try.prog 87 #[.slice a1 n2 c3, .int .i64 p1_left] w fun e w' => ∃ (K' : KMap), e = .returned (.int .i64 r) ∧ SH w K [] w' K' [] ∧ rng64 r := by
  rw [M.laws_szArcS] at hm
  refine calls_in Try.func87 rfl Try.ntmps87 rfl ?_
  refine wc_seq ?_
  refine wc_region ?_
  refine wl_val wn rfl (rv_assign (v := .int .i64 0) rfl) ?_
  refine wl_nil ?_
  refine qe_seq ?_
  refine wc_seq ?_
  refine wc_region ?_
  refine wl_val wn rfl (rv_move rfl) ?_
  refine wl_val wn rfl (rv_move rfl) ?_
  refine wl_val wn rfl (rv_len (t := tGArc) Try.underlying83 rfl hs4) ?_
  refine wl_val wn rfl (rv_sub rfl rfl) ?_
  refine wl_val wn rfl (rv_assign rfl) ?_
  refine wl_nil ?_
  refine qe_seq ?_
  refine wc_seq ?_
  refine wc_seq ?_
  refine wc_region ?_
  refine wl_val wn rfl (rv_move rfl) ?_
  refine wl_val wn rfl (rv_lss rfl rfl) ?_
  refine wl_nil ?_
  refine qe_seq ?_
  refine wc_cond rfl (fun hb6 => ?_) (fun hb6 => ?_)
  · have h7 := cond_t hb6 hm
    refine wc_seq ?_
    refine wc_region ?_
    refine wl_val wn rfl (rv_assign (v := .int .i64 (-1)) rfl) ?_
    refine wl_nil ?_
    refine qe_seq ?_
    refine wc_ret ?_
    refine qe_then_ret ?_
    obtain rfl := Option.some.inj h7
    exact qe_ret (vs := [_]) Try.results87 ⟨rfl, trivial⟩ ⟨K, rfl, hS, (by decide : rng64 (-1))⟩
  · have h7 := cond_f hb6 hm
    refine wc_skip ?_
    refine qe_seq ?_
    refine wc_seq ?_
    refine wc_region ?_
    refine wl_val wn rfl (rv_move rfl) ?_
    refine wl_val wn rfl (rv_assign rfl) ?_
    refine wl_nil ?_
    refine qe_seq ?_
    refine wc_ret ?_
    obtain rfl := Option.some.inj h7
    exact qe_ret (vs := [_]) Try.results87 ⟨rfl, trivial⟩ ⟨K, rfl, hS, (w64_rng _)⟩

theorem ok_laws_szState (F : Nat) {w : World} {K : KMap} {a2 : Option Addr} {n3 c4 : Nat} {p0_a : GState} {p1_left : Int} {r : Int} (hS : SH w K [] w K []) (hr1 : rng64 p0_a.Many) (hs5 : SliceAt tGArc K a2 n3 c4 p0_a.Arcs) (hr6 : rng64 p1_left) (hm : M.laws_szState F p0_a p1_left = some r) :
    Calls Try.prog 71 #[.agg #[.bool p0_a.Final, .int .i64 p0_a.Many, .slice a2 n3 c4], .int .i64 p1_left] w fun e w' => ∃ (K' : KMap), e = .returned (.int .i64 r) ∧ SH w K [] w' K' [] ∧ rng64 r := by
  rw [M.laws_szState] at hm
  refine calls_in Try.func71 rfl Try.ntmps71 rfl ?_
  refine wc_seq ?_
  refine wc_region ?_
  refine wl_box wn rfl rfl hS ?_
  intro g7 w8 hS9
  have hS10 : SH _ _ _ _ _ [obj g7 [.bool p0_a.Final, .int .i64 p0_a.Many, .slice a2 n3 c4] 85] := hS9
  refine wl_val wn rfl (rv_assign (v := .int .i64 0) rfl) ?_
  refine wl_nil ?_
  refine qe_seq ?_
  refine wc_seq ?_
  refine wc_region ?_
  refine wl_val wn rfl (rv_fieldAddr ff85_2 rfl) ?_
  refine wl_val wn rfl (rv_loadm1 tf83 rfl (.head _) hS10 rfl) ?_
  refine wl_val wn rfl (rv_move rfl) ?_
  obtain ⟨r11, hx12, h13⟩ := Option.bind_eq_some_iff.1 hm
  refine wl_call wn rfl (rt_call (vs := [.slice a2 n3 c4, .int .i64 p1_left]) co87 rfl) ((ok_laws_szArcS F) hS10.enter0 hs5 hr6 hx12) ?_
  rintro e18 w15 ⟨K14, rfl, hS16, hr17⟩
  refine ⟨_, rfl, ?_⟩
  have hS19 : SH _ _ _ _ _ [_] := SH.call0 hS10 hS16
  refine wl_val wn rfl (rv_assign rfl) ?_
  refine wl_nil ?_
  refine qe_seq ?_
  refine wc_seq ?_
  refine wc_seq ?_
  refine wc_region ?_
  refine wl_val wn rfl (rv_move rfl) ?_
  refine wl_val wn rfl (rv_lss rfl rfl) ?_
  refine wl_nil ?_
  refine qe_seq ?_
  refine wc_cond rfl (fun hb20 => ?_) (fun hb20 => ?_)
  · have h21 := cond_t hb20 h13
    refine wc_seq ?_
    refine wc_region ?_
    refine wl_val wn rfl (rv_assign (v := .int .i64 (-1)) rfl) ?_
    refine wl_nil ?_
    refine qe_seq ?_
    refine wc_ret ?_
    refine qe_then_ret ?_
    obtain rfl := Option.some.inj h21
    have hS22 : SH _ _ _ _ _ [] := SH.sublist hS19 (.cons _ .slnil)
    exact qe_ret (vs := [_]) Try.results71 ⟨rfl, trivial⟩ ⟨K14, rfl, hS22, (by decide : rng64 (-1))⟩
  · have h21 := cond_f hb20 h13
    refine wc_skip ?_
    refine qe_seq ?_
    refine wc_seq ?_
    refine wc_region ?_
    refine wl_val wn rfl (rv_move rfl) ?_
    refine wl_val wn rfl (rv_assign rfl) ?_
    refine wl_nil ?_
    refine qe_seq ?_
    refine wc_ret ?_
    obtain rfl := Option.some.inj h21
    have hS23 : SH _ _ _ _ _ [] := SH.sublist hS19 (.cons _ .slnil)
    exact qe_ret (vs := [_]) Try.results71 ⟨rfl, trivial⟩ ⟨K14, rfl, hS23, hr17⟩

theorem ok_laws_szStateS (F : Nat) {w : World} {K : KMap} {a1 : Option Addr} {n2 c3 : Nat} {p0_a : List GState} {p1_left : Int} {r : Int} (hS : SH w K [] w K []) (hs4 : SliceAt tGState K a1 n2 c3 p0_a) (hr5 : rng64 p1_left) (hm : M.laws_szStateS F p0_a p1_left = some r) :
    Calls Try.prog 40 #[.slice a1 n2 c3, .int .i64 p1_left] w fun e w' => ∃ (K' : KMap), e = .returned (.int .i64 r) ∧ SH w K [] w' K' [] ∧ rng64 r := by
  rw [M.laws_szStateS] at hm
  refine calls_in Try.func40 rfl Try.ntmps40 rfl ?_
  refine wc_seq ?_
  refine wc_region ?_
  refine wl_val wn rfl (rv_assign (v := .int .i64 0) rfl) ?_
  refine wl_nil ?_
  refine qe_seq ?_
  refine wc_seq ?_
  refine wc_region ?_
  refine wl_val wn rfl (rv_move rfl) ?_
  refine wl_val wn rfl (rv_move rfl) ?_
  refine wl_val wn rfl (rv_len (t := tGState) Try.underlying51 rfl hs4) ?_
  refine wl_val wn rfl (rv_sub rfl rfl) ?_
  refine wl_val wn rfl (rv_assign rfl) ?_
  refine wl_nil ?_
  refine qe_seq ?_
  refine wc_seq ?_
  refine wc_seq ?_
  refine wc_region ?_
  refine wl_val wn rfl (rv_move rfl) ?_
  refine wl_val wn rfl (rv_lss rfl rfl) ?_
  refine wl_nil ?_
  refine qe_seq ?_
  refine wc_cond rfl (fun hb6 => ?_) (fun hb6 => ?_)
  · have h7 := cond_t hb6 hm
    refine wc_seq ?_
    refine wc_region ?_
    refine wl_val wn rfl (rv_assign (v := .int .i64 (-1)) rfl) ?_
    refine wl_nil ?_
    refine qe_seq ?_
    refine wc_ret ?_
    refine qe_then_ret ?_
    obtain rfl := Option.some.inj h7
    exact qe_ret (vs := [_]) Try.results40 ⟨rfl, trivial⟩ ⟨K, rfl, hS, (by decide : rng64 (-1))⟩
  · have h7 := cond_f hb6 hm
    refine wc_skip ?_
    refine qe_seq ?_
    refine wc_seq ?_
    refine wc_seq ?_
    refine wc_region ?_
    refine wl_val wn rfl (rv_assign (v := .int .i64 0) rfl) ?_
    refine wl_nil ?_
    refine qe_seq ?_
    obtain ⟨o8, h9, h10⟩ := Option.bind_eq_some_iff.1 h7
    refine wc_cutg (fun E' w' => ∃ (s11 : Int) (K12 : KMap), o8 = .inl s11 ∧ E' = [(1, .int .i64 s11)] ∧ SH w K [] w' K12 [] ∧ KLe K K12 ∧ rng64 s11) ?_ ?_
    · refine wc_block ?_
      obtain ⟨r18, h19, h20⟩ := Option.bind_eq_some_iff.1 h9
      refine wc_while' (fun (s17 : Int × Int) E' w' => ∃ (K21 : KMap), E' = [(0, .slice a1 n2 c3), (1, .int .i64 s17.1), (5, .int .i64 s17.2)] ∧ SH w K [] w' K21 [] ∧ KLe K K21 ∧ rng64 s17.1 ∧ rng64 s17.2) h19 ⟨K, rfl, hS, (KLe.refl _), (w64_rng _), (by decide : rng64 0)⟩ ⟨rfl, rfl, rfl, trivial⟩ ?_
      rintro s17 _ w23 r27 h28 hx29 ⟨K21, rfl, hS24, hl22, hr25, hr26⟩
      refine wc_seq ?_
      refine wc_seq ?_
      refine wc_region ?_
      refine wl_val wn rfl (rv_move rfl) ?_
      refine wl_val wn rfl (rv_move rfl) ?_
      refine wl_val wn rfl (rv_len (t := tGState) Try.underlying51 rfl (SliceAt.mono hl22 hs4)) ?_
      refine wl_val wn rfl (rv_lss rfl rfl) ?_
      refine wl_nil ?_
      refine qe_seq ?_
      refine wc_cond rfl (fun hb30 => ?_) (fun hb30 => ?_)
      · have h31 := cond_t hb30 h28
        refine wc_skip ?_
        refine qe_seq ?_
        refine wc_seq ?_
        refine wc_block ?_
        refine wc_seq ?_
        refine wc_region ?_
        refine wl_val wn rfl (rv_move rfl) ?_
        refine wl_val wn rfl (rv_move rfl) ?_
        obtain ⟨x32, hx33, h34⟩ := Option.bind_eq_some_iff.1 h31
        refine wl_indexAddr (t := tGState) wn rfl Try.underlying51 tf85 rfl rfl (SliceAt.mono hl22 hs4) hx33 ?_
        intro b35 o36 u37 hu38 ha39
        obtain ⟨a41, n42, c43, rfl, hr40, hs44⟩ := hu38
        have ha45 : AtK _ b35 o36 [.bool x32.Final, .int .i64 x32.Many, .slice a41 n42 c43] := ha39
        refine wl_val wn rfl (rv_loadS (cs := [.bool x32.Final, .int .i64 x32.Many, .slice a41 n42 c43]) tf85 rfl hS24 ha45 rfl) ?_
        refine wl_val wn rfl (rv_move rfl) ?_
        obtain ⟨r46, hx47, h48⟩ := Option.bind_eq_some_iff.1 h34
        refine wl_call wn rfl (rt_call (vs := [.agg #[.bool x32.Final, .int .i64 x32.Many, .slice a41 n42 c43], .int .i64 s17.1]) co71 rfl) ((ok_laws_szState F) hS24.enter0 hr40 hs44 hr25 hx47) ?_
        rintro e53 w50 ⟨K49, rfl, hS51, hr52⟩
        refine ⟨_, rfl, ?_⟩
        have hS54 : SH _ _ _ _ _ [] := SH.call0 hS24 hS51
        refine wl_val wn rfl (rv_assign rfl) ?_
        refine wl_nil ?_
        refine qe_seq ?_
        refine wc_seq ?_
        refine wc_region ?_
        refine wl_val wn rfl (rv_move rfl) ?_
        refine wl_val wn rfl (rv_lss rfl rfl) ?_
        refine wl_nil ?_
        refine qe_seq ?_
        refine wc_cond rfl (fun hb55 => ?_) (fun hb55 => ?_)
        · have h56 := cond_t hb55 h48
          refine wc_seq ?_
          refine wc_region ?_
          refine wl_val wn rfl (rv_assign (v := .int .i64 (-1)) rfl) ?_
          refine wl_nil ?_
          refine qe_seq ?_
          refine wc_ret ?_
          refine qe_block_ret ?_
          refine qe_then_ret ?_
          refine qe_then_ret ?_
          obtain rfl := Option.some.inj h56
          have e57 := hx29 _ rfl
          subst e57
          refine qe_block_ret ?_
          refine qe_then_ret ?_
          obtain rfl := Option.some.inj h20
          refine qe_then_ret ?_
          obtain rfl := Option.some.inj h10
          exact qe_ret (vs := [_]) Try.results40 ⟨rfl, trivial⟩ ⟨K49, rfl, hS54, (by decide : rng64 (-1))⟩
        · have h56 := cond_f hb55 h48
          refine wc_skip ?_
          refine qe_block ?_
          refine qe_seq ?_
          refine wc_region ?_
          refine wl_val wn rfl (rv_move rfl) ?_
          refine wl_val wn rfl (rv_add rfl rfl) ?_
          refine wl_val wn rfl (rv_assign rfl) ?_
          refine wl_nil ?_
          obtain rfl := Option.some.inj h56
          exact qe_mid' ⟨_, rfl, K49, rfl, hS54, (hl22.trans hS51.le), hr52, (w64_rng _)⟩ ⟨rfl, rfl, rfl, trivial⟩
      · have h31 := cond_f hb30 h28
        refine wc_exit ?_
        refine qe_then_exit ?_
        refine qe_then_exit ?_
        obtain rfl := Option.some.inj h31
        have e58 := hx29 _ rfl
        subst e58
        refine qe_block_eq ?_
        obtain rfl := Option.some.inj h20
        exact qe_mid' ⟨_, K21, rfl, rfl, hS24, hl22, hr25⟩ ⟨rfl, trivial⟩
    · rintro _ w14 ⟨s11, K12, rfl, rfl, hS15, hl13, hr16⟩
      refine qe_seq ?_
      refine wc_seq ?_
      refine wc_region ?_
      refine wl_val wn rfl (rv_move rfl) ?_
      refine wl_val wn rfl (rv_assign rfl) ?_
      refine wl_nil ?_
      refine qe_seq ?_
      refine wc_ret ?_
      obtain rfl := Option.some.inj h10
      exact qe_ret (vs := [_]) Try.results40 ⟨rfl, trivial⟩ ⟨K12, rfl, hS15, hr16⟩
end Go.Proofs.Ytdopcpaapniioaa
