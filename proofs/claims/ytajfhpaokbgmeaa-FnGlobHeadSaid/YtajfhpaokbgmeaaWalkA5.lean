/-
  Walks of the functions. Printed by gen.py.
-/
import Derived.Test.YtajfhpaokbgmeaaWalkA4
set_option linter.unusedVariables false
namespace Go.Proofs.Ytajfhpaokbgmeaa
open Go Go.Fk Go.RowKit

theorem ok_laws_FnGlobHead (F : Nat) {w : World} {K : KMap} {a1 : Option Addr} {n2 c3 : Nat} {a5 : Option Addr} {n6 c7 : Nat} {p0_code : List UInt8} {p1_more : List UInt8} {r : Bool} (hS : SH w K [] w K []) (hs4 : SliceAt tU8 K a1 n2 c3 p0_code) (hs8 : SliceAt tU8 K a5 n6 c7 p1_more) (hm : M.laws_FnGlobHead F p0_code p1_more = some r) :
    Calls Try.prog 5 #[.slice a1 n2 c3, .slice a5 n6 c7] w fun e w' => ∃ (K' : KMap), e = .returned (.bool r) ∧ SH w K [] w' K' [] := by
  rw [M.laws_FnGlobHead] at hm
  refine calls_in Try.func5 rfl Try.ntmps5 rfl ?_
  refine wc_seq ?_
  refine wc_region ?_
  refine wl_val wn rfl (rv_assign (v := .bool false) rfl) ?_
  refine wl_nil ?_
  refine qe_seq ?_
  refine wc_seq ?_
  refine wc_seq ?_
  obtain ⟨o9, h10, h11⟩ := Option.bind_eq_some_iff.1 hm
  refine wc_cutg (fun E' w' => ∃ (K12 : KMap), E' = [(0, .slice a1 n2 c3), (1, .slice a5 n6 c7), (19, .bool o9)] ∧ SH w K [] w' K12 [] ∧ KLe K K12) ?_ ?_
  · refine wc_region ?_
    refine wl_val wn rfl (rv_move rfl) ?_
    refine wl_val wn rfl (rv_len (t := tU8) Try.underlying33 rfl hs4) ?_
    refine wl_val wn rfl (rv_gtr rfl rfl) ?_
    refine wl_val wn rfl (rv_move rfl) ?_
    rcases bool_tf (decide ((1048576 : Int) < (p0_code.length : Int))) with hb16 | hb16
    · have h17 := cond_t hb16 h10
      refine wl_un (ug rfl rfl hb16) rfl ?_
      refine wl_un (ug rfl rfl hb16) rfl ?_
      refine wl_un (ug rfl rfl hb16) rfl ?_
      refine wl_val wn rfl (rv_pick_t (v := .bool true) rfl hb16 rfl) ?_
      refine wl_nil ?_
      obtain rfl := Option.some.inj h17
      exact qe_mid' ⟨K, rfl, hS, (KLe.refl _)⟩ ⟨rfl, rfl, rfl, trivial⟩
    · have h17 := cond_f hb16 h10
      refine wl_val (wg rfl rfl hb16) rfl (rv_move rfl) ?_
      refine wl_val (wg rfl rfl hb16) rfl (rv_len (t := tU8) Try.underlying33 rfl hs8) ?_
      refine wl_val (wg rfl rfl hb16) rfl (rv_gtr rfl rfl) ?_
      refine wl_val wn rfl (rv_pick_f rfl hb16 rfl) ?_
      refine wl_nil ?_
      obtain rfl := Option.some.inj h17
      exact qe_mid' ⟨K, rfl, hS, (KLe.refl _)⟩ ⟨rfl, rfl, rfl, trivial⟩
  · rintro _ w14 ⟨K12, rfl, hS15, hl13⟩
    refine qe_seq ?_
    refine wc_cond rfl (fun hb18 => ?_) (fun hb18 => ?_)
    · have h19 := cond_t hb18 h11
      refine wc_seq ?_
      refine wc_region ?_
      refine wl_val wn rfl (rv_assign (v := .bool true) rfl) ?_
      refine wl_nil ?_
      refine qe_seq ?_
      refine wc_ret ?_
      refine qe_then_ret ?_
      obtain rfl := Option.some.inj h19
      exact qe_ret (vs := [_]) Try.results5 ⟨rfl, trivial⟩ ⟨K12, rfl, hS15⟩
    · have h19 := cond_f hb18 h11
      refine wc_skip ?_
      refine qe_seq ?_
      refine wc_seq ?_
      refine wc_region ?_
      refine wl_val wn rfl (rv_move rfl) ?_
      obtain ⟨r20, hx21, h22⟩ := Option.bind_eq_some_iff.1 h19
      refine wl_call wn rfl (rt_call (vs := [.slice a1 n2 c3]) co21 rfl) ((ok_spec_DrawDawgOf F) hS15.enter0 (SliceAt.mono hl13 hs4) hx21) ?_
      rintro e30 w24 ⟨a26, n27, c28, K23, rfl, hS25, hs29⟩
      refine ⟨_, rfl, ?_⟩
      have hS31 : SH _ _ _ _ _ [_] := SH.call0 hS15 hS25
      refine wl_val wn rfl (rv_assign rfl) ?_
      refine wl_nil ?_
      refine qe_seq ?_
      refine wc_seq ?_
      refine wc_region ?_
      refine wl_val wn rfl (rv_move rfl) ?_
      obtain ⟨r32, hx33, h34⟩ := Option.bind_eq_some_iff.1 h22
      refine wl_call wn rfl (rt_call (vs := [.slice a5 n6 c7]) co22 rfl) ((ok_spec_DrawNearFar F) hS31.enter0 (SliceAt.mono (hl13.trans hS25.le) hs8) hx33) ?_
      rintro e40 w36 ⟨K35, rfl, hS37, hl38, hl39⟩
      refine ⟨_, rfl, ?_⟩
      have hS41 : SH _ _ _ _ _ [_] := SH.call0 hS31 hS37
      refine wl_val wn rfl (rv_move rfl) ?_
      refine wl_val wn rfl (rv_extract rfl rfl) ?_
      refine wl_val wn rfl (rv_extract rfl rfl) ?_
      refine wl_val wn rfl (rv_assign rfl) ?_
      refine wl_val wn rfl (rv_assign rfl) ?_
      refine wl_nil ?_
      refine qe_seq ?_
      refine wc_seq ?_
      refine wc_region ?_
      refine wl_val wn rfl (rv_move rfl) ?_
      refine wl_val wn rfl (rv_move rfl) ?_
      obtain ⟨x42, hx43, h44⟩ := Option.bind_eq_some_iff.1 h34
      refine wl_val wn rfl (rv_sadd (r := ([42] : Str)) rfl rfl hx43) ?_
      obtain ⟨r45, hx46, h47⟩ := Option.bind_eq_some_iff.1 h44
      refine wl_call wn rfl (rt_call (vs := [.slice a26 n27 c28, sv x42]) co23 rfl) ((ok_impl_GlobOf F) hS41.enter0 (SliceAt.mono hS37.le hs29) (len_cat hx43) hx46) ?_
      rintro e55 w49 ⟨a51, n52, c53, K48, rfl, hS50, hs54⟩
      refine ⟨_, rfl, ?_⟩
      have hS56 : SH _ _ _ _ _ [_, _] := SH.call0 hS41 hS50
      refine wl_val wn rfl (rv_assign rfl) ?_
      refine wl_nil ?_
      refine qe_seq ?_
      refine wc_seq ?_
      refine wc_seq ?_
      obtain ⟨o57, h58, h59⟩ := Option.bind_eq_some_iff.1 h47
      refine wc_cutg (fun E' w' => ∃ (K60 : KMap), E' = [(5, .slice a26 n27 c28), (6, sv r32.1), (8, .slice a51 n52 c53), (47, .bool o57)] ∧ SH w K [] w' K60 [] ∧ KLe K48 K60) ?_ ?_
      · refine wc_region ?_
        refine wl_val wn rfl (rv_move rfl) ?_
        refine wl_val wn rfl (rv_move rfl) ?_
        refine wl_val wn rfl (rv_move rfl) ?_
        obtain ⟨x64, hx65, h66⟩ := Option.bind_eq_some_iff.1 h58
        refine wl_val wn rfl (rv_sadd (r := ([42] : Str)) rfl rfl hx65) ?_
        obtain ⟨r67, hx68, h69⟩ := Option.bind_eq_some_iff.1 h66
        refine wl_call wn rfl (rt_call (vs := [.slice a26 n27 c28, sv x64]) co25 rfl) ((ok_spec_GlobOf F) hS56.enter0 (SliceAt.mono (hS37.le.trans hS50.le) hs29) (len_cat hx65) hx68) ?_
        rintro e77 w71 ⟨a73, n74, c75, K70, rfl, hS72, hs76⟩
        refine ⟨_, rfl, ?_⟩
        have hS78 : SH _ _ _ _ _ [_, _, _] := SH.call0 hS56 hS72
        obtain ⟨r79, hx80, h81⟩ := Option.bind_eq_some_iff.1 h69
        refine wl_call wn rfl (rt_call (vs := [.slice a51 n52 c53, .slice a73 n74 c75]) co24 rfl) ((ok_laws_foTexts F) hS78.enter0 (SliceAt.mono hS72.le hs54) hs76 hx80) ?_
        rintro e85 w83 ⟨K82, rfl, hS84⟩
        refine ⟨_, rfl, ?_⟩
        have hS86 : SH _ _ _ _ _ [_, _, _] := SH.call0 hS78 hS84
        refine wl_val wn rfl (rv_not rfl) ?_
        refine wl_val wn rfl (rv_move rfl) ?_
        rcases bool_tf ((!r79)) with hb87 | hb87
        · have h88 := cond_t hb87 h81
          refine wl_un (ug rfl rfl hb87) rfl ?_
          refine wl_un (ug rfl rfl hb87) rfl ?_
          refine wl_un (ug rfl rfl hb87) rfl ?_
          refine wl_val wn rfl (rv_pick_t (v := .bool true) rfl hb87 rfl) ?_
          refine wl_val wn rfl (rv_move rfl) ?_
          refine wl_un (ug rfl rfl rfl) rfl ?_
          refine wl_un (ug rfl rfl rfl) rfl ?_
          refine wl_un (ug rfl rfl rfl) rfl ?_
          refine wl_val wn rfl (rv_pick_t (v := .bool true) rfl rfl rfl) ?_
          refine wl_nil ?_
          obtain rfl := Option.some.inj h88
          have hS89 : SH _ _ _ _ _ [] := SH.sublist hS86 (.cons _ (.cons _ (.cons _ .slnil)))
          exact qe_mid' ⟨K82, rfl, hS89, (hS72.le.trans hS84.le)⟩ ⟨rfl, rfl, rfl, rfl, trivial⟩
        · have h88 := cond_f hb87 h81
          refine wl_val (wg rfl rfl hb87) rfl (rv_move rfl) ?_
          obtain ⟨r90, hx91, h92⟩ := Option.bind_eq_some_iff.1 h88
          refine wl_call (wg rfl rfl hb87) rfl (rt_call (vs := [.slice a26 n27 c28]) co26 rfl) ((ok_impl_WordsUp F) hS86.enter0 (SliceAt.mono (((hS37.le.trans hS50.le).trans hS72.le).trans hS84.le) hs29) hx91) ?_
          rintro e96 w94 ⟨K93, rfl, hS95⟩
          refine ⟨_, rfl, ?_⟩
          have hS97 : SH _ _ _ _ _ [_, _, _] := SH.call0 hS86 hS95
          refine wl_val (wg rfl rfl hb87) rfl (rv_not rfl) ?_
          refine wl_val wn rfl (rv_pick_f rfl hb87 rfl) ?_
          refine wl_val wn rfl (rv_move rfl) ?_
          rcases bool_tf ((!r90)) with hb98 | hb98
          · have h99 := cond_t hb98 h92
            refine wl_un (ug rfl rfl hb98) rfl ?_
            refine wl_un (ug rfl rfl hb98) rfl ?_
            refine wl_un (ug rfl rfl hb98) rfl ?_
            refine wl_val wn rfl (rv_pick_t (v := .bool true) rfl hb98 rfl) ?_
            refine wl_nil ?_
            obtain rfl := Option.some.inj h99
            have hS100 : SH _ _ _ _ _ [] := SH.sublist hS97 (.cons _ (.cons _ (.cons _ .slnil)))
            exact qe_mid' ⟨K93, rfl, hS100, ((hS72.le.trans hS84.le).trans hS95.le)⟩ ⟨rfl, rfl, rfl, rfl, trivial⟩
          · have h99 := cond_f hb98 h92
            refine wl_val (wg rfl rfl hb98) rfl (rv_move rfl) ?_
            refine wl_val (wg rfl rfl hb98) rfl (rv_slen Try.underlying9 rfl) ?_
            refine wl_val (wg rfl rfl hb98) rfl (rv_geq rfl rfl) ?_
            refine wl_val wn rfl (rv_pick_f rfl hb98 rfl) ?_
            refine wl_nil ?_
            obtain rfl := Option.some.inj h99
            have hS101 : SH _ _ _ _ _ [] := SH.sublist hS97 (.cons _ (.cons _ (.cons _ .slnil)))
            exact qe_mid' ⟨K93, rfl, hS101, ((hS72.le.trans hS84.le).trans hS95.le)⟩ ⟨rfl, rfl, rfl, rfl, trivial⟩
      · rintro _ w62 ⟨K60, rfl, hS63, hl61⟩
        refine qe_seq ?_
        refine wc_cond rfl (fun hb102 => ?_) (fun hb102 => ?_)
        · have h103 := cond_t hb102 h59
          refine wc_seq ?_
          refine wc_region ?_
          refine wl_val wn rfl (rv_move rfl) ?_
          refine wl_val wn rfl (rv_move rfl) ?_
          refine wl_val wn rfl (rv_move rfl) ?_
          obtain ⟨x104, hx105, h106⟩ := Option.bind_eq_some_iff.1 h103
          refine wl_val wn rfl (rv_sadd (r := ([42] : Str)) rfl rfl hx105) ?_
          obtain ⟨r107, hx108, h109⟩ := Option.bind_eq_some_iff.1 h106
          refine wl_call wn rfl (rt_call (vs := [.slice a26 n27 c28, sv x104]) co25 rfl) ((ok_spec_GlobOf F) hS63.enter0 (SliceAt.mono ((hS37.le.trans hS50.le).trans hl61) hs29) (len_cat hx105) hx108) ?_
          rintro e117 w111 ⟨a113, n114, c115, K110, rfl, hS112, hs116⟩
          refine ⟨_, rfl, ?_⟩
          have hS118 : SH _ _ _ _ _ [_] := SH.call0 hS63 hS112
          obtain ⟨r119, hx120, h121⟩ := Option.bind_eq_some_iff.1 h109
          refine wl_call wn rfl (rt_call (vs := [.slice a51 n52 c53, .slice a113 n114 c115]) co24 rfl) ((ok_laws_foTexts F) hS118.enter0 (SliceAt.mono (hl61.trans hS112.le) hs54) hs116 hx120) ?_
          rintro e125 w123 ⟨K122, rfl, hS124⟩
          refine ⟨_, rfl, ?_⟩
          have hS126 : SH _ _ _ _ _ [_] := SH.call0 hS118 hS124
          refine wl_val wn rfl (rv_assign rfl) ?_
          refine wl_nil ?_
          refine qe_seq ?_
          refine wc_ret ?_
          refine qe_then_ret ?_
          obtain rfl := Option.some.inj h121
          have hS127 : SH _ _ _ _ _ [] := SH.sublist hS126 (.cons _ .slnil)
          exact qe_ret (vs := [_]) Try.results5 ⟨rfl, trivial⟩ ⟨K122, rfl, hS127⟩
        · have h103 := cond_f hb102 h59
          refine wc_skip ?_
          refine qe_seq ?_
          refine wc_seq ?_
          refine wc_region ?_
          refine wl_val wn rfl (rv_move rfl) ?_
          obtain ⟨r128, hx129, h130⟩ := Option.bind_eq_some_iff.1 h103
          refine wl_call wn rfl (rt_call (vs := [.slice a26 n27 c28]) co27 rfl) ((ok_impl_DawgOf F) hS63.enter0 (SliceAt.mono ((hS37.le.trans hS50.le).trans hl61) hs29) hx129) ?_
          rintro e138 w132 ⟨a134, n135, c136, K131, rfl, hS133, hs137⟩
          refine ⟨_, rfl, ?_⟩
          have hS139 : SH _ _ _ _ _ [_] := SH.call0 hS63 hS133
          refine wl_val wn rfl (rv_assign rfl) ?_
          refine wl_nil ?_
          refine qe_seq ?_
          refine wc_seq ?_
          refine wc_region ?_
          refine wl_buildSlice0 tStr wn rfl Try.underlying47 tf9 hS139 ?_
          intro a140 w141 K142 hl143 hs144 hS145
          refine wl_val wn rfl (rv_assign rfl) ?_
          refine wl_nil ?_
          refine qe_seq ?_
          refine wc_seq ?_
          refine wc_region ?_
          refine wl_val wn rfl (rv_move rfl) ?_
          refine wl_val wn rfl (rv_move rfl) ?_
          obtain ⟨r146, hx147, h148⟩ := Option.bind_eq_some_iff.1 h130
          refine wl_call wn rfl (rt_call (vs := [.slice a26 n27 c28, sv r32.1, .int .i64 0]) co28 rfl) ((ok_impl_NearOf F) hS145.enter0 (SliceAt.mono ((((hS37.le.trans hS50.le).trans hl61).trans hS133.le).trans hl143) hs29) hl38 (by decide : rng64 0) hx147) ?_
          rintro e156 w150 ⟨a152, n153, c154, K149, rfl, hS151, hs155⟩
          refine ⟨_, rfl, ?_⟩
          have hS157 : SH _ _ _ _ _ [_, _, _] := SH.call0 hS145 hS151
          refine wl_val wn rfl (rv_assign rfl) ?_
          refine wl_nil ?_
          refine qe_seq ?_
          refine wc_seq ?_
          refine wc_seq ?_
          refine wc_region ?_
          refine wl_val wn rfl (rv_move rfl) ?_
          refine wl_val wn rfl (rv_move rfl) ?_
          obtain ⟨r158, hx159, h160⟩ := Option.bind_eq_some_iff.1 h148
          refine wl_call wn rfl (rt_call (vs := [.slice a134 n135 c136, sv r32.1]) co29 rfl) ((ok_impl_DawgRank F) hS157.enter0 (SliceAt.mono (hl143.trans hS151.le) hs137) hl38 hx159) ?_
          rintro e165 w162 ⟨K161, rfl, hS163, hr164⟩
          refine ⟨_, rfl, ?_⟩
          have hS166 : SH _ _ _ _ _ [_, _, _] := SH.call0 hS157 hS163
          refine wl_val wn rfl (rv_geq rfl rfl) ?_
          refine wl_nil ?_
          refine qe_seq ?_
          obtain ⟨o167, h168, h169⟩ := Option.bind_eq_some_iff.1 h160
          refine wc_cutg (fun E' w' => ∃ (a174 : Option Addr) (n175 c176 : Nat) (K170 : KMap), E' = [(5, .slice a26 n27 c28), (6, sv r32.1), (8, .slice a51 n52 c53), (9, .slice a134 n135 c136), (10, .slice a174 n175 c176), (11, .slice a152 n153 c154)] ∧ SH w K [] w' K170 [tail (.slice a174 n175 c176) 9 1] ∧ KLe K161 K170 ∧ SliceAt tStr K170 a174 n175 c176 o167) ?_ ?_
          · refine wc_cond rfl (fun hb178 => ?_) (fun hb178 => ?_)
            · have h179 := cond_t hb178 h168
              refine wc_region ?_
              refine wl_val wn rfl (rv_move rfl) ?_
              refine wl_val wn rfl (rv_move rfl) ?_
              refine wl_buildSlice (t := tStr) (n := 1) (pv := [(0, sv r32.1)]) (cs := [sv r32.1]) (xs := [r32.1]) wn rfl Try.underlying47 tf9 rfl rfl rfl (by kernel_rfl) rfl rfl (lit_cons (u := sv r32.1) (z := r32.1) ⟨rfl, hl38⟩ lit_nil) hS166 ?_
              intro a180 w181 K182 hl183 hs184 hS185
              have hS186 : SH _ _ _ _ _ [_, _, _, _] := SH.front (p := [_, _]) hS185
              obtain ⟨x187, hx188, h189⟩ := Option.bind_eq_some_iff.1 h179
              refine wl_append (t := tStr) wn rfl Try.underlying47 tf9 rfl rfl rfl rfl rfl (SliceAt.mono ((hS151.le.trans hS163.le).trans hl183) hs144) hs184 hx188 hS186 ?_
              intro a190 n191 c192 w193 K194 hl195 hs196 hS197
              refine wl_val wn rfl (rv_assign rfl) ?_
              refine wl_nil ?_
              obtain rfl := Option.some.inj h189
              have hS198 : SH _ _ _ _ _ [_] := SH.sublist hS197 (.cons_cons _ (.cons _ (.cons _ (.cons _ .slnil))))
              exact qe_mid' ⟨a190, n191, c192, K194, rfl, hS198, (hl183.trans hl195), hs196⟩ ⟨rfl, rfl, rfl, rfl, rfl, rfl, trivial⟩
            · have h179 := cond_f hb178 h168
              refine wc_skip ?_
              obtain rfl := Option.some.inj h179
              have hS199 : SH _ _ _ _ _ [_] := SH.sublist hS166 (.cons _ (.cons_cons _ (.cons _ .slnil)))
              exact qe_mid' ⟨a140, 0, 0, K161, rfl, hS199, (KLe.refl _), (SliceAt.mono (hS151.le.trans hS163.le) hs144)⟩ ⟨rfl, rfl, rfl, rfl, rfl, rfl, trivial⟩
          · rintro _ w172 ⟨a174, n175, c176, K170, rfl, hS173, hl171, hs177⟩
            refine qe_seq ?_
            refine wc_seq ?_
            refine wc_region ?_
            refine wl_val wn rfl (rv_move rfl) ?_
            refine wl_val wn rfl (rv_move rfl) ?_
            refine wl_val wn rfl (rv_move rfl) ?_
            obtain ⟨r200, hx201, h202⟩ := Option.bind_eq_some_iff.1 h169
            refine wl_call wn rfl (rt_call (vs := [.slice a134 n135 c136, sv r32.1]) co30 rfl) ((ok_impl_DawgHead F) hS173.enter0 (SliceAt.mono (((hl143.trans hS151.le).trans hS163.le).trans hl171) hs137) hl38 hx201) ?_
            rintro e210 w204 ⟨a206, n207, c208, K203, rfl, hS205, hs209⟩
            refine ⟨_, rfl, ?_⟩
            have hS211 : SH _ _ _ _ _ [_, _] := SH.call0 hS173 hS205
            obtain ⟨r212, hx213, h214⟩ := Option.bind_eq_some_iff.1 h202
            refine wl_call wn rfl (rt_call (vs := [.slice a51 n52 c53, .slice a206 n207 c208]) co24 rfl) ((ok_laws_foTexts F) hS211.enter0 (SliceAt.mono ((((((hl61.trans hS133.le).trans hl143).trans hS151.le).trans hS163.le).trans hl171).trans hS205.le) hs54) hs209 hx213) ?_
            rintro e218 w216 ⟨K215, rfl, hS217⟩
            refine ⟨_, rfl, ?_⟩
            have hS219 : SH _ _ _ _ _ [_, _] := SH.call0 hS211 hS217
            refine wl_val wn rfl (rv_move rfl) ?_
            rcases bool_tf (r212) with hb220 | hb220
            · have h221 := cond_t hb220 h214
              refine wl_val (wg rfl rfl hb220) rfl (rv_move rfl) ?_
              refine wl_val (wg rfl rfl hb220) rfl (rv_move rfl) ?_
              obtain ⟨r222, hx223, h224⟩ := Option.bind_eq_some_iff.1 h221
              refine wl_call (wg rfl rfl hb220) rfl (rt_call (vs := [.slice a152 n153 c154, .slice a174 n175 c176]) co24 rfl) ((ok_laws_foTexts F) hS219.enter0 (SliceAt.mono (((hS163.le.trans hl171).trans hS205.le).trans hS217.le) hs155) (SliceAt.mono (hS205.le.trans hS217.le) hs177) hx223) ?_
              rintro e228 w226 ⟨K225, rfl, hS227⟩
              refine ⟨_, rfl, ?_⟩
              have hS229 : SH _ _ _ _ _ [_, _] := SH.call0 hS219 hS227
              refine wl_val wn rfl (rv_pick_t rfl hb220 rfl) ?_
              refine wl_val wn rfl (rv_move rfl) ?_
              rcases bool_tf (r222) with hb230 | hb230
              · have h231 := cond_t hb230 h224
                refine wl_val (wg rfl rfl hb230) rfl (rv_move rfl) ?_
                obtain ⟨r232, hx233, h234⟩ := Option.bind_eq_some_iff.1 h231
                refine wl_call (wg rfl rfl hb230) rfl (rt_call (vs := [.slice a26 n27 c28, sv [42]]) co23 rfl) ((ok_impl_GlobOf F) hS229.enter0 (SliceAt.mono ((((((((((hS37.le.trans hS50.le).trans hl61).trans hS133.le).trans hl143).trans hS151.le).trans hS163.le).trans hl171).trans hS205.le).trans hS217.le).trans hS227.le) hs29) (by decide : ([42] : Str).length ≤ maxLen) hx233) ?_
                rintro e242 w236 ⟨a238, n239, c240, K235, rfl, hS237, hs241⟩
                refine ⟨_, rfl, ?_⟩
                have hS243 : SH _ _ _ _ _ [_, _, _] := SH.call0 hS229 hS237
                refine wl_val (wg rfl rfl hb230) rfl (rv_move rfl) ?_
                obtain ⟨r244, hx245, h246⟩ := Option.bind_eq_some_iff.1 h234
                refine wl_call (wg rfl rfl hb230) rfl (rt_call (vs := [.slice a238 n239 c240, .slice a26 n27 c28]) co24 rfl) ((ok_laws_foTexts F) hS243.enter0 hs241 (SliceAt.mono (((((((((((hS37.le.trans hS50.le).trans hl61).trans hS133.le).trans hl143).trans hS151.le).trans hS163.le).trans hl171).trans hS205.le).trans hS217.le).trans hS227.le).trans hS237.le) hs29) hx245) ?_
                rintro e250 w248 ⟨K247, rfl, hS249⟩
                refine ⟨_, rfl, ?_⟩
                have hS251 : SH _ _ _ _ _ [_, _, _] := SH.call0 hS243 hS249
                refine wl_val wn rfl (rv_pick_t rfl hb230 rfl) ?_
                refine wl_val wn rfl (rv_assign rfl) ?_
                refine wl_nil ?_
                refine qe_seq ?_
                refine wc_ret ?_
                obtain rfl := Option.some.inj h246
                have hS252 : SH _ _ _ _ _ [] := SH.sublist hS251 (.cons _ (.cons _ (.cons _ .slnil)))
                exact qe_ret (vs := [_]) Try.results5 ⟨rfl, trivial⟩ ⟨K247, rfl, hS252⟩
              · have h231 := cond_f hb230 h224
                refine wl_un (ug rfl rfl hb230) rfl ?_
                refine wl_un (ug rfl rfl hb230) rfl ?_
                refine wl_un (ug rfl rfl hb230) rfl ?_
                refine wl_un (ug rfl rfl hb230) rfl ?_
                refine wl_val wn rfl (rv_pick_f (v := .bool false) rfl hb230 rfl) ?_
                refine wl_val wn rfl (rv_assign rfl) ?_
                refine wl_nil ?_
                refine qe_seq ?_
                refine wc_ret ?_
                obtain rfl := Option.some.inj h231
                have hS253 : SH _ _ _ _ _ [] := SH.sublist hS229 (.cons _ (.cons _ .slnil))
                exact qe_ret (vs := [_]) Try.results5 ⟨rfl, trivial⟩ ⟨K225, rfl, hS253⟩
            · have h221 := cond_f hb220 h214
              refine wl_un (ug rfl rfl hb220) rfl ?_
              refine wl_un (ug rfl rfl hb220) rfl ?_
              refine wl_un (ug rfl rfl hb220) rfl ?_
              refine wl_val wn rfl (rv_pick_f (v := .bool false) rfl hb220 rfl) ?_
              refine wl_val wn rfl (rv_move rfl) ?_
              refine wl_un (ug rfl rfl rfl) rfl ?_
              refine wl_un (ug rfl rfl rfl) rfl ?_
              refine wl_un (ug rfl rfl rfl) rfl ?_
              refine wl_un (ug rfl rfl rfl) rfl ?_
              refine wl_val wn rfl (rv_pick_f (v := .bool false) rfl rfl rfl) ?_
              refine wl_val wn rfl (rv_assign rfl) ?_
              refine wl_nil ?_
              refine qe_seq ?_
              refine wc_ret ?_
              obtain rfl := Option.some.inj h221
              have hS254 : SH _ _ _ _ _ [] := SH.sublist hS219 (.cons _ (.cons _ .slnil))
              exact qe_ret (vs := [_]) Try.results5 ⟨rfl, trivial⟩ ⟨K215, rfl, hS254⟩
end Go.Proofs.Ytajfhpaokbgmeaa
