/-
  Walks of the functions. Printed by gen.py.
-/
import Derived.Test.YtdopcpaapniioaaWalkA2
set_option linter.unusedVariables false
namespace Go.Proofs.Ytdopcpaapniioaa
open Go Go.Fk Go.RowKit

theorem ok_spec_DawgOf (F : Nat) {w : World} {K : KMap} {a1 : Option Addr} {n2 c3 : Nat} {p0_words : List Str} {r : (List GState)} (hS : SH w K [] w K []) (hs4 : SliceAt tStr K a1 n2 c3 p0_words) (hm : M.spec_DawgOf F p0_words = some r) :
    Calls Try.prog 21 #[.slice a1 n2 c3] w fun e w' => ∃ (a_1 : Option Addr) (n_2 c_3 : Nat) (K' : KMap), e = .returned (.slice a_1 n_2 c_3) ∧ SH w K [] w' K' [tail (.slice a_1 n_2 c_3) 33 3] ∧ SliceAt tGState K' a_1 n_2 c_3 r := by
  rw [M.spec_DawgOf] at hm
  refine calls_in Try.func21 rfl Try.ntmps21 rfl ?_
  refine wc_seq ?_
  refine wc_region ?_
  refine wl_val wn rfl (rv_assign (v := .slice none 0 0) rfl) ?_
  refine wl_nil ?_
  refine qe_seq ?_
  refine wc_seq ?_
  refine wc_seq ?_
  refine wc_region ?_
  refine wl_val wn rfl (rv_move rfl) ?_
  obtain ⟨r5, hx6, h7⟩ := Option.bind_eq_some_iff.1 hm
  refine wl_call wn rfl (rt_call (vs := [.slice a1 n2 c3]) co54 rfl) ((ok_spec_l4Sorted F) hS.enter0 hs4 hx6) ?_
  rintro e11 w9 ⟨K8, rfl, hS10⟩
  refine ⟨_, rfl, ?_⟩
  have hS12 : SH _ _ _ _ _ [] := SH.call0 hS hS10
  refine wl_val wn rfl (rv_not rfl) ?_
  refine wl_nil ?_
  refine qe_seq ?_
  refine wc_cond rfl (fun hb13 => ?_) (fun hb13 => ?_)
  · have h14 := cond_t hb13 h7
    refine wc_seq ?_
    refine wc_region ?_
    refine wl_val wn rfl (rv_assign (v := .slice none 0 0) rfl) ?_
    refine wl_nil ?_
    refine qe_seq ?_
    refine wc_ret ?_
    refine qe_then_ret ?_
    obtain rfl := Option.some.inj h14
    have hS15 := SH.nil hS12 33 3
    exact qe_ret (vs := [_]) Try.results21 ⟨rfl, trivial⟩ ⟨none, 0, 0, K8, rfl, hS15, (SliceAt.nil _ _)⟩
  · have h14 := cond_f hb13 h7
    refine wc_skip ?_
    refine qe_seq ?_
    refine wc_seq ?_
    refine wc_region ?_
    refine wl_val wn rfl (rv_move rfl) ?_
    obtain ⟨r16, hx17, h18⟩ := Option.bind_eq_some_iff.1 h14
    have hS19 := SH.nil hS12 33 3
    refine wl_call wn rfl (rt_call (vs := [.slice none 0 0, .slice a1 n2 c3, .int .i64 0]) co55 rfl) ((ok_spec_l4Build F) (SH.enter (Lin := [_]) hS19) (SliceAt.nil _ _) (SliceAt.mono hS10.le hs4) (by decide : rng64 0) hx17) ?_
    rintro e28 w21 ⟨a23, n24, c25, K20, rfl, hS22, hs26, hr27⟩
    refine ⟨_, rfl, ?_⟩
    have hS29 : SH _ _ _ _ _ [_] := SH.call (Lin := [_]) hS19 hS22
    refine wl_val wn rfl (rv_move rfl) ?_
    refine wl_val wn rfl (rv_extract rfl rfl) ?_
    refine wl_val wn rfl (rv_extract rfl rfl) ?_
    refine wl_val wn rfl (rv_assign rfl) ?_
    refine wl_val wn rfl (rv_assign rfl) ?_
    refine wl_nil ?_
    refine qe_seq ?_
    refine wc_seq ?_
    refine wc_region ?_
    refine wl_val wn rfl (rv_move rfl) ?_
    refine wl_val wn rfl (rv_assign rfl) ?_
    refine wl_nil ?_
    refine qe_seq ?_
    refine wc_ret ?_
    obtain rfl := Option.some.inj h18
    exact qe_ret (vs := [_]) Try.results21 ⟨rfl, trivial⟩ ⟨a23, n24, c25, K20, rfl, hS29, hs26⟩

theorem ok_laws_FnDawgLeast (F : Nat) {w : World} {K : KMap} {a1 : Option Addr} {n2 c3 : Nat} {p0_code : List UInt8} {r : Bool} (hS : SH w K [] w K []) (hs4 : SliceAt tU8 K a1 n2 c3 p0_code) (hm : M.laws_FnDawgLeast F p0_code = some r) :
    Calls Try.prog 4 #[.slice a1 n2 c3] w fun e w' => ∃ (K' : KMap), e = .returned (.bool r) ∧ SH w K [] w' K' [] := by
  rw [M.laws_FnDawgLeast] at hm
  refine calls_in Try.func4 rfl Try.ntmps4 rfl ?_
  refine wc_seq ?_
  refine wc_region ?_
  refine wl_val wn rfl (rv_assign (v := .bool false) rfl) ?_
  refine wl_nil ?_
  refine qe_seq ?_
  refine wc_seq ?_
  refine wc_seq ?_
  refine wc_region ?_
  refine wl_val wn rfl (rv_move rfl) ?_
  refine wl_val wn rfl (rv_len (t := tU8) Try.underlying22 rfl hs4) ?_
  refine wl_val wn rfl (rv_gtr rfl rfl) ?_
  refine wl_nil ?_
  refine qe_seq ?_
  refine wc_cond rfl (fun hb5 => ?_) (fun hb5 => ?_)
  · have h6 := cond_t hb5 hm
    refine wc_seq ?_
    refine wc_region ?_
    refine wl_val wn rfl (rv_assign (v := .bool true) rfl) ?_
    refine wl_nil ?_
    refine qe_seq ?_
    refine wc_ret ?_
    refine qe_then_ret ?_
    obtain rfl := Option.some.inj h6
    exact qe_ret (vs := [_]) Try.results4 ⟨rfl, trivial⟩ ⟨K, rfl, hS⟩
  · have h6 := cond_f hb5 hm
    refine wc_skip ?_
    refine qe_seq ?_
    refine wc_seq ?_
    refine wc_region ?_
    refine wl_val wn rfl (rv_move rfl) ?_
    obtain ⟨r7, hx8, h9⟩ := Option.bind_eq_some_iff.1 h6
    refine wl_call wn rfl (rt_call (vs := [.slice a1 n2 c3]) co18 rfl) ((ok_spec_DrawDawgOf F) hS.enter0 hs4 hx8) ?_
    rintro e17 w11 ⟨a13, n14, c15, K10, rfl, hS12, hs16⟩
    refine ⟨_, rfl, ?_⟩
    have hS18 : SH _ _ _ _ _ [_] := SH.call0 hS hS12
    refine wl_val wn rfl (rv_assign rfl) ?_
    refine wl_nil ?_
    refine qe_seq ?_
    refine wc_seq ?_
    refine wc_region ?_
    refine wl_val wn rfl (rv_move rfl) ?_
    obtain ⟨r19, hx20, h21⟩ := Option.bind_eq_some_iff.1 h9
    refine wl_call wn rfl (rt_call (vs := [.slice a13 n14 c15]) co19 rfl) ((ok_impl_DawgOf F) hS18.enter0 hs16 hx20) ?_
    rintro e29 w23 ⟨a25, n26, c27, K22, rfl, hS24, hs28⟩
    refine ⟨_, rfl, ?_⟩
    have hS30 : SH _ _ _ _ _ [_, _] := SH.call0 hS18 hS24
    refine wl_val wn rfl (rv_assign rfl) ?_
    refine wl_nil ?_
    refine qe_seq ?_
    refine wc_seq ?_
    refine wc_seq ?_
    refine wc_region ?_
    refine wl_val wn rfl (rv_move rfl) ?_
    refine wl_val wn rfl (rv_move rfl) ?_
    obtain ⟨r31, hx32, h33⟩ := Option.bind_eq_some_iff.1 h21
    refine wl_call wn rfl (rt_call (vs := [.slice a13 n14 c15]) co21 rfl) ((ok_spec_DawgOf F) hS30.enter0 (SliceAt.mono hS24.le hs16) hx32) ?_
    rintro e41 w35 ⟨a37, n38, c39, K34, rfl, hS36, hs40⟩
    refine ⟨_, rfl, ?_⟩
    have hS42 : SH _ _ _ _ _ [_, _, _] := SH.call0 hS30 hS36
    obtain ⟨r43, hx44, h45⟩ := Option.bind_eq_some_iff.1 h33
    refine wl_call wn rfl (rt_call (vs := [.slice a25 n26 c27, .slice a37 n38 c39]) co20 rfl) ((ok_laws_foStates F) hS42.enter0 (SliceAt.mono hS36.le hs28) hs40 hx44) ?_
    rintro e49 w47 ⟨K46, rfl, hS48⟩
    refine ⟨_, rfl, ?_⟩
    have hS50 : SH _ _ _ _ _ [_, _, _] := SH.call0 hS42 hS48
    refine wl_val wn rfl (rv_not rfl) ?_
    refine wl_nil ?_
    refine qe_seq ?_
    refine wc_cond rfl (fun hb51 => ?_) (fun hb51 => ?_)
    · have h52 := cond_t hb51 h45
      refine wc_seq ?_
      refine wc_region ?_
      refine wl_val wn rfl (rv_assign (v := .bool false) rfl) ?_
      refine wl_nil ?_
      refine qe_seq ?_
      refine wc_ret ?_
      refine qe_then_ret ?_
      obtain rfl := Option.some.inj h52
      have hS53 : SH _ _ _ _ _ [] := SH.sublist hS50 (.cons _ (.cons _ (.cons _ .slnil)))
      exact qe_ret (vs := [_]) Try.results4 ⟨rfl, trivial⟩ ⟨K46, rfl, hS53⟩
    · have h52 := cond_f hb51 h45
      refine wc_skip ?_
      refine qe_seq ?_
      refine wc_seq ?_
      refine wc_seq ?_
      refine wc_region ?_
      refine wl_val wn rfl (rv_assign (v := .int .i64 0) rfl) ?_
      refine wl_nil ?_
      refine qe_seq ?_
      obtain ⟨o54, h55, h56⟩ := Option.bind_eq_some_iff.1 h52
      refine wc_cutg (fun E' w' => ∃ (s57 : Unit) (K58 : KMap), o54 = .inl s57 ∧ E' = [] ∧ SH w K [] w' K58 [] ∧ KLe K46 K58) ?_ ?_
      · refine wc_block ?_
        obtain ⟨r63, h64, h65⟩ := Option.bind_eq_some_iff.1 h55
        have hS71 : SH _ _ _ _ _ [] := SH.sublist hS50 (.cons _ (.cons _ (.cons _ .slnil)))
        refine wc_while' (fun (s62 : Int) E' w' => ∃ (K66 : KMap), E' = [(4, .slice a25 n26 c27), (5, .int .i64 s62)] ∧ SH w K [] w' K66 [] ∧ KLe K46 K66 ∧ rng64 s62) h64 ⟨K46, rfl, hS71, (KLe.refl _), (by decide : rng64 0)⟩ ⟨rfl, rfl, trivial⟩ ?_
        rintro s62 _ w68 r72 h73 hx74 ⟨K66, rfl, hS69, hl67, hr70⟩
        refine wc_seq ?_
        refine wc_seq ?_
        refine wc_region ?_
        refine wl_val wn rfl (rv_move rfl) ?_
        refine wl_val wn rfl (rv_move rfl) ?_
        refine wl_val wn rfl (rv_len (t := tGState) Try.underlying28 rfl (SliceAt.mono ((hS36.le.trans hS48.le).trans hl67) hs28)) ?_
        refine wl_val wn rfl (rv_lss rfl rfl) ?_
        refine wl_nil ?_
        refine qe_seq ?_
        refine wc_cond rfl (fun hb75 => ?_) (fun hb75 => ?_)
        · have h76 := cond_t hb75 h73
          refine wc_skip ?_
          refine qe_seq ?_
          refine wc_seq ?_
          refine wc_block ?_
          refine wc_seq ?_
          refine wc_seq ?_
          refine wc_region ?_
          refine wl_val wn rfl (rv_assign (v := .int .i64 0) rfl) ?_
          refine wl_nil ?_
          refine qe_seq ?_
          obtain ⟨o77, h78, h79⟩ := Option.bind_eq_some_iff.1 h76
          refine wc_cutg (fun E' w' => ∃ (s80 : Unit) (K81 : KMap), o77 = .inl s80 ∧ E' = [(4, .slice a25 n26 c27), (5, .int .i64 s62)] ∧ SH w K [] w' K81 [] ∧ KLe K66 K81) ?_ ?_
          · refine wc_block ?_
            obtain ⟨r86, h87, h88⟩ := Option.bind_eq_some_iff.1 h78
            refine wc_while' (fun (s85 : Int) E' w' => ∃ (K89 : KMap), E' = [(4, .slice a25 n26 c27), (5, .int .i64 s62), (6, .int .i64 s85)] ∧ SH w K [] w' K89 [] ∧ KLe K66 K89 ∧ rng64 s85) h87 ⟨K66, rfl, hS69, (KLe.refl _), (by decide : rng64 0)⟩ ⟨rfl, rfl, rfl, trivial⟩ ?_
            rintro s85 _ w91 r94 h95 hx96 ⟨K89, rfl, hS92, hl90, hr93⟩
            refine wc_seq ?_
            refine wc_seq ?_
            refine wc_region ?_
            refine wl_val wn rfl (rv_move rfl) ?_
            refine wl_val wn rfl (rv_move rfl) ?_
            refine wl_val wn rfl (rv_move rfl) ?_
            obtain ⟨x97, hx98, h99⟩ := Option.bind_eq_some_iff.1 h95
            refine wl_indexAddr (t := tGState) wn rfl Try.underlying28 tf33 rfl rfl (SliceAt.mono (((hS36.le.trans hS48.le).trans hl67).trans hl90) hs28) hx98 ?_
            intro b100 o101 u102 hu103 ha104
            obtain ⟨a106, n107, c108, rfl, hr105, hs109⟩ := hu103
            have ha110 : AtK _ b100 o101 [.bool x97.Final, .int .i64 x97.Many, .slice a106 n107 c108] := ha104
            refine wl_val wn rfl (rv_fieldAddr ff33_2 rfl) ?_
            refine wl_val wn rfl (rv_load1 tf31 rfl hS92 (ha110 2 _ rfl)) ?_
            refine wl_val wn rfl (rv_len (t := tGArc) Try.underlying31 rfl hs109) ?_
            refine wl_val wn rfl (rv_lss rfl rfl) ?_
            refine wl_nil ?_
            refine qe_seq ?_
            refine wc_cond rfl (fun hb111 => ?_) (fun hb111 => ?_)
            · have h112 := cond_t hb111 h99
              refine wc_skip ?_
              refine qe_seq ?_
              refine wc_seq ?_
              refine wc_block ?_
              refine wc_seq ?_
              obtain ⟨o113, h114, h115⟩ := Option.bind_eq_some_iff.1 h112
              refine wc_cutg (fun E' w' => ∃ (K116 : KMap), E' = [(4, .slice a25 n26 c27), (5, .int .i64 s62), (6, .int .i64 s85), (72, .bool o113)] ∧ SH w K [] w' K116 [] ∧ KLe K89 K116) ?_ ?_
              · refine wc_quiet mixed (by kernel_rfl) hS92 ?_
                refine wq_val wn rfl (fun _ _ => (rv_move rfl)) ?_
                refine wq_val wn rfl (fun _ _ => (rv_move rfl)) ?_
                obtain ⟨x120, hx121, h122⟩ := Option.bind_eq_some_iff.1 h114
                refine wq_indexAddr (t := tGState) wn rfl Try.underlying28 tf33 rfl rfl (SliceAt.mono (((hS36.le.trans hS48.le).trans hl67).trans hl90) hs28) hx121 ?_
                intro b123 o124 u125 hu126 ha127
                obtain ⟨a129, n130, c131, rfl, hr128, hs132⟩ := hu126
                have ha133 : AtK _ b123 o124 [.bool x120.Final, .int .i64 x120.Many, .slice a129 n130 c131] := ha127
                refine wq_val wn rfl (fun _ _ => (rv_fieldAddr ff33_2 rfl)) ?_
                refine wq_val wn rfl (rq_load1 tf31 rfl (ha133 2 _ rfl)) ?_
                refine wq_val wn rfl (fun _ _ => (rv_move rfl)) ?_
                obtain ⟨x134, hx135, h136⟩ := Option.bind_eq_some_iff.1 h122
                refine wq_indexAddr (t := tGArc) wn rfl Try.underlying31 tf35 rfl rfl hs132 hx135 ?_
                intro b137 o138 u139 hu140 ha141
                obtain ⟨rfl, hr142⟩ := hu140
                have ha143 : AtK _ b137 o138 [iv8 x134.Byte, .int .i64 x134.To] := ha141
                refine wq_val wn rfl (fun _ _ => (rv_fieldAddr ff35_1 rfl)) ?_
                refine wq_val wn rfl (rq_load1 tf3 rfl (ha143 1 _ rfl)) ?_
                refine wq_val wn rfl (fun _ _ => (rv_move rfl)) ?_
                refine wq_val wn rfl (fun _ _ => (rv_geq rfl rfl)) ?_
                refine wq_val wn rfl (fun _ _ => (rv_move rfl)) ?_
                rcases bool_tf (decide (s62 ≤ x134.To)) with hb144 | hb144
                · have h145 := cond_t hb144 h136
                  refine wq_un (ug rfl rfl hb144) rfl ?_
                  refine wq_un (ug rfl rfl hb144) rfl ?_
                  refine wq_un (ug rfl rfl hb144) rfl ?_
                  refine wq_un (uu rfl rfl) rfl ?_
                  refine wq_un (uu rfl rfl) rfl ?_
                  refine wq_un (uu rfl rfl) rfl ?_
                  refine wq_un (uu rfl rfl) rfl ?_
                  refine wq_un (uu rfl rfl) rfl ?_
                  refine wq_un (uu rfl rfl) rfl ?_
                  refine wq_un (uu rfl rfl) rfl ?_
                  refine wq_un (uu rfl rfl) rfl ?_
                  refine wq_un (uu rfl rfl) rfl ?_
                  refine wq_un (uu rfl rfl) rfl ?_
                  refine wq_un (uu rfl rfl) rfl ?_
                  refine wq_un (uu rfl rfl) rfl ?_
                  refine wq_un (uu rfl rfl) rfl ?_
                  refine wq_un (uu rfl rfl) rfl ?_
                  refine wq_un (uu rfl rfl) rfl ?_
                  refine wq_un (uu rfl rfl) rfl ?_
                  refine wq_un (uu rfl rfl) rfl ?_
                  refine wq_un (uu rfl rfl) rfl ?_
                  refine wq_un (uu rfl rfl) rfl ?_
                  refine wq_un (uu rfl rfl) rfl ?_
                  refine wq_un (ug rfl rfl hb144) rfl ?_
                  refine wq_val wn rfl (fun _ _ => (rv_pick_t (v := .bool true) rfl hb144 rfl)) ?_
                  refine wq_nil ?_
                  rintro w147 ⟨K146, hS148, hl149⟩
                  obtain rfl := Option.some.inj h145
                  exact qe_mid' ⟨K146, rfl, hS148, hl149⟩ ⟨rfl, rfl, rfl, rfl, trivial⟩
                · have h145 := cond_f hb144 h136
                  refine wq_val (wg rfl rfl hb144) rfl (fun _ _ => (rv_move rfl)) ?_
                  refine wq_val (wg rfl rfl hb144) rfl (fun _ _ => (rv_gtr rfl rfl)) ?_
                  refine wq_val (wg rfl rfl hb144) rfl (fun _ _ => (rv_move rfl)) ?_
                  rcases bool_tf (decide ((0 : Int) < s85)) with hb150 | hb150
                  · have h151 := cond_t hb150 h145
                    refine wq_val (wg rfl rfl hb150) rfl (fun _ _ => (rv_move rfl)) ?_
                    refine wq_val (wg rfl rfl hb150) rfl (fun _ _ => (rv_move rfl)) ?_
                    obtain ⟨x152, hx153, h154⟩ := Option.bind_eq_some_iff.1 h151
                    refine wq_indexAddr (t := tGState) (wg rfl rfl hb150) rfl Try.underlying28 tf33 rfl rfl (SliceAt.mono (((hS36.le.trans hS48.le).trans hl67).trans hl90) hs28) hx153 ?_
                    intro b155 o156 u157 hu158 ha159
                    obtain ⟨a161, n162, c163, rfl, hr160, hs164⟩ := hu158
                    have ha165 : AtK _ b155 o156 [.bool x152.Final, .int .i64 x152.Many, .slice a161 n162 c163] := ha159
                    refine wq_val (wg rfl rfl hb150) rfl (fun _ _ => (rv_fieldAddr ff33_2 rfl)) ?_
                    refine wq_val (wg rfl rfl hb150) rfl (rq_load1 tf31 rfl (ha165 2 _ rfl)) ?_
                    refine wq_val (wg rfl rfl hb150) rfl (fun _ _ => (rv_move rfl)) ?_
                    obtain ⟨x166, hx167, h168⟩ := Option.bind_eq_some_iff.1 h154
                    refine wq_indexAddr (t := tGArc) (wg rfl rfl hb150) rfl Try.underlying31 tf35 rfl rfl hs164 hx167 ?_
                    intro b169 o170 u171 hu172 ha173
                    obtain ⟨rfl, hr174⟩ := hu172
                    have ha175 : AtK _ b169 o170 [iv8 x166.Byte, .int .i64 x166.To] := ha173
                    refine wq_val (wg rfl rfl hb150) rfl (fun _ _ => (rv_fieldAddr ff35_0 rfl)) ?_
                    refine wq_val (wg rfl rfl hb150) rfl (rq_load1 tf5 rfl (ha175 0 _ rfl)) ?_
                    refine wq_val (wg rfl rfl hb150) rfl (fun _ _ => (rv_move rfl)) ?_
                    refine wq_val (wg rfl rfl hb150) rfl (fun _ _ => (rv_move rfl)) ?_
                    obtain ⟨x176, hx177, h178⟩ := Option.bind_eq_some_iff.1 h168
                    refine wq_indexAddr (t := tGState) (wg rfl rfl hb150) rfl Try.underlying28 tf33 rfl rfl (SliceAt.mono (((hS36.le.trans hS48.le).trans hl67).trans hl90) hs28) hx177 ?_
                    intro b179 o180 u181 hu182 ha183
                    obtain ⟨a185, n186, c187, rfl, hr184, hs188⟩ := hu182
                    have ha189 : AtK _ b179 o180 [.bool x176.Final, .int .i64 x176.Many, .slice a185 n186 c187] := ha183
                    refine wq_val (wg rfl rfl hb150) rfl (fun _ _ => (rv_fieldAddr ff33_2 rfl)) ?_
                    refine wq_val (wg rfl rfl hb150) rfl (rq_load1 tf31 rfl (ha189 2 _ rfl)) ?_
                    refine wq_val (wg rfl rfl hb150) rfl (fun _ _ => (rv_move rfl)) ?_
                    refine wq_val (wg rfl rfl hb150) rfl (fun _ _ => (rv_sub rfl rfl)) ?_
                    obtain ⟨x190, hx191, h192⟩ := Option.bind_eq_some_iff.1 h178
                    refine wq_indexAddr (t := tGArc) (wg rfl rfl hb150) rfl Try.underlying31 tf35 rfl rfl hs188 hx191 ?_
                    intro b193 o194 u195 hu196 ha197
                    obtain ⟨rfl, hr198⟩ := hu196
                    have ha199 : AtK _ b193 o194 [iv8 x190.Byte, .int .i64 x190.To] := ha197
                    refine wq_val (wg rfl rfl hb150) rfl (fun _ _ => (rv_fieldAddr ff35_0 rfl)) ?_
                    refine wq_val (wg rfl rfl hb150) rfl (rq_load1 tf5 rfl (ha199 0 _ rfl)) ?_
                    refine wq_val (wg rfl rfl hb150) rfl (fun _ _ => (rv_ble rfl rfl)) ?_
                    refine wq_val (wg rfl rfl hb144) rfl (fun _ _ => (rv_pick_t rfl hb150 rfl)) ?_
                    refine wq_val wn rfl (fun _ _ => (rv_pick_f rfl hb144 rfl)) ?_
                    refine wq_nil ?_
                    rintro w201 ⟨K200, hS202, hl203⟩
                    obtain rfl := Option.some.inj h192
                    exact qe_mid' ⟨K200, rfl, hS202, hl203⟩ ⟨rfl, rfl, rfl, rfl, trivial⟩
                  · have h151 := cond_f hb150 h145
                    refine wq_un (ug rfl rfl hb150) rfl ?_
                    refine wq_un (ug rfl rfl hb150) rfl ?_
                    refine wq_un (ug rfl rfl hb150) rfl ?_
                    refine wq_un (ug rfl rfl hb150) rfl ?_
                    refine wq_un (ug rfl rfl hb150) rfl ?_
                    refine wq_un (ug rfl rfl hb150) rfl ?_
                    refine wq_un (ug rfl rfl hb150) rfl ?_
                    refine wq_un (ug rfl rfl hb150) rfl ?_
                    refine wq_un (ug rfl rfl hb150) rfl ?_
                    refine wq_un (ug rfl rfl hb150) rfl ?_
                    refine wq_un (ug rfl rfl hb150) rfl ?_
                    refine wq_un (ug rfl rfl hb150) rfl ?_
                    refine wq_un (ug rfl rfl hb150) rfl ?_
                    refine wq_un (ug rfl rfl hb150) rfl ?_
                    refine wq_un (ug rfl rfl hb150) rfl ?_
                    refine wq_un (ug rfl rfl hb150) rfl ?_
                    refine wq_un (ug rfl rfl hb150) rfl ?_
                    refine wq_un (ug rfl rfl hb150) rfl ?_
                    refine wq_un (ug rfl rfl hb150) rfl ?_
                    refine wq_un (ug rfl rfl hb150) rfl ?_
                    refine wq_val (wg rfl rfl hb144) rfl (fun _ _ => (rv_pick_f (v := .bool false) rfl hb150 rfl)) ?_
                    refine wq_val wn rfl (fun _ _ => (rv_pick_f rfl hb144 rfl)) ?_
                    refine wq_nil ?_
                    rintro w205 ⟨K204, hS206, hl207⟩
                    obtain rfl := Option.some.inj h151
                    exact qe_mid' ⟨K204, rfl, hS206, hl207⟩ ⟨rfl, rfl, rfl, rfl, trivial⟩
              · rintro _ w118 ⟨K116, rfl, hS119, hl117⟩
                refine qe_seq ?_
                refine wc_cond rfl (fun hb208 => ?_) (fun hb208 => ?_)
                · have h209 := cond_t hb208 h115
                  refine wc_seq ?_
                  refine wc_region ?_
                  refine wl_val wn rfl (rv_assign (v := .bool false) rfl) ?_
                  refine wl_nil ?_
                  refine qe_seq ?_
                  refine wc_ret ?_
                  refine qe_block_ret ?_
                  refine qe_then_ret ?_
                  refine qe_then_ret ?_
                  obtain rfl := Option.some.inj h209
                  have e210 := hx96 _ rfl
                  subst e210
                  refine qe_block_ret ?_
                  refine qe_then_ret ?_
                  obtain rfl := Option.some.inj h88
                  refine qe_then_ret ?_
                  refine qe_block_ret ?_
                  refine qe_then_ret ?_
                  refine qe_then_ret ?_
                  obtain rfl := Option.some.inj h79
                  have e211 := hx74 _ rfl
                  subst e211
                  refine qe_block_ret ?_
                  refine qe_then_ret ?_
                  obtain rfl := Option.some.inj h65
                  refine qe_then_ret ?_
                  obtain rfl := Option.some.inj h56
                  exact qe_ret (vs := [_]) Try.results4 ⟨rfl, trivial⟩ ⟨K116, rfl, hS119⟩
                · have h209 := cond_f hb208 h115
                  refine wc_skip ?_
                  refine qe_block ?_
                  refine qe_seq ?_
                  refine wc_region ?_
                  refine wl_val wn rfl (rv_move rfl) ?_
                  refine wl_val wn rfl (rv_add rfl rfl) ?_
                  refine wl_val wn rfl (rv_assign rfl) ?_
                  refine wl_nil ?_
                  obtain rfl := Option.some.inj h209
                  exact qe_mid' ⟨_, rfl, K116, rfl, hS119, (hl90.trans hl117), (w64_rng _)⟩ ⟨rfl, rfl, rfl, trivial⟩
            · have h112 := cond_f hb111 h99
              refine wc_exit ?_
              refine qe_then_exit ?_
              refine qe_then_exit ?_
              obtain rfl := Option.some.inj h112
              have e212 := hx96 _ rfl
              subst e212
              refine qe_block_eq ?_
              obtain rfl := Option.some.inj h88
              exact qe_mid' ⟨_, K89, rfl, rfl, hS92, hl90⟩ ⟨rfl, rfl, trivial⟩
          · rintro _ w83 ⟨s80, K81, rfl, rfl, hS84, hl82⟩
            refine qe_seq ?_
            refine wc_seq ?_
            refine wc_region ?_
            refine wl_val wn rfl (rv_assign (v := .int .i64 0) rfl) ?_
            refine wl_nil ?_
            refine qe_seq ?_
            obtain ⟨o215, h216, h217⟩ := Option.bind_eq_some_iff.1 h79
            refine wc_cutg (fun E' w' => ∃ (s218 : Unit) (K219 : KMap), o215 = .inl s218 ∧ E' = [(4, .slice a25 n26 c27), (5, .int .i64 s62)] ∧ SH w K [] w' K219 [] ∧ KLe K81 K219) ?_ ?_
            · refine wc_block ?_
              obtain ⟨r224, h225, h226⟩ := Option.bind_eq_some_iff.1 h216
              refine wc_while' (fun (s223 : Int) E' w' => ∃ (K227 : KMap), E' = [(4, .slice a25 n26 c27), (5, .int .i64 s62), (7, .int .i64 s223)] ∧ SH w K [] w' K227 [] ∧ KLe K81 K227 ∧ rng64 s223) h225 ⟨K81, rfl, hS84, (KLe.refl _), (by decide : rng64 0)⟩ ⟨rfl, rfl, rfl, trivial⟩ ?_
              rintro s223 _ w229 r232 h233 hx234 ⟨K227, rfl, hS230, hl228, hr231⟩
              refine wc_seq ?_
              refine wc_seq ?_
              refine wc_region ?_
              refine wl_val wn rfl (rv_move rfl) ?_
              refine wl_val wn rfl (rv_move rfl) ?_
              refine wl_val wn rfl (rv_lss rfl rfl) ?_
              refine wl_nil ?_
              refine qe_seq ?_
              refine wc_cond rfl (fun hb235 => ?_) (fun hb235 => ?_)
              · have h236 := cond_t hb235 h233
                refine wc_skip ?_
                refine qe_seq ?_
                refine wc_seq ?_
                refine wc_block ?_
                refine wc_seq ?_
                refine wc_quiet mixed (by kernel_rfl) hS230 ?_
                refine wq_val wn rfl (fun _ _ => (rv_move rfl)) ?_
                refine wq_val wn rfl (fun _ _ => (rv_move rfl)) ?_
                refine wq_val wn rfl (fun _ _ => (rv_move rfl)) ?_
                refine wq_val wn rfl (fun _ _ => (rv_add rfl rfl)) ?_
                obtain ⟨x237, hx238, h239⟩ := Option.bind_eq_some_iff.1 h236
                refine wq_sl_lh (t := tGState) wn rfl Try.underlying28 tf33 rfl rfl rfl (SliceAt.mono ((((hS36.le.trans hS48.le).trans hl67).trans hl82).trans hl228) hs28) hx238 ?_
                intro a240 n241 c242 hs243
                refine wq_val wn rfl (fun _ _ => (rv_move rfl)) ?_
                refine wq_val wn rfl (fun _ _ => (rv_move rfl)) ?_
                refine wq_val wn rfl (fun _ _ => (rv_move rfl)) ?_
                refine wq_val wn rfl (fun _ _ => (rv_add rfl rfl)) ?_
                obtain ⟨x244, hx245, h246⟩ := Option.bind_eq_some_iff.1 h239
                refine wq_sl_lh (t := tGState) wn rfl Try.underlying28 tf33 rfl rfl rfl (SliceAt.mono ((((hS36.le.trans hS48.le).trans hl67).trans hl82).trans hl228) hs28) hx245 ?_
                intro a247 n248 c249 hs250
                obtain ⟨r251, hx252, h253⟩ := Option.bind_eq_some_iff.1 h246
                refine wq_call (v := .bool r251) wn rfl (fun _ => rt_call (vs := [.slice a240 n241 c242, .slice a247 n248 c249]) co20 rfl) (fun w256 ⟨K254, hS255, hl257⟩ => ((ok_laws_foStates F) hS255.enter0 (SliceAt.mono hl257 hs243) (SliceAt.mono hl257 hs250) hx252).mono fun e w' ⟨K', he, hS'⟩ => ⟨he, K', hS255.call0 hS', hl257.trans hS'.le⟩) ?_
                refine wq_nil ?_
                rintro w259 ⟨K258, hS260, hl261⟩
                refine qe_seq ?_
                refine wc_cond rfl (fun hb262 => ?_) (fun hb262 => ?_)
                · have h263 := cond_t hb262 h253
                  refine wc_seq ?_
                  refine wc_region ?_
                  refine wl_val wn rfl (rv_assign (v := .bool false) rfl) ?_
                  refine wl_nil ?_
                  refine qe_seq ?_
                  refine wc_ret ?_
                  refine qe_block_ret ?_
                  refine qe_then_ret ?_
                  refine qe_then_ret ?_
                  obtain rfl := Option.some.inj h263
                  have e264 := hx234 _ rfl
                  subst e264
                  refine qe_block_ret ?_
                  refine qe_then_ret ?_
                  obtain rfl := Option.some.inj h226
                  refine qe_block_ret ?_
                  refine qe_then_ret ?_
                  refine qe_then_ret ?_
                  obtain rfl := Option.some.inj h217
                  have e265 := hx74 _ rfl
                  subst e265
                  refine qe_block_ret ?_
                  refine qe_then_ret ?_
                  obtain rfl := Option.some.inj h65
                  refine qe_then_ret ?_
                  obtain rfl := Option.some.inj h56
                  exact qe_ret (vs := [_]) Try.results4 ⟨rfl, trivial⟩ ⟨K258, rfl, hS260⟩
                · have h263 := cond_f hb262 h253
                  refine wc_skip ?_
                  refine qe_block ?_
                  refine qe_seq ?_
                  refine wc_region ?_
                  refine wl_val wn rfl (rv_move rfl) ?_
                  refine wl_val wn rfl (rv_add rfl rfl) ?_
                  refine wl_val wn rfl (rv_assign rfl) ?_
                  refine wl_nil ?_
                  obtain rfl := Option.some.inj h263
                  exact qe_mid' ⟨_, rfl, K258, rfl, hS260, (hl228.trans hl261), (w64_rng _)⟩ ⟨rfl, rfl, rfl, trivial⟩
              · have h236 := cond_f hb235 h233
                refine wc_exit ?_
                refine qe_then_exit ?_
                refine qe_then_exit ?_
                obtain rfl := Option.some.inj h236
                have e266 := hx234 _ rfl
                subst e266
                refine qe_block_eq ?_
                obtain rfl := Option.some.inj h226
                exact qe_mid' ⟨_, K227, rfl, rfl, hS230, hl228⟩ ⟨rfl, rfl, trivial⟩
            · rintro _ w221 ⟨s218, K219, rfl, rfl, hS222, hl220⟩
              refine qe_block ?_
              refine qe_seq ?_
              refine wc_region ?_
              refine wl_val wn rfl (rv_move rfl) ?_
              refine wl_val wn rfl (rv_add rfl rfl) ?_
              refine wl_val wn rfl (rv_assign rfl) ?_
              refine wl_nil ?_
              obtain rfl := Option.some.inj h217
              exact qe_mid' ⟨_, rfl, K219, rfl, hS222, ((hl67.trans hl82).trans hl220), (w64_rng _)⟩ ⟨rfl, rfl, trivial⟩
        · have h76 := cond_f hb75 h73
          refine wc_exit ?_
          refine qe_then_exit ?_
          refine qe_then_exit ?_
          obtain rfl := Option.some.inj h76
          have e271 := hx74 _ rfl
          subst e271
          refine qe_block_eq ?_
          obtain rfl := Option.some.inj h65
          exact qe_mid' ⟨_, K66, rfl, rfl, hS69, hl67⟩ trivial
      · rintro _ w60 ⟨s57, K58, rfl, rfl, hS61, hl59⟩
        refine qe_seq ?_
        refine wc_seq ?_
        refine wc_region ?_
        refine wl_val wn rfl (rv_assign (v := .bool true) rfl) ?_
        refine wl_nil ?_
        refine qe_seq ?_
        refine wc_ret ?_
        obtain rfl := Option.some.inj h56
        exact qe_ret (vs := [_]) Try.results4 ⟨rfl, trivial⟩ ⟨K58, rfl, hS61⟩
end Go.Proofs.Ytdopcpaapniioaa
