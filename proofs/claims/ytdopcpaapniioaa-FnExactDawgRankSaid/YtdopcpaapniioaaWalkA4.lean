/-
  Walks of the functions. Printed by gen.py.
-/
import Derived.Test.YtdopcpaapniioaaWalkA3
set_option linter.unusedVariables false
namespace Go.Proofs.Ytdopcpaapniioaa
open Go Go.Fk Go.RowKit

theorem ok_impl_DawgRank (F : Nat) {w : World} {K : KMap} {a1 : Option Addr} {n2 c3 : Nat} {p0_d : List GState} {p1_s : Str} {r : Int} (hS : SH w K [] w K []) (hs4 : SliceAt tGState K a1 n2 c3 p0_d) (hl5 : p1_s.length ≤ maxLen) (hm : M.impl_DawgRank F p0_d p1_s = some r) :
    Calls Try.prog 32 #[.slice a1 n2 c3, sv p1_s] w fun e w' => ∃ (K' : KMap), e = .returned (.int .i64 r) ∧ SH w K [] w' K' [] ∧ rng64 r := by
  rw [M.impl_DawgRank] at hm
  refine calls_in Try.func32 rfl Try.ntmps32 rfl ?_
  refine wc_seq ?_
  refine wc_region ?_
  refine wl_val wn rfl (rv_assign (v := .int .i64 0) rfl) ?_
  refine wl_nil ?_
  refine qe_seq ?_
  refine wc_seq ?_
  refine wc_region ?_
  refine wl_val wn rfl (rv_move rfl) ?_
  obtain ⟨r6, hx7, h8⟩ := Option.bind_eq_some_iff.1 hm
  refine wl_call wn rfl (rt_call (vs := [.slice a1 n2 c3]) co63 rfl) ((ok_impl_wordsIn F) hS.enter0 hs4 hx7) ?_
  rintro e16 w10 ⟨a12, n13, c14, K9, rfl, hS11, hs15⟩
  refine ⟨_, rfl, ?_⟩
  have hS17 : SH _ _ _ _ _ [_] := SH.call0 hS hS11
  refine wl_val wn rfl (rv_move rfl) ?_
  refine wl_val wn rfl (rv_extract rfl rfl) ?_
  refine wl_val wn rfl (rv_extract rfl rfl) ?_
  refine wl_val wn rfl (rv_assign rfl) ?_
  refine wl_val wn rfl (rv_assign rfl) ?_
  refine wl_nil ?_
  refine qe_seq ?_
  refine wc_seq ?_
  refine wc_region ?_
  refine wl_val wn rfl (rv_move rfl) ?_
  refine wl_val wn rfl (rv_move rfl) ?_
  obtain ⟨r18, hx19, h20⟩ := Option.bind_eq_some_iff.1 h8
  refine wl_call wn rfl (rt_call (vs := [.slice a12 n13 c14, sv p1_s]) co64 rfl) ((ok_slices_Index_string F) hS17.enter0 hs15 hl5 hx19) ?_
  rintro e25 w22 ⟨K21, rfl, hS23, hr24⟩
  refine ⟨_, rfl, ?_⟩
  have hS26 : SH _ _ _ _ _ [_] := SH.call0 hS17 hS23
  refine wl_val wn rfl (rv_assign rfl) ?_
  refine wl_nil ?_
  refine qe_seq ?_
  refine wc_ret ?_
  obtain rfl := Option.some.inj h20
  have hS27 : SH _ _ _ _ _ [] := SH.sublist hS26 (.cons _ .slnil)
  exact qe_ret (vs := [_]) Try.results32 ⟨rfl, trivial⟩ ⟨K21, rfl, hS27, hr24⟩

theorem ok_laws_FnDawgMore (F : Nat) {w : World} {K : KMap} {a1 : Option Addr} {n2 c3 : Nat} {a5 : Option Addr} {n6 c7 : Nat} {p0_code : List UInt8} {p1_more : List UInt8} {r : Bool} (hS : SH w K [] w K []) (hs4 : SliceAt tU8 K a1 n2 c3 p0_code) (hs8 : SliceAt tU8 K a5 n6 c7 p1_more) (hm : M.laws_FnDawgMore F p0_code p1_more = some r) :
    Calls Try.prog 6 #[.slice a1 n2 c3, .slice a5 n6 c7] w fun e w' => ∃ (K' : KMap), e = .returned (.bool r) ∧ SH w K [] w' K' [] := by
  rw [M.laws_FnDawgMore] at hm
  refine calls_in Try.func6 rfl Try.ntmps6 rfl ?_
  refine wc_seq ?_
  refine wc_region ?_
  refine wl_val wn rfl (rv_assign (v := .bool false) rfl) ?_
  refine wl_nil ?_
  refine qe_seq ?_
  refine wc_seq ?_
  refine wc_seq ?_
  obtain ⟨o9, h10, h11⟩ := Option.bind_eq_some_iff.1 hm
  refine wc_cutg (fun E' w' => ∃ (K12 : KMap), E' = [(0, .slice a1 n2 c3), (1, .slice a5 n6 c7), (21, .bool o9)] ∧ SH w K [] w' K12 [] ∧ KLe K K12) ?_ ?_
  · refine wc_region ?_
    refine wl_val wn rfl (rv_move rfl) ?_
    refine wl_val wn rfl (rv_len (t := tU8) Try.underlying22 rfl hs4) ?_
    refine wl_val wn rfl (rv_gtr rfl rfl) ?_
    refine wl_val wn rfl (rv_move rfl) ?_
    rcases bool_tf (decide ((1048576 : Int) < (p0_code.length : Int))) with hb16 | hb16
    · have h17 := cond_t hb16 h10
      refine wl_un (ug rfl rfl hb16) rfl ?_
      refine wl_un (ug rfl rfl hb16) rfl ?_
      refine wl_un (ug rfl rfl hb16) rfl ?_
      refine wl_val wn rfl (rv_pick_t (v := .bool true) rfl hb16 rfl) ?_
      refine wl_nil ?_
      obtain rfl := Option.some.inj h17
      exact qe_mid' ⟨K, rfl, hS, (KLe.refl _)⟩ ⟨rfl, rfl, rfl, trivial⟩
    · have h17 := cond_f hb16 h10
      refine wl_val (wg rfl rfl hb16) rfl (rv_move rfl) ?_
      refine wl_val (wg rfl rfl hb16) rfl (rv_len (t := tU8) Try.underlying22 rfl hs8) ?_
      refine wl_val (wg rfl rfl hb16) rfl (rv_gtr rfl rfl) ?_
      refine wl_val wn rfl (rv_pick_f rfl hb16 rfl) ?_
      refine wl_nil ?_
      obtain rfl := Option.some.inj h17
      exact qe_mid' ⟨K, rfl, hS, (KLe.refl _)⟩ ⟨rfl, rfl, rfl, trivial⟩
  · rintro _ w14 ⟨K12, rfl, hS15, hl13⟩
    refine qe_seq ?_
    refine wc_cond rfl (fun hb18 => ?_) (fun hb18 => ?_)
    · have h19 := cond_t hb18 h11
      refine wc_seq ?_
      refine wc_region ?_
      refine wl_val wn rfl (rv_assign (v := .bool true) rfl) ?_
      refine wl_nil ?_
      refine qe_seq ?_
      refine wc_ret ?_
      refine qe_then_ret ?_
      obtain rfl := Option.some.inj h19
      exact qe_ret (vs := [_]) Try.results6 ⟨rfl, trivial⟩ ⟨K12, rfl, hS15⟩
    · have h19 := cond_f hb18 h11
      refine wc_skip ?_
      refine qe_seq ?_
      refine wc_seq ?_
      refine wc_region ?_
      refine wl_val wn rfl (rv_move rfl) ?_
      obtain ⟨r20, hx21, h22⟩ := Option.bind_eq_some_iff.1 h19
      refine wl_call wn rfl (rt_call (vs := [.slice a1 n2 c3]) co18 rfl) ((ok_spec_DrawDawgOf F) hS15.enter0 (SliceAt.mono hl13 hs4) hx21) ?_
      rintro e30 w24 ⟨a26, n27, c28, K23, rfl, hS25, hs29⟩
      refine ⟨_, rfl, ?_⟩
      have hS31 : SH _ _ _ _ _ [_] := SH.call0 hS15 hS25
      refine wl_val wn rfl (rv_assign rfl) ?_
      refine wl_nil ?_
      refine qe_seq ?_
      refine wc_seq ?_
      refine wc_region ?_
      refine wl_val wn rfl (rv_move rfl) ?_
      obtain ⟨r32, hx33, h34⟩ := Option.bind_eq_some_iff.1 h22
      refine wl_call wn rfl (rt_call (vs := [.slice a5 n6 c7]) co29 rfl) ((ok_spec_DrawNearFar F) hS31.enter0 (SliceAt.mono (hl13.trans hS25.le) hs8) hx33) ?_
      rintro e40 w36 ⟨K35, rfl, hS37, hl38, hl39⟩
      refine ⟨_, rfl, ?_⟩
      have hS41 : SH _ _ _ _ _ [_] := SH.call0 hS31 hS37
      refine wl_val wn rfl (rv_move rfl) ?_
      refine wl_val wn rfl (rv_extract rfl rfl) ?_
      refine wl_val wn rfl (rv_extract rfl rfl) ?_
      refine wl_val wn rfl (rv_assign rfl) ?_
      refine wl_val wn rfl (rv_assign rfl) ?_
      refine wl_nil ?_
      refine qe_seq ?_
      refine wc_seq ?_
      refine wc_region ?_
      refine wl_val wn rfl (rv_move rfl) ?_
      obtain ⟨r42, hx43, h44⟩ := Option.bind_eq_some_iff.1 h34
      refine wl_call wn rfl (rt_call (vs := [.slice a26 n27 c28]) co19 rfl) ((ok_impl_DawgOf F) hS41.enter0 (SliceAt.mono hS37.le hs29) hx43) ?_
      rintro e52 w46 ⟨a48, n49, c50, K45, rfl, hS47, hs51⟩
      refine ⟨_, rfl, ?_⟩
      have hS53 : SH _ _ _ _ _ [_, _] := SH.call0 hS41 hS47
      refine wl_val wn rfl (rv_assign rfl) ?_
      refine wl_nil ?_
      refine qe_seq ?_
      refine wc_seq ?_
      refine wc_seq ?_
      obtain ⟨o54, h55, h56⟩ := Option.bind_eq_some_iff.1 h44
      refine wc_cutg (fun E' w' => ∃ (K57 : KMap), E' = [(5, .slice a26 n27 c28), (6, sv r32.1), (8, .slice a48 n49 c50), (50, .bool o54)] ∧ SH w K [] w' K57 [] ∧ KLe K45 K57) ?_ ?_
      · refine wc_region ?_
        refine wl_val wn rfl (rv_move rfl) ?_
        refine wl_val wn rfl (rv_move rfl) ?_
        obtain ⟨r61, hx62, h63⟩ := Option.bind_eq_some_iff.1 h55
        refine wl_call wn rfl (rt_call (vs := [.slice a26 n27 c28]) co21 rfl) ((ok_spec_DawgOf F) hS53.enter0 (SliceAt.mono (hS37.le.trans hS47.le) hs29) hx62) ?_
        rintro e71 w65 ⟨a67, n68, c69, K64, rfl, hS66, hs70⟩
        refine ⟨_, rfl, ?_⟩
        have hS72 : SH _ _ _ _ _ [_, _, _] := SH.call0 hS53 hS66
        obtain ⟨r73, hx74, h75⟩ := Option.bind_eq_some_iff.1 h63
        refine wl_call wn rfl (rt_call (vs := [.slice a48 n49 c50, .slice a67 n68 c69]) co20 rfl) ((ok_laws_foStates F) hS72.enter0 (SliceAt.mono hS66.le hs51) hs70 hx74) ?_
        rintro e79 w77 ⟨K76, rfl, hS78⟩
        refine ⟨_, rfl, ?_⟩
        have hS80 : SH _ _ _ _ _ [_, _, _] := SH.call0 hS72 hS78
        refine wl_val wn rfl (rv_not rfl) ?_
        refine wl_val wn rfl (rv_move rfl) ?_
        rcases bool_tf ((!r73)) with hb81 | hb81
        · have h82 := cond_t hb81 h75
          refine wl_un (ug rfl rfl hb81) rfl ?_
          refine wl_un (ug rfl rfl hb81) rfl ?_
          refine wl_un (ug rfl rfl hb81) rfl ?_
          refine wl_val wn rfl (rv_pick_t (v := .bool true) rfl hb81 rfl) ?_
          refine wl_val wn rfl (rv_move rfl) ?_
          refine wl_un (ug rfl rfl rfl) rfl ?_
          refine wl_un (ug rfl rfl rfl) rfl ?_
          refine wl_un (ug rfl rfl rfl) rfl ?_
          refine wl_val wn rfl (rv_pick_t (v := .bool true) rfl rfl rfl) ?_
          refine wl_val wn rfl (rv_move rfl) ?_
          refine wl_un (ug rfl rfl rfl) rfl ?_
          refine wl_un (ug rfl rfl rfl) rfl ?_
          refine wl_un (ug rfl rfl rfl) rfl ?_
          refine wl_val wn rfl (rv_pick_t (v := .bool true) rfl rfl rfl) ?_
          refine wl_nil ?_
          obtain rfl := Option.some.inj h82
          have hS83 : SH _ _ _ _ _ [] := SH.sublist hS80 (.cons _ (.cons _ (.cons _ .slnil)))
          exact qe_mid' ⟨K76, rfl, hS83, (hS66.le.trans hS78.le)⟩ ⟨rfl, rfl, rfl, rfl, trivial⟩
        · have h82 := cond_f hb81 h75
          refine wl_val (wg rfl rfl hb81) rfl (rv_move rfl) ?_
          obtain ⟨r84, hx85, h86⟩ := Option.bind_eq_some_iff.1 h82
          refine wl_call (wg rfl rfl hb81) rfl (rt_call (vs := [.slice a26 n27 c28]) co30 rfl) ((ok_impl_WordsUp F) hS80.enter0 (SliceAt.mono (((hS37.le.trans hS47.le).trans hS66.le).trans hS78.le) hs29) hx85) ?_
          rintro e90 w88 ⟨K87, rfl, hS89⟩
          refine ⟨_, rfl, ?_⟩
          have hS91 : SH _ _ _ _ _ [_, _, _] := SH.call0 hS80 hS89
          refine wl_val (wg rfl rfl hb81) rfl (rv_not rfl) ?_
          refine wl_val wn rfl (rv_pick_f rfl hb81 rfl) ?_
          refine wl_val wn rfl (rv_move rfl) ?_
          rcases bool_tf ((!r84)) with hb92 | hb92
          · have h93 := cond_t hb92 h86
            refine wl_un (ug rfl rfl hb92) rfl ?_
            refine wl_un (ug rfl rfl hb92) rfl ?_
            refine wl_un (ug rfl rfl hb92) rfl ?_
            refine wl_val wn rfl (rv_pick_t (v := .bool true) rfl hb92 rfl) ?_
            refine wl_val wn rfl (rv_move rfl) ?_
            refine wl_un (ug rfl rfl rfl) rfl ?_
            refine wl_un (ug rfl rfl rfl) rfl ?_
            refine wl_un (ug rfl rfl rfl) rfl ?_
            refine wl_val wn rfl (rv_pick_t (v := .bool true) rfl rfl rfl) ?_
            refine wl_nil ?_
            obtain rfl := Option.some.inj h93
            have hS94 : SH _ _ _ _ _ [] := SH.sublist hS91 (.cons _ (.cons _ (.cons _ .slnil)))
            exact qe_mid' ⟨K87, rfl, hS94, ((hS66.le.trans hS78.le).trans hS89.le)⟩ ⟨rfl, rfl, rfl, rfl, trivial⟩
          · have h93 := cond_f hb92 h86
            refine wl_val (wg rfl rfl hb92) rfl (rv_move rfl) ?_
            refine wl_val (wg rfl rfl hb92) rfl (rv_move rfl) ?_
            obtain ⟨r95, hx96, h97⟩ := Option.bind_eq_some_iff.1 h93
            refine wl_call (wg rfl rfl hb92) rfl (rt_call (vs := [.slice a26 n27 c28, sv r32.1]) co31 rfl) ((ok_laws_foHas F) hS91.enter0 (SliceAt.mono ((((hS37.le.trans hS47.le).trans hS66.le).trans hS78.le).trans hS89.le) hs29) hl38 hx96) ?_
            rintro e101 w99 ⟨K98, rfl, hS100⟩
            refine ⟨_, rfl, ?_⟩
            have hS102 : SH _ _ _ _ _ [_, _, _] := SH.call0 hS91 hS100
            refine wl_val wn rfl (rv_pick_f rfl hb92 rfl) ?_
            refine wl_val wn rfl (rv_move rfl) ?_
            rcases bool_tf (r95) with hb103 | hb103
            · have h104 := cond_t hb103 h97
              refine wl_un (ug rfl rfl hb103) rfl ?_
              refine wl_un (ug rfl rfl hb103) rfl ?_
              refine wl_un (ug rfl rfl hb103) rfl ?_
              refine wl_val wn rfl (rv_pick_t (v := .bool true) rfl hb103 rfl) ?_
              refine wl_nil ?_
              obtain rfl := Option.some.inj h104
              have hS105 : SH _ _ _ _ _ [] := SH.sublist hS102 (.cons _ (.cons _ (.cons _ .slnil)))
              exact qe_mid' ⟨K98, rfl, hS105, (((hS66.le.trans hS78.le).trans hS89.le).trans hS100.le)⟩ ⟨rfl, rfl, rfl, rfl, trivial⟩
            · have h104 := cond_f hb103 h97
              refine wl_val (wg rfl rfl hb103) rfl (rv_move rfl) ?_
              refine wl_val (wg rfl rfl hb103) rfl (rv_len (t := tStr) Try.underlying26 rfl (SliceAt.mono (((((hS37.le.trans hS47.le).trans hS66.le).trans hS78.le).trans hS89.le).trans hS100.le) hs29)) ?_
              refine wl_val (wg rfl rfl hb103) rfl (rv_geq rfl rfl) ?_
              refine wl_val wn rfl (rv_pick_f rfl hb103 rfl) ?_
              refine wl_nil ?_
              obtain rfl := Option.some.inj h104
              have hS106 : SH _ _ _ _ _ [] := SH.sublist hS102 (.cons _ (.cons _ (.cons _ .slnil)))
              exact qe_mid' ⟨K98, rfl, hS106, (((hS66.le.trans hS78.le).trans hS89.le).trans hS100.le)⟩ ⟨rfl, rfl, rfl, rfl, trivial⟩
      · rintro _ w59 ⟨K57, rfl, hS60, hl58⟩
        refine qe_seq ?_
        refine wc_cond rfl (fun hb107 => ?_) (fun hb107 => ?_)
        · have h108 := cond_t hb107 h56
          refine wc_seq ?_
          refine wc_region ?_
          refine wl_val wn rfl (rv_move rfl) ?_
          refine wl_val wn rfl (rv_move rfl) ?_
          obtain ⟨r109, hx110, h111⟩ := Option.bind_eq_some_iff.1 h108
          refine wl_call wn rfl (rt_call (vs := [.slice a26 n27 c28]) co21 rfl) ((ok_spec_DawgOf F) hS60.enter0 (SliceAt.mono ((hS37.le.trans hS47.le).trans hl58) hs29) hx110) ?_
          rintro e119 w113 ⟨a115, n116, c117, K112, rfl, hS114, hs118⟩
          refine ⟨_, rfl, ?_⟩
          have hS120 : SH _ _ _ _ _ [_] := SH.call0 hS60 hS114
          obtain ⟨r121, hx122, h123⟩ := Option.bind_eq_some_iff.1 h111
          refine wl_call wn rfl (rt_call (vs := [.slice a48 n49 c50, .slice a115 n116 c117]) co20 rfl) ((ok_laws_foStates F) hS120.enter0 (SliceAt.mono (hl58.trans hS114.le) hs51) hs118 hx122) ?_
          rintro e127 w125 ⟨K124, rfl, hS126⟩
          refine ⟨_, rfl, ?_⟩
          have hS128 : SH _ _ _ _ _ [_] := SH.call0 hS120 hS126
          refine wl_val wn rfl (rv_assign rfl) ?_
          refine wl_nil ?_
          refine qe_seq ?_
          refine wc_ret ?_
          refine qe_then_ret ?_
          obtain rfl := Option.some.inj h123
          have hS129 : SH _ _ _ _ _ [] := SH.sublist hS128 (.cons _ .slnil)
          exact qe_ret (vs := [_]) Try.results6 ⟨rfl, trivial⟩ ⟨K124, rfl, hS129⟩
        · have h108 := cond_f hb107 h56
          refine wc_skip ?_
          refine qe_seq ?_
          refine wc_seq ?_
          refine wc_region ?_
          refine wl_val wn rfl (rv_assign (v := .int .i64 0) rfl) ?_
          refine wl_nil ?_
          refine qe_seq ?_
          refine wc_seq ?_
          obtain ⟨o130, h131, h132⟩ := Option.bind_eq_some_iff.1 h108
          refine wc_cutg (fun E' w' => ∃ (K133 : KMap), E' = [(5, .slice a26 n27 c28), (6, sv r32.1), (8, .slice a48 n49 c50), (9, .int .i64 o130)] ∧ SH w K [] w' K133 [] ∧ KLe K57 K133 ∧ rng64 o130) ?_ ?_
          · refine wc_block ?_
            obtain ⟨r139, h140, h141⟩ := Option.bind_eq_some_iff.1 h131
            refine wc_while' (fun (s138 : Int) E' w' => ∃ (K142 : KMap), E' = [(5, .slice a26 n27 c28), (6, sv r32.1), (8, .slice a48 n49 c50), (9, .int .i64 s138)] ∧ SH w K [] w' K142 [] ∧ KLe K57 K142 ∧ rng64 s138) h140 ⟨K57, rfl, hS60, (KLe.refl _), (by decide : rng64 0)⟩ ⟨rfl, rfl, rfl, rfl, trivial⟩ ?_
            rintro s138 _ w144 r147 h148 hx149 ⟨K142, rfl, hS145, hl143, hr146⟩
            refine wc_seq ?_
            refine wc_seq ?_
            obtain ⟨o150, h151, h152⟩ := Option.bind_eq_some_iff.1 h148
            refine wc_cutg (fun E' w' => ∃ (K153 : KMap), E' = [(5, .slice a26 n27 c28), (6, sv r32.1), (8, .slice a48 n49 c50), (9, .int .i64 s138), (66, .bool o150)] ∧ SH w K [] w' K153 [] ∧ KLe K142 K153) ?_ ?_
            · refine wc_region ?_
              refine wl_val wn rfl (rv_move rfl) ?_
              refine wl_val wn rfl (rv_move rfl) ?_
              refine wl_val wn rfl (rv_len (t := tStr) Try.underlying26 rfl (SliceAt.mono (((hS37.le.trans hS47.le).trans hl58).trans hl143) hs29)) ?_
              refine wl_val wn rfl (rv_lss rfl rfl) ?_
              refine wl_val wn rfl (rv_move rfl) ?_
              rcases bool_tf (decide (s138 < (r20.length : Int))) with hb157 | hb157
              · have h158 := cond_t hb157 h151
                refine wl_val (wg rfl rfl hb157) rfl (rv_move rfl) ?_
                refine wl_val (wg rfl rfl hb157) rfl (rv_move rfl) ?_
                obtain ⟨x159, hx160, h161⟩ := Option.bind_eq_some_iff.1 h158
                refine wl_indexAddr (t := tStr) (wg rfl rfl hb157) rfl Try.underlying26 tf9 rfl rfl (SliceAt.mono (((hS37.le.trans hS47.le).trans hl58).trans hl143) hs29) hx160 ?_
                intro b162 o163 u164 hu165 ha166
                obtain ⟨rfl, hl167⟩ := hu165
                have ha168 : AtK _ b162 o163 [sv x159] := ha166
                refine wl_val (wg rfl rfl hb157) rfl (rv_load1 tf9 rfl hS145 (ha168 0 _ rfl)) ?_
                refine wl_val (wg rfl rfl hb157) rfl (rv_move rfl) ?_
                refine wl_val (wg rfl rfl hb157) rfl (rv_slss rfl rfl) ?_
                refine wl_val wn rfl (rv_pick_t rfl hb157 rfl) ?_
                refine wl_nil ?_
                obtain rfl := Option.some.inj h161
                exact qe_mid' ⟨K142, rfl, hS145, (KLe.refl _)⟩ ⟨rfl, rfl, rfl, rfl, rfl, trivial⟩
              · have h158 := cond_f hb157 h151
                refine wl_un (ug rfl rfl hb157) rfl ?_
                refine wl_un (ug rfl rfl hb157) rfl ?_
                refine wl_un (ug rfl rfl hb157) rfl ?_
                refine wl_un (ug rfl rfl hb157) rfl ?_
                refine wl_un (ug rfl rfl hb157) rfl ?_
                refine wl_un (ug rfl rfl hb157) rfl ?_
                refine wl_val wn rfl (rv_pick_f (v := .bool false) rfl hb157 rfl) ?_
                refine wl_nil ?_
                obtain rfl := Option.some.inj h158
                exact qe_mid' ⟨K142, rfl, hS145, (KLe.refl _)⟩ ⟨rfl, rfl, rfl, rfl, rfl, trivial⟩
            · rintro _ w155 ⟨K153, rfl, hS156, hl154⟩
              refine qe_seq ?_
              refine wc_cond rfl (fun hb169 => ?_) (fun hb169 => ?_)
              · have h170 := cond_t hb169 h152
                refine wc_skip ?_
                refine qe_seq ?_
                refine wc_block ?_
                refine wc_region ?_
                refine wl_val wn rfl (rv_move rfl) ?_
                refine wl_val wn rfl (rv_add rfl rfl) ?_
                refine wl_val wn rfl (rv_assign rfl) ?_
                refine wl_nil ?_
                refine qe_block ?_
                obtain rfl := Option.some.inj h170
                exact qe_mid' ⟨_, rfl, K153, rfl, hS156, (hl143.trans hl154), (w64_rng _)⟩ ⟨rfl, rfl, rfl, rfl, trivial⟩
              · have h170 := cond_f hb169 h152
                refine wc_exit ?_
                refine qe_then_exit ?_
                refine qe_then_exit ?_
                obtain rfl := Option.some.inj h170
                have e171 := hx149 _ rfl
                subst e171
                refine qe_block_eq ?_
                obtain rfl := Option.some.inj h141
                exact qe_mid' ⟨K153, rfl, hS156, (hl143.trans hl154), hr146⟩ ⟨rfl, rfl, rfl, rfl, trivial⟩
          · rintro _ w135 ⟨K133, rfl, hS136, hl134, hr137⟩
            refine qe_seq ?_
            refine wc_seq ?_
            refine wc_region ?_
            refine wl_buildSlice0 tStr wn rfl Try.underlying26 tf9 hS136 ?_
            intro a172 w173 K174 hl175 hs176 hS177
            refine wl_val wn rfl (rv_move rfl) ?_
            refine wl_val wn rfl (rv_move rfl) ?_
            obtain ⟨x178, hx179, h180⟩ := Option.bind_eq_some_iff.1 h132
            refine wl_sl_h (t := tStr) wn rfl Try.underlying26 tf9 rfl rfl (SliceAt.mono ((((hS37.le.trans hS47.le).trans hl58).trans hl134).trans hl175) hs29) hx179 ?_
            intro a181 n182 c183 hs184
            obtain ⟨x185, hx186, h187⟩ := Option.bind_eq_some_iff.1 h180
            refine wl_append (t := tStr) wn rfl Try.underlying26 tf9 rfl rfl rfl rfl rfl hs176 hs184 hx186 hS177 ?_
            intro a188 n189 c190 w191 K192 hl193 hs194 hS195
            refine wl_val wn rfl (rv_move rfl) ?_
            refine wl_buildSlice (t := tStr) (n := 1) (pv := [(0, sv r32.1)]) (cs := [sv r32.1]) (xs := [r32.1]) wn rfl Try.underlying26 tf9 rfl rfl rfl (by kernel_rfl) rfl rfl (lit_cons (u := sv r32.1) (z := r32.1) ⟨rfl, hl38⟩ lit_nil) hS195 ?_
            intro a196 w197 K198 hl199 hs200 hS201
            have hS202 : SH _ _ _ _ _ [_, _] := SH.front (p := [_]) hS201
            obtain ⟨x203, hx204, h205⟩ := Option.bind_eq_some_iff.1 h187
            refine wl_append (t := tStr) wn rfl Try.underlying26 tf9 rfl rfl rfl rfl rfl (SliceAt.mono hl199 hs194) hs200 hx204 hS202 ?_
            intro a206 n207 c208 w209 K210 hl211 hs212 hS213
            refine wl_val wn rfl (rv_assign rfl) ?_
            refine wl_nil ?_
            refine qe_seq ?_
            refine wc_seq ?_
            refine wc_region ?_
            refine wl_val wn rfl (rv_move rfl) ?_
            refine wl_val wn rfl (rv_move rfl) ?_
            refine wl_val wn rfl (rv_move rfl) ?_
            obtain ⟨x214, hx215, h216⟩ := Option.bind_eq_some_iff.1 h205
            refine wl_sl_l (t := tStr) wn rfl Try.underlying26 tf9 rfl rfl (SliceAt.mono (((((((hS37.le.trans hS47.le).trans hl58).trans hl134).trans hl175).trans hl193).trans hl199).trans hl211) hs29) hx215 ?_
            intro a217 n218 c219 hs220
            obtain ⟨x221, hx222, h223⟩ := Option.bind_eq_some_iff.1 h216
            refine wl_append (t := tStr) wn rfl Try.underlying26 tf9 rfl rfl rfl rfl rfl hs212 hs220 hx222 hS213 ?_
            intro a224 n225 c226 w227 K228 hl229 hs230 hS231
            obtain ⟨r232, hx233, h234⟩ := Option.bind_eq_some_iff.1 h223
            refine wl_call wn rfl (rt_call (vs := [.slice a224 n225 c226]) co19 rfl) ((ok_impl_DawgOf F) hS231.enter0 hs230 hx233) ?_
            rintro e242 w236 ⟨a238, n239, c240, K235, rfl, hS237, hs241⟩
            refine ⟨_, rfl, ?_⟩
            have hS243 : SH _ _ _ _ _ [_, _, _] := SH.call0 hS231 hS237
            refine wl_val wn rfl (rv_assign rfl) ?_
            refine wl_nil ?_
            refine qe_seq ?_
            refine wc_seq ?_
            refine wc_seq ?_
            refine wc_region ?_
            refine wl_val wn rfl (rv_assign (v := .int .i64 0) rfl) ?_
            refine wl_nil ?_
            refine qe_seq ?_
            obtain ⟨o244, h245, h246⟩ := Option.bind_eq_some_iff.1 h234
            refine wc_cutg (fun E' w' => ∃ (s247 : Unit) (K248 : KMap), o244 = .inl s247 ∧ E' = [(6, sv r32.1), (8, .slice a48 n49 c50), (9, .int .i64 o130), (11, .slice a238 n239 c240)] ∧ SH w K [] w' K248 [] ∧ KLe K235 K248) ?_ ?_
            · refine wc_block ?_
              obtain ⟨r253, h254, h255⟩ := Option.bind_eq_some_iff.1 h245
              have hS261 : SH _ _ _ _ _ [] := SH.sublist hS243 (.cons _ (.cons _ (.cons _ .slnil)))
              refine wc_while' (fun (s252 : Int) E' w' => ∃ (K256 : KMap), E' = [(5, .slice a26 n27 c28), (6, sv r32.1), (8, .slice a48 n49 c50), (9, .int .i64 o130), (11, .slice a238 n239 c240), (12, .int .i64 s252)] ∧ SH w K [] w' K256 [] ∧ KLe K235 K256 ∧ rng64 s252) h254 ⟨K235, rfl, hS261, (KLe.refl _), (by decide : rng64 0)⟩ ⟨rfl, rfl, rfl, rfl, rfl, rfl, trivial⟩ ?_
              rintro s252 _ w258 r262 h263 hx264 ⟨K256, rfl, hS259, hl257, hr260⟩
              refine wc_seq ?_
              refine wc_seq ?_
              refine wc_region ?_
              refine wl_val wn rfl (rv_move rfl) ?_
              refine wl_val wn rfl (rv_move rfl) ?_
              refine wl_val wn rfl (rv_len (t := tStr) Try.underlying26 rfl (SliceAt.mono ((((((((((hS37.le.trans hS47.le).trans hl58).trans hl134).trans hl175).trans hl193).trans hl199).trans hl211).trans hl229).trans hS237.le).trans hl257) hs29)) ?_
              refine wl_val wn rfl (rv_lss rfl rfl) ?_
              refine wl_nil ?_
              refine qe_seq ?_
              refine wc_cond rfl (fun hb265 => ?_) (fun hb265 => ?_)
              · have h266 := cond_t hb265 h263
                refine wc_skip ?_
                refine qe_seq ?_
                refine wc_seq ?_
                refine wc_block ?_
                refine wc_seq ?_
                refine wc_region ?_
                refine wl_val wn rfl (rv_move rfl) ?_
                refine wl_val wn rfl (rv_assign rfl) ?_
                refine wl_nil ?_
                refine qe_seq ?_
                refine wc_seq ?_
                refine wc_seq ?_
                refine wc_region ?_
                refine wl_val wn rfl (rv_move rfl) ?_
                refine wl_val wn rfl (rv_move rfl) ?_
                refine wl_val wn rfl (rv_geq rfl rfl) ?_
                refine wl_nil ?_
                refine qe_seq ?_
                obtain ⟨o267, h268, h269⟩ := Option.bind_eq_some_iff.1 h266
                refine wc_cutg (fun E' w' => ∃ (K270 : KMap), E' = [(5, .slice a26 n27 c28), (6, sv r32.1), (8, .slice a48 n49 c50), (9, .int .i64 o130), (11, .slice a238 n239 c240), (12, .int .i64 s252), (13, .int .i64 o267)] ∧ SH w K [] w' K270 [] ∧ KLe K256 K270 ∧ rng64 o267) ?_ ?_
                · refine wc_cond rfl (fun hb275 => ?_) (fun hb275 => ?_)
                  · have h276 := cond_t hb275 h268
                    refine wc_region ?_
                    refine wl_val wn rfl (rv_move rfl) ?_
                    refine wl_val wn rfl (rv_add rfl rfl) ?_
                    refine wl_val wn rfl (rv_assign rfl) ?_
                    refine wl_nil ?_
                    obtain rfl := Option.some.inj h276
                    exact qe_mid' ⟨K256, rfl, hS259, (KLe.refl _), (w64_rng _)⟩ ⟨rfl, rfl, rfl, rfl, rfl, rfl, rfl, trivial⟩
                  · have h276 := cond_f hb275 h268
                    refine wc_skip ?_
                    obtain rfl := Option.some.inj h276
                    exact qe_mid' ⟨K256, rfl, hS259, (KLe.refl _), hr260⟩ ⟨rfl, rfl, rfl, rfl, rfl, rfl, rfl, trivial⟩
                · rintro _ w272 ⟨K270, rfl, hS273, hl271, hr274⟩
                  refine qe_seq ?_
                  refine wc_seq ?_
                  obtain ⟨o277, h278, h279⟩ := Option.bind_eq_some_iff.1 h269
                  refine wc_cutg (fun E' w' => ∃ (K280 : KMap), E' = [(5, .slice a26 n27 c28), (6, sv r32.1), (8, .slice a48 n49 c50), (9, .int .i64 o130), (11, .slice a238 n239 c240), (12, .int .i64 s252), (112, .bool o277)] ∧ SH w K [] w' K280 [] ∧ KLe K270 K280) ?_ ?_
                  · refine wc_region ?_
                    refine wl_val wn rfl (rv_move rfl) ?_
                    refine wl_val wn rfl (rv_move rfl) ?_
                    refine wl_val wn rfl (rv_move rfl) ?_
                    obtain ⟨x284, hx285, h286⟩ := Option.bind_eq_some_iff.1 h278
                    refine wl_indexAddr (t := tStr) wn rfl Try.underlying26 tf9 rfl rfl (SliceAt.mono (((((((((((hS37.le.trans hS47.le).trans hl58).trans hl134).trans hl175).trans hl193).trans hl199).trans hl211).trans hl229).trans hS237.le).trans hl257).trans hl271) hs29) hx285 ?_
                    intro b287 o288 u289 hu290 ha291
                    obtain ⟨rfl, hl292⟩ := hu290
                    have ha293 : AtK _ b287 o288 [sv x284] := ha291
                    refine wl_val wn rfl (rv_load1 tf9 rfl hS273 (ha293 0 _ rfl)) ?_
                    obtain ⟨r294, hx295, h296⟩ := Option.bind_eq_some_iff.1 h286
                    refine wl_call wn rfl (rt_call (vs := [.slice a48 n49 c50, sv x284]) co32 rfl) ((ok_impl_DawgRank F) hS273.enter0 (SliceAt.mono (((((((((hl58.trans hl134).trans hl175).trans hl193).trans hl199).trans hl211).trans hl229).trans hS237.le).trans hl257).trans hl271) hs51) hl292 hx295) ?_
                    rintro e301 w298 ⟨K297, rfl, hS299, hr300⟩
                    refine ⟨_, rfl, ?_⟩
                    have hS302 : SH _ _ _ _ _ [] := SH.call0 hS273 hS299
                    refine wl_val wn rfl (rv_move rfl) ?_
                    refine wl_val wn rfl (rv_neq rfl rfl) ?_
                    refine wl_val wn rfl (rv_move rfl) ?_
                    rcases bool_tf ((!(r294 == s252))) with hb303 | hb303
                    · have h304 := cond_t hb303 h296
                      refine wl_un (ug rfl rfl hb303) rfl ?_
                      refine wl_un (ug rfl rfl hb303) rfl ?_
                      refine wl_un (ug rfl rfl hb303) rfl ?_
                      refine wl_un (ug rfl rfl hb303) rfl ?_
                      refine wl_un (ug rfl rfl hb303) rfl ?_
                      refine wl_un (ug rfl rfl hb303) rfl ?_
                      refine wl_un (ug rfl rfl hb303) rfl ?_
                      refine wl_un (ug rfl rfl hb303) rfl ?_
                      refine wl_val wn rfl (rv_pick_t (v := .bool true) rfl hb303 rfl) ?_
                      refine wl_nil ?_
                      obtain rfl := Option.some.inj h304
                      exact qe_mid' ⟨K297, rfl, hS302, hS299.le⟩ ⟨rfl, rfl, rfl, rfl, rfl, rfl, rfl, trivial⟩
                    · have h304 := cond_f hb303 h296
                      refine wl_val (wg rfl rfl hb303) rfl (rv_move rfl) ?_
                      refine wl_val (wg rfl rfl hb303) rfl (rv_move rfl) ?_
                      refine wl_val (wg rfl rfl hb303) rfl (rv_move rfl) ?_
                      obtain ⟨x305, hx306, h307⟩ := Option.bind_eq_some_iff.1 h304
                      refine wl_indexAddr (t := tStr) (wg rfl rfl hb303) rfl Try.underlying26 tf9 rfl rfl (SliceAt.mono ((((((((((((hS37.le.trans hS47.le).trans hl58).trans hl134).trans hl175).trans hl193).trans hl199).trans hl211).trans hl229).trans hS237.le).trans hl257).trans hl271).trans hS299.le) hs29) hx306 ?_
                      intro b308 o309 u310 hu311 ha312
                      obtain ⟨rfl, hl313⟩ := hu311
                      have ha314 : AtK _ b308 o309 [sv x305] := ha312
                      refine wl_val (wg rfl rfl hb303) rfl (rv_load1 tf9 rfl hS302 (ha314 0 _ rfl)) ?_
                      obtain ⟨r315, hx316, h317⟩ := Option.bind_eq_some_iff.1 h307
                      refine wl_call (wg rfl rfl hb303) rfl (rt_call (vs := [.slice a238 n239 c240, sv x305]) co32 rfl) ((ok_impl_DawgRank F) hS302.enter0 (SliceAt.mono ((hl257.trans hl271).trans hS299.le) hs241) hl313 hx316) ?_
                      rintro e322 w319 ⟨K318, rfl, hS320, hr321⟩
                      refine ⟨_, rfl, ?_⟩
                      have hS323 : SH _ _ _ _ _ [] := SH.call0 hS302 hS320
                      refine wl_val (wg rfl rfl hb303) rfl (rv_move rfl) ?_
                      refine wl_val (wg rfl rfl hb303) rfl (rv_neq rfl rfl) ?_
                      refine wl_val wn rfl (rv_pick_f rfl hb303 rfl) ?_
                      refine wl_nil ?_
                      obtain rfl := Option.some.inj h317
                      exact qe_mid' ⟨K318, rfl, hS323, (hS299.le.trans hS320.le)⟩ ⟨rfl, rfl, rfl, rfl, rfl, rfl, rfl, trivial⟩
                  · rintro _ w282 ⟨K280, rfl, hS283, hl281⟩
                    refine qe_seq ?_
                    refine wc_cond rfl (fun hb324 => ?_) (fun hb324 => ?_)
                    · have h325 := cond_t hb324 h279
                      refine wc_seq ?_
                      refine wc_region ?_
                      refine wl_val wn rfl (rv_assign (v := .bool false) rfl) ?_
                      refine wl_nil ?_
                      refine qe_seq ?_
                      refine wc_ret ?_
                      refine qe_block_ret ?_
                      refine qe_then_ret ?_
                      refine qe_then_ret ?_
                      obtain rfl := Option.some.inj h325
                      have e326 := hx264 _ rfl
                      subst e326
                      refine qe_block_ret ?_
                      refine qe_then_ret ?_
                      obtain rfl := Option.some.inj h255
                      refine qe_then_ret ?_
                      obtain rfl := Option.some.inj h246
                      exact qe_ret (vs := [_]) Try.results6 ⟨rfl, trivial⟩ ⟨K280, rfl, hS283⟩
                    · have h325 := cond_f hb324 h279
                      refine wc_skip ?_
                      refine qe_block ?_
                      refine qe_seq ?_
                      refine wc_region ?_
                      refine wl_val wn rfl (rv_move rfl) ?_
                      refine wl_val wn rfl (rv_add rfl rfl) ?_
                      refine wl_val wn rfl (rv_assign rfl) ?_
                      refine wl_nil ?_
                      obtain rfl := Option.some.inj h325
                      exact qe_mid' ⟨_, rfl, K280, rfl, hS283, ((hl257.trans hl271).trans hl281), (w64_rng _)⟩ ⟨rfl, rfl, rfl, rfl, rfl, rfl, trivial⟩
              · have h266 := cond_f hb265 h263
                refine wc_exit ?_
                refine qe_then_exit ?_
                refine qe_then_exit ?_
                obtain rfl := Option.some.inj h266
                have e327 := hx264 _ rfl
                subst e327
                refine qe_block_eq ?_
                obtain rfl := Option.some.inj h255
                exact qe_mid' ⟨_, K256, rfl, rfl, hS259, hl257⟩ ⟨rfl, rfl, rfl, rfl, trivial⟩
            · rintro _ w250 ⟨s247, K248, rfl, rfl, hS251, hl249⟩
              refine qe_seq ?_
              refine wc_seq ?_
              refine wc_region ?_
              refine wl_val wn rfl (rv_move rfl) ?_
              refine wl_val wn rfl (rv_move rfl) ?_
              obtain ⟨r330, hx331, h332⟩ := Option.bind_eq_some_iff.1 h246
              refine wl_call wn rfl (rt_call (vs := [.slice a48 n49 c50, sv r32.1]) co32 rfl) ((ok_impl_DawgRank F) hS251.enter0 (SliceAt.mono ((((((((hl58.trans hl134).trans hl175).trans hl193).trans hl199).trans hl211).trans hl229).trans hS237.le).trans hl249) hs51) hl38 hx331) ?_
              rintro e337 w334 ⟨K333, rfl, hS335, hr336⟩
              refine ⟨_, rfl, ?_⟩
              have hS338 : SH _ _ _ _ _ [] := SH.call0 hS251 hS335
              refine wl_val wn rfl (rv_eql rfl rfl) ?_
              refine wl_val wn rfl (rv_move rfl) ?_
              rcases bool_tf ((r330 == (-1 : Int))) with hb339 | hb339
              · have h340 := cond_t hb339 h332
                refine wl_val (wg rfl rfl hb339) rfl (rv_move rfl) ?_
                refine wl_val (wg rfl rfl hb339) rfl (rv_move rfl) ?_
                obtain ⟨r341, hx342, h343⟩ := Option.bind_eq_some_iff.1 h340
                refine wl_call (wg rfl rfl hb339) rfl (rt_call (vs := [.slice a238 n239 c240, sv r32.1]) co32 rfl) ((ok_impl_DawgRank F) hS338.enter0 (SliceAt.mono (hl249.trans hS335.le) hs241) hl38 hx342) ?_
                rintro e348 w345 ⟨K344, rfl, hS346, hr347⟩
                refine ⟨_, rfl, ?_⟩
                have hS349 : SH _ _ _ _ _ [] := SH.call0 hS338 hS346
                refine wl_val (wg rfl rfl hb339) rfl (rv_move rfl) ?_
                refine wl_val (wg rfl rfl hb339) rfl (rv_eql rfl rfl) ?_
                refine wl_val wn rfl (rv_pick_t rfl hb339 rfl) ?_
                refine wl_val wn rfl (rv_assign rfl) ?_
                refine wl_nil ?_
                refine qe_seq ?_
                refine wc_ret ?_
                obtain rfl := Option.some.inj h343
                exact qe_ret (vs := [_]) Try.results6 ⟨rfl, trivial⟩ ⟨K344, rfl, hS349⟩
              · have h340 := cond_f hb339 h332
                refine wl_un (ug rfl rfl hb339) rfl ?_
                refine wl_un (ug rfl rfl hb339) rfl ?_
                refine wl_un (ug rfl rfl hb339) rfl ?_
                refine wl_un (ug rfl rfl hb339) rfl ?_
                refine wl_un (ug rfl rfl hb339) rfl ?_
                refine wl_val wn rfl (rv_pick_f (v := .bool false) rfl hb339 rfl) ?_
                refine wl_val wn rfl (rv_assign rfl) ?_
                refine wl_nil ?_
                refine qe_seq ?_
                refine wc_ret ?_
                obtain rfl := Option.some.inj h340
                exact qe_ret (vs := [_]) Try.results6 ⟨rfl, trivial⟩ ⟨K333, rfl, hS338⟩

theorem ok_spec_WordsUp (F : Nat) {w : World} {K : KMap} {a1 : Option Addr} {n2 c3 : Nat} {p0_list : List Str} {r : Bool} (hS : SH w K [] w K []) (hs4 : SliceAt tStr K a1 n2 c3 p0_list) (hm : M.spec_WordsUp F p0_list = some r) :
    Calls Try.prog 33 #[.slice a1 n2 c3] w fun e w' => ∃ (K' : KMap), e = .returned (.bool r) ∧ SH w K [] w' K' [] := by
  rw [M.spec_WordsUp] at hm
  refine calls_in Try.func33 rfl Try.ntmps33 rfl ?_
  refine wc_seq ?_
  refine wc_region ?_
  refine wl_val wn rfl (rv_assign (v := .bool false) rfl) ?_
  refine wl_nil ?_
  refine qe_seq ?_
  refine wc_seq ?_
  refine wc_region ?_
  refine wl_val wn rfl (rv_move rfl) ?_
  obtain ⟨r5, hx6, h7⟩ := Option.bind_eq_some_iff.1 hm
  refine wl_call wn rfl (rt_call (vs := [.slice a1 n2 c3]) co54 rfl) ((ok_spec_l4Sorted F) hS.enter0 hs4 hx6) ?_
  rintro e11 w9 ⟨K8, rfl, hS10⟩
  refine ⟨_, rfl, ?_⟩
  have hS12 : SH _ _ _ _ _ [] := SH.call0 hS hS10
  refine wl_val wn rfl (rv_assign rfl) ?_
  refine wl_nil ?_
  refine qe_seq ?_
  refine wc_ret ?_
  obtain rfl := Option.some.inj h7
  exact qe_ret (vs := [_]) Try.results33 ⟨rfl, trivial⟩ ⟨K8, rfl, hS12⟩

theorem ok_impl_DawgOk (F : Nat) {w : World} {K : KMap} {a1 : Option Addr} {n2 c3 : Nat} {p0_d : List GState} {r : Bool} (hS : SH w K [] w K []) (hs4 : SliceAt tGState K a1 n2 c3 p0_d) (hm : M.impl_DawgOk F p0_d = some r) :
    Calls Try.prog 34 #[.slice a1 n2 c3] w fun e w' => ∃ (K' : KMap), e = .returned (.bool r) ∧ SH w K [] w' K' [] := by
  rw [M.impl_DawgOk] at hm
  refine calls_in Try.func34 rfl Try.ntmps34 rfl ?_
  refine wc_seq ?_
  refine wc_region ?_
  refine wl_val wn rfl (rv_assign (v := .bool false) rfl) ?_
  refine wl_nil ?_
  refine qe_seq ?_
  refine wc_seq ?_
  refine wc_region ?_
  refine wl_val wn rfl (rv_move rfl) ?_
  obtain ⟨r5, hx6, h7⟩ := Option.bind_eq_some_iff.1 hm
  refine wl_call wn rfl (rt_call (vs := [.slice a1 n2 c3]) co63 rfl) ((ok_impl_wordsIn F) hS.enter0 hs4 hx6) ?_
  rintro e15 w9 ⟨a11, n12, c13, K8, rfl, hS10, hs14⟩
  refine ⟨_, rfl, ?_⟩
  have hS16 : SH _ _ _ _ _ [_] := SH.call0 hS hS10
  refine wl_val wn rfl (rv_move rfl) ?_
  refine wl_val wn rfl (rv_extract rfl rfl) ?_
  refine wl_val wn rfl (rv_extract rfl rfl) ?_
  refine wl_val wn rfl (rv_assign rfl) ?_
  refine wl_val wn rfl (rv_assign rfl) ?_
  refine wl_nil ?_
  refine qe_seq ?_
  refine wc_seq ?_
  refine wc_region ?_
  refine wl_val wn rfl (rv_move rfl) ?_
  refine wl_val wn rfl (rv_assign rfl) ?_
  refine wl_nil ?_
  refine qe_seq ?_
  refine wc_ret ?_
  obtain rfl := Option.some.inj h7
  have hS17 : SH _ _ _ _ _ [] := SH.sublist hS16 (.cons _ .slnil)
  exact qe_ret (vs := [_]) Try.results34 ⟨rfl, trivial⟩ ⟨K8, rfl, hS17⟩

theorem ok_laws_foTexts (F : Nat) {w : World} {K : KMap} {a1 : Option Addr} {n2 c3 : Nat} {a5 : Option Addr} {n6 c7 : Nat} {p0_a : List Str} {p1_b : List Str} {r : Bool} (hS : SH w K [] w K []) (hs4 : SliceAt tStr K a1 n2 c3 p0_a) (hs8 : SliceAt tStr K a5 n6 c7 p1_b) (hm : M.laws_foTexts F p0_a p1_b = some r) :
    Calls Try.prog 35 #[.slice a1 n2 c3, .slice a5 n6 c7] w fun e w' => ∃ (K' : KMap), e = .returned (.bool r) ∧ SH w K [] w' K' [] := by
  rw [M.laws_foTexts] at hm
  refine calls_in Try.func35 rfl Try.ntmps35 rfl ?_
  refine wc_seq ?_
  refine wc_region ?_
  refine wl_val wn rfl (rv_assign (v := .bool false) rfl) ?_
  refine wl_nil ?_
  refine qe_seq ?_
  refine wc_seq ?_
  refine wc_seq ?_
  refine wc_region ?_
  refine wl_val wn rfl (rv_move rfl) ?_
  refine wl_val wn rfl (rv_len (t := tStr) Try.underlying26 rfl hs4) ?_
  refine wl_val wn rfl (rv_move rfl) ?_
  refine wl_val wn rfl (rv_len (t := tStr) Try.underlying26 rfl hs8) ?_
  refine wl_val wn rfl (rv_neq rfl rfl) ?_
  refine wl_nil ?_
  refine qe_seq ?_
  refine wc_cond rfl (fun hb9 => ?_) (fun hb9 => ?_)
  · have h10 := cond_t hb9 hm
    refine wc_seq ?_
    refine wc_region ?_
    refine wl_val wn rfl (rv_assign (v := .bool false) rfl) ?_
    refine wl_nil ?_
    refine qe_seq ?_
    refine wc_ret ?_
    refine qe_then_ret ?_
    obtain rfl := Option.some.inj h10
    exact qe_ret (vs := [_]) Try.results35 ⟨rfl, trivial⟩ ⟨K, rfl, hS⟩
  · have h10 := cond_f hb9 hm
    refine wc_skip ?_
    refine qe_seq ?_
    refine wc_seq ?_
    refine wc_seq ?_
    refine wc_region ?_
    refine wl_val wn rfl (rv_assign (v := .int .i64 0) rfl) ?_
    refine wl_nil ?_
    refine qe_seq ?_
    obtain ⟨o11, h12, h13⟩ := Option.bind_eq_some_iff.1 h10
    refine wc_cutg (fun E' w' => ∃ (s14 : Unit) (K15 : KMap), o11 = .inl s14 ∧ E' = [] ∧ SH w K [] w' K15 [] ∧ KLe K K15) ?_ ?_
    · refine wc_block ?_
      obtain ⟨r20, h21, h22⟩ := Option.bind_eq_some_iff.1 h12
      refine wc_while' (fun (s19 : Int) E' w' => ∃ (K23 : KMap), E' = [(0, .slice a1 n2 c3), (1, .slice a5 n6 c7), (5, .int .i64 s19)] ∧ SH w K [] w' K23 [] ∧ KLe K K23 ∧ rng64 s19) h21 ⟨K, rfl, hS, (KLe.refl _), (by decide : rng64 0)⟩ ⟨rfl, rfl, rfl, trivial⟩ ?_
      rintro s19 _ w25 r28 h29 hx30 ⟨K23, rfl, hS26, hl24, hr27⟩
      refine wc_seq ?_
      refine wc_seq ?_
      refine wc_region ?_
      refine wl_val wn rfl (rv_move rfl) ?_
      refine wl_val wn rfl (rv_move rfl) ?_
      refine wl_val wn rfl (rv_len (t := tStr) Try.underlying26 rfl (SliceAt.mono hl24 hs4)) ?_
      refine wl_val wn rfl (rv_lss rfl rfl) ?_
      refine wl_nil ?_
      refine qe_seq ?_
      refine wc_cond rfl (fun hb31 => ?_) (fun hb31 => ?_)
      · have h32 := cond_t hb31 h29
        refine wc_skip ?_
        refine qe_seq ?_
        refine wc_seq ?_
        refine wc_block ?_
        refine wc_seq ?_
        refine wc_quiet mixed (by kernel_rfl) hS26 ?_
        refine wq_val wn rfl (fun _ _ => (rv_move rfl)) ?_
        refine wq_val wn rfl (fun _ _ => (rv_move rfl)) ?_
        obtain ⟨x33, hx34, h35⟩ := Option.bind_eq_some_iff.1 h32
        refine wq_indexAddr (t := tStr) wn rfl Try.underlying26 tf9 rfl rfl (SliceAt.mono hl24 hs4) hx34 ?_
        intro b36 o37 u38 hu39 ha40
        obtain ⟨rfl, hl41⟩ := hu39
        have ha42 : AtK _ b36 o37 [sv x33] := ha40
        refine wq_val wn rfl (rq_load1 tf9 rfl (ha42 0 _ rfl)) ?_
        refine wq_val wn rfl (fun _ _ => (rv_move rfl)) ?_
        refine wq_val wn rfl (fun _ _ => (rv_move rfl)) ?_
        obtain ⟨x43, hx44, h45⟩ := Option.bind_eq_some_iff.1 h35
        refine wq_indexAddr (t := tStr) wn rfl Try.underlying26 tf9 rfl rfl (SliceAt.mono hl24 hs8) hx44 ?_
        intro b46 o47 u48 hu49 ha50
        obtain ⟨rfl, hl51⟩ := hu49
        have ha52 : AtK _ b46 o47 [sv x43] := ha50
        refine wq_val wn rfl (rq_load1 tf9 rfl (ha52 0 _ rfl)) ?_
        refine wq_val wn rfl (fun _ _ => (rv_sneq rfl rfl)) ?_
        refine wq_nil ?_
        rintro w54 ⟨K53, hS55, hl56⟩
        refine qe_seq ?_
        refine wc_cond rfl (fun hb57 => ?_) (fun hb57 => ?_)
        · have h58 := cond_t hb57 h45
          refine wc_seq ?_
          refine wc_region ?_
          refine wl_val wn rfl (rv_assign (v := .bool false) rfl) ?_
          refine wl_nil ?_
          refine qe_seq ?_
          refine wc_ret ?_
          refine qe_block_ret ?_
          refine qe_then_ret ?_
          refine qe_then_ret ?_
          obtain rfl := Option.some.inj h58
          have e59 := hx30 _ rfl
          subst e59
          refine qe_block_ret ?_
          refine qe_then_ret ?_
          obtain rfl := Option.some.inj h22
          refine qe_then_ret ?_
          obtain rfl := Option.some.inj h13
          exact qe_ret (vs := [_]) Try.results35 ⟨rfl, trivial⟩ ⟨K53, rfl, hS55⟩
        · have h58 := cond_f hb57 h45
          refine wc_skip ?_
          refine qe_block ?_
          refine qe_seq ?_
          refine wc_region ?_
          refine wl_val wn rfl (rv_move rfl) ?_
          refine wl_val wn rfl (rv_add rfl rfl) ?_
          refine wl_val wn rfl (rv_assign rfl) ?_
          refine wl_nil ?_
          obtain rfl := Option.some.inj h58
          exact qe_mid' ⟨_, rfl, K53, rfl, hS55, (hl24.trans hl56), (w64_rng _)⟩ ⟨rfl, rfl, rfl, trivial⟩
      · have h32 := cond_f hb31 h29
        refine wc_exit ?_
        refine qe_then_exit ?_
        refine qe_then_exit ?_
        obtain rfl := Option.some.inj h32
        have e60 := hx30 _ rfl
        subst e60
        refine qe_block_eq ?_
        obtain rfl := Option.some.inj h22
        exact qe_mid' ⟨_, K23, rfl, rfl, hS26, hl24⟩ trivial
    · rintro _ w17 ⟨s14, K15, rfl, rfl, hS18, hl16⟩
      refine qe_seq ?_
      refine wc_seq ?_
      refine wc_region ?_
      refine wl_val wn rfl (rv_assign (v := .bool true) rfl) ?_
      refine wl_nil ?_
      refine qe_seq ?_
      refine wc_ret ?_
      obtain rfl := Option.some.inj h13
      exact qe_ret (vs := [_]) Try.results35 ⟨rfl, trivial⟩ ⟨K15, rfl, hS18⟩

theorem ok_stringslite_HasPrefix (F : Nat) {w : World} {K : KMap} {p0_s : Str} {p1_prefix : Str} {r : Bool} (hS : SH w K [] w K []) (hl1 : p0_s.length ≤ maxLen) (hl2 : p1_prefix.length ≤ maxLen) (hm : M.stringslite_HasPrefix F p0_s p1_prefix = some r) :
    Calls Try.prog 83 #[sv p0_s, sv p1_prefix] w fun e w' => ∃ (K' : KMap), e = .returned (.bool r) ∧ SH w K [] w' K' [] := by
  rw [M.stringslite_HasPrefix] at hm
  refine calls_in Try.func83 rfl Try.ntmps83 rfl ?_
  refine wc_seq ?_
  refine wc_region ?_
  refine wl_val wn rfl (rv_assign (v := .bool false) rfl) ?_
  refine wl_nil ?_
  refine qe_seq ?_
  refine wc_seq ?_
  refine wc_region ?_
  refine wl_val wn rfl (rv_move rfl) ?_
  refine wl_val wn rfl (rv_slen Try.underlying9 rfl) ?_
  refine wl_val wn rfl (rv_move rfl) ?_
  refine wl_val wn rfl (rv_slen Try.underlying9 rfl) ?_
  refine wl_val wn rfl (rv_geq rfl rfl) ?_
  refine wl_val wn rfl (rv_move rfl) ?_
  rcases bool_tf (decide ((p1_prefix.length : Int) ≤ (p0_s.length : Int))) with hb3 | hb3
  · have h4 := cond_t hb3 hm
    refine wl_val (wg rfl rfl hb3) rfl (rv_move rfl) ?_
    refine wl_val (wg rfl rfl hb3) rfl (rv_move rfl) ?_
    refine wl_val (wg rfl rfl hb3) rfl (rv_slen Try.underlying9 rfl) ?_
    obtain ⟨x5, hx6, h7⟩ := Option.bind_eq_some_iff.1 h4
    refine wl_val (wg rfl rfl hb3) rfl (rv_ssl_h Try.underlying9 rfl rfl hx6) ?_
    refine wl_val (wg rfl rfl hb3) rfl (rv_move rfl) ?_
    refine wl_val (wg rfl rfl hb3) rfl (rv_seql rfl rfl) ?_
    refine wl_val wn rfl (rv_pick_t rfl hb3 rfl) ?_
    refine wl_val wn rfl (rv_assign rfl) ?_
    refine wl_nil ?_
    refine qe_seq ?_
    refine wc_ret ?_
    obtain rfl := Option.some.inj h7
    exact qe_ret (vs := [_]) Try.results83 ⟨rfl, trivial⟩ ⟨K, rfl, hS⟩
  · have h4 := cond_f hb3 hm
    refine wl_un (ug rfl rfl hb3) rfl ?_
    refine wl_un (ug rfl rfl hb3) rfl ?_
    refine wl_un (ug rfl rfl hb3) rfl ?_
    refine wl_un (ug rfl rfl hb3) rfl ?_
    refine wl_un (ug rfl rfl hb3) rfl ?_
    refine wl_un (ug rfl rfl hb3) rfl ?_
    refine wl_val wn rfl (rv_pick_f (v := .bool false) rfl hb3 rfl) ?_
    refine wl_val wn rfl (rv_assign rfl) ?_
    refine wl_nil ?_
    refine qe_seq ?_
    refine wc_ret ?_
    obtain rfl := Option.some.inj h4
    exact qe_ret (vs := [_]) Try.results83 ⟨rfl, trivial⟩ ⟨K, rfl, hS⟩

theorem ok_strings_HasPrefix (F : Nat) {w : World} {K : KMap} {p0_s : Str} {p1_prefix : Str} {r : Bool} (hS : SH w K [] w K []) (hl1 : p0_s.length ≤ maxLen) (hl2 : p1_prefix.length ≤ maxLen) (hm : M.strings_HasPrefix F p0_s p1_prefix = some r) :
    Calls Try.prog 65 #[sv p0_s, sv p1_prefix] w fun e w' => ∃ (K' : KMap), e = .returned (.bool r) ∧ SH w K [] w' K' [] := by
  rw [M.strings_HasPrefix] at hm
  refine calls_in Try.func65 rfl Try.ntmps65 rfl ?_
  refine wc_seq ?_
  refine wc_region ?_
  refine wl_val wn rfl (rv_assign (v := .bool false) rfl) ?_
  refine wl_nil ?_
  refine qe_seq ?_
  refine wc_seq ?_
  refine wc_region ?_
  refine wl_val wn rfl (rv_move rfl) ?_
  refine wl_val wn rfl (rv_move rfl) ?_
  obtain ⟨r3, hx4, h5⟩ := Option.bind_eq_some_iff.1 hm
  refine wl_call wn rfl (rt_call (vs := [sv p0_s, sv p1_prefix]) co83 rfl) ((ok_stringslite_HasPrefix F) hS.enter0 hl1 hl2 hx4) ?_
  rintro e9 w7 ⟨K6, rfl, hS8⟩
  refine ⟨_, rfl, ?_⟩
  have hS10 : SH _ _ _ _ _ [] := SH.call0 hS hS8
  refine wl_val wn rfl (rv_assign rfl) ?_
  refine wl_nil ?_
  refine qe_seq ?_
  refine wc_ret ?_
  obtain rfl := Option.some.inj h5
  exact qe_ret (vs := [_]) Try.results65 ⟨rfl, trivial⟩ ⟨K6, rfl, hS10⟩

theorem ok_impl_DawgHead (F : Nat) {w : World} {K : KMap} {a1 : Option Addr} {n2 c3 : Nat} {p0_d : List GState} {p1_s : Str} {r : (List Str)} (hS : SH w K [] w K []) (hs4 : SliceAt tGState K a1 n2 c3 p0_d) (hl5 : p1_s.length ≤ maxLen) (hm : M.impl_DawgHead F p0_d p1_s = some r) :
    Calls Try.prog 36 #[.slice a1 n2 c3, sv p1_s] w fun e w' => ∃ (a_1 : Option Addr) (n_2 c_3 : Nat) (K' : KMap), e = .returned (.slice a_1 n_2 c_3) ∧ SH w K [] w' K' [tail (.slice a_1 n_2 c_3) 9 1] ∧ SliceAt tStr K' a_1 n_2 c_3 r := by
  rw [M.impl_DawgHead] at hm
  refine calls_in Try.func36 rfl Try.ntmps36 rfl ?_
  refine wc_seq ?_
  refine wc_region ?_
  refine wl_val wn rfl (rv_assign (v := .slice none 0 0) rfl) ?_
  refine wl_nil ?_
  refine qe_seq ?_
  refine wc_seq ?_
  refine wc_region ?_
  refine wl_val wn rfl (rv_move rfl) ?_
  obtain ⟨r6, hx7, h8⟩ := Option.bind_eq_some_iff.1 hm
  refine wl_call wn rfl (rt_call (vs := [.slice a1 n2 c3]) co63 rfl) ((ok_impl_wordsIn F) hS.enter0 hs4 hx7) ?_
  rintro e16 w10 ⟨a12, n13, c14, K9, rfl, hS11, hs15⟩
  refine ⟨_, rfl, ?_⟩
  have hS17 : SH _ _ _ _ _ [_] := SH.call0 hS hS11
  refine wl_val wn rfl (rv_move rfl) ?_
  refine wl_val wn rfl (rv_extract rfl rfl) ?_
  refine wl_val wn rfl (rv_extract rfl rfl) ?_
  refine wl_val wn rfl (rv_assign rfl) ?_
  refine wl_val wn rfl (rv_assign rfl) ?_
  refine wl_nil ?_
  refine qe_seq ?_
  refine wc_seq ?_
  refine wc_region ?_
  refine wl_buildSlice0 tStr wn rfl Try.underlying26 tf9 hS17 ?_
  intro a18 w19 K20 hl21 hs22 hS23
  refine wl_val wn rfl (rv_assign rfl) ?_
  refine wl_nil ?_
  refine qe_seq ?_
  refine wc_seq ?_
  refine wc_seq ?_
  refine wc_region ?_
  refine wl_val wn rfl (rv_move rfl) ?_
  refine wl_val wn rfl (rv_len (t := tStr) Try.underlying26 rfl (SliceAt.mono hl21 hs15)) ?_
  refine wl_val wn rfl (rv_move (v := .int .i64 0) rfl) ?_
  refine wl_nil ?_
  refine qe_seq ?_
  obtain ⟨o24, h25, h26⟩ := Option.bind_eq_some_iff.1 h8
  refine wc_cutg (fun E' w' => ∃ (a31 : Option Addr) (n32 c33 : Nat) (K27 : KMap), E' = [(7, .slice a31 n32 c33)] ∧ SH w K [] w' K27 [tail (.slice a31 n32 c33) 9 1] ∧ KLe K20 K27 ∧ SliceAt tStr K27 a31 n32 c33 o24) ?_ ?_
  · refine wc_block ?_
    obtain ⟨r36, h37, h38⟩ := Option.bind_eq_some_iff.1 h25
    have hS48 : SH _ _ _ _ _ [_] := SH.sublist hS23 (.cons_cons _ (.cons _ .slnil))
    refine wc_forE' (fun (i39 : Nat) (s35 : (List Str)) E' w' => ∃ (a44 : Option Addr) (n45 c46 : Nat) (K40 : KMap), E' = [(1, sv p1_s), (7, .slice a44 n45 c46), (16, .slice a12 n13 c14), (17, .int .i64 (r6.1.length : Int)), (18, .int .i64 ((i39 : Nat) : Int))] ∧ SH w K [] w' K40 [tail (.slice a44 n45 c46) 9 1] ∧ KLe K20 K40 ∧ SliceAt tStr K40 a44 n45 c46 s35) h37 ⟨a18, 0, 0, K20, rfl, hS48, (KLe.refl _), hs22⟩ ⟨rfl, rfl, rfl, rfl, rfl, trivial⟩ ?_ ?_
    · rintro i39 s35 _ w42 r49 hi50 h51 ⟨a44, n45, c46, K40, rfl, hS43, hl41, hs47⟩
      refine wc_seq (wc_region ?_)
      refine wl_val wn rfl (rv_lss rfl rfl) ?_
      refine wl_nil (qe_seq (wc_seq ?_))
      refine wc_cond_t rfl (decide_eq_true (by omega)) (wc_skip (qe_seq (wc_seq ?_)))
      refine wc_block ?_
      refine wc_seq ?_
      refine wc_region ?_
      obtain ⟨x53, hx54, h55⟩ := Option.bind_eq_some_iff.1 h51
      refine wl_indexAddr (t := tStr) wn rfl Try.underlying26 tf9 rfl rfl (SliceAt.mono (hl21.trans hl41) hs15) hx54 ?_
      intro b56 o57 u58 hu59 ha60
      obtain ⟨rfl, hl61⟩ := hu59
      have ha62 : AtK _ b56 o57 [sv x53] := ha60
      refine wl_val wn rfl (rv_load1 tf9 rfl hS43 (ha62 0 _ rfl)) ?_
      refine wl_val wn rfl (rv_assign rfl) ?_
      refine wl_nil ?_
      refine qe_seq ?_
      refine wc_seq ?_
      refine wc_region ?_
      refine wl_val wn rfl (rv_move rfl) ?_
      refine wl_val wn rfl (rv_move rfl) ?_
      obtain ⟨r63, hx64, h65⟩ := Option.bind_eq_some_iff.1 h55
      refine wl_call wn rfl (rt_call (vs := [sv x53, sv p1_s]) co65 rfl) ((ok_strings_HasPrefix F) hS43.enter0 hl61 hl5 hx64) ?_
      rintro e69 w67 ⟨K66, rfl, hS68⟩
      refine ⟨_, rfl, ?_⟩
      have hS70 : SH _ _ _ _ _ [_] := SH.call0 hS43 hS68
      refine wl_nil ?_
      refine qe_seq ?_
      refine wc_cond rfl (fun hb71 => ?_) (fun hb71 => ?_)
      · have h72 := cond_t hb71 h65
        refine wc_region ?_
        refine wl_val wn rfl (rv_move rfl) ?_
        refine wl_val wn rfl (rv_move rfl) ?_
        refine wl_buildSlice (t := tStr) (n := 1) (pv := [(0, sv x53)]) (cs := [sv x53]) (xs := [x53]) wn rfl Try.underlying26 tf9 rfl rfl rfl (by kernel_rfl) rfl rfl (lit_cons (u := sv x53) (z := x53) ⟨rfl, hl61⟩ lit_nil) hS70 ?_
        intro a73 w74 K75 hl76 hs77 hS78
        have hS79 : SH _ _ _ _ _ [_, _] := SH.front (p := [_]) hS78
        obtain ⟨x80, hx81, h82⟩ := Option.bind_eq_some_iff.1 h72
        refine wl_append (t := tStr) wn rfl Try.underlying26 tf9 rfl rfl rfl rfl rfl (SliceAt.mono (hS68.le.trans hl76) hs47) hs77 hx81 hS79 ?_
        intro a83 n84 c85 w86 K87 hl88 hs89 hS90
        refine wl_val wn rfl (rv_assign rfl) ?_
        refine wl_nil ?_
        refine qe_block ?_
        refine qe_seq (wc_region ?_)
        refine wl_val wn rfl (rv_add_to rfl rfl (w64_succ hi50 (SliceAt.max (SliceAt.mono hl21 hs15)))) ?_
        refine wl_val wn rfl (rv_move rfl) ?_
        refine wl_nil ?_
        obtain rfl := Option.some.inj h82
        have hS91 : SH _ _ _ _ _ [_] := SH.sublist hS90 (.cons_cons _ (.cons _ .slnil))
        exact qe_mid' ⟨a83, n84, c85, K87, rfl, hS91, (((hl41.trans hS68.le).trans hl76).trans hl88), hs89⟩ ⟨rfl, rfl, rfl, rfl, rfl, trivial⟩
      · have h72 := cond_f hb71 h65
        refine wc_skip ?_
        refine qe_block ?_
        refine qe_seq (wc_region ?_)
        refine wl_val wn rfl (rv_add_to rfl rfl (w64_succ hi50 (SliceAt.max (SliceAt.mono hl21 hs15)))) ?_
        refine wl_val wn rfl (rv_move rfl) ?_
        refine wl_nil ?_
        obtain rfl := Option.some.inj h72
        exact qe_mid' ⟨a44, n45, c46, K66, rfl, hS70, (hl41.trans hS68.le), (SliceAt.mono hS68.le hs47)⟩ ⟨rfl, rfl, rfl, rfl, rfl, trivial⟩
    · rintro s35 _ w42 hr92 ⟨a44, n45, c46, K40, rfl, hS43, hl41, hs47⟩
      subst hr92
      refine wc_seq (wc_region ?_)
      refine wl_val wn rfl (rv_lss rfl rfl) ?_
      refine wl_nil (qe_seq (wc_seq ?_))
      refine wc_cond_f rfl (decide_eq_false (by omega)) ?_
      refine wc_exit ?_
      refine qe_then_exit ?_
      refine qe_then_exit ?_
      refine qe_block_eq ?_
      obtain rfl := Option.some.inj h38
      exact qe_mid' ⟨a44, n45, c46, K40, rfl, hS43, hl41, hs47⟩ ⟨rfl, trivial⟩
  · rintro _ w29 ⟨a31, n32, c33, K27, rfl, hS30, hl28, hs34⟩
    refine qe_seq ?_
    refine wc_seq ?_
    refine wc_region ?_
    refine wl_val wn rfl (rv_move rfl) ?_
    refine wl_val wn rfl (rv_assign rfl) ?_
    refine wl_nil ?_
    refine qe_seq ?_
    refine wc_ret ?_
    obtain rfl := Option.some.inj h26
    exact qe_ret (vs := [_]) Try.results36 ⟨rfl, trivial⟩ ⟨a31, n32, c33, K27, rfl, hS30, hs34⟩
end Go.Proofs.Ytdopcpaapniioaa
