/-
  Walks of the functions. Printed by gen.py.
-/
import Derived.Test.YtdopcpaapniioaaWalkA5
set_option linter.unusedVariables false
set_option maxRecDepth 100000
namespace Go.Proofs.Ytdopcpaapniioaa
open Go Go.Fk Go.RowKit

theorem ok_spec_DrawDawgRank (F : Nat) {w : World} {K : KMap} {a1 : Option Addr} {n2 c3 : Nat} {p0_code : List UInt8} {r : (List GState) × Str} (hS : SH w K [] w K []) (hs4 : SliceAt tU8 K a1 n2 c3 p0_code) (hm : M.spec_DrawDawgRank F p0_code = some r) :
    Calls Try.prog 46 #[.slice a1 n2 c3] w fun e w' => ∃ (a_1 : Option Addr) (n_2 c_3 : Nat) (K' : KMap), e = .returned (.tuple #[.slice a_1 n_2 c_3, sv r.2]) ∧ SH w K [] w' K' [tail (.slice a_1 n_2 c_3) 33 3] ∧ SliceAt tGState K' a_1 n_2 c_3 r.1 ∧ r.2.length ≤ maxLen := by
  rw [M.spec_DrawDawgRank] at hm
  refine calls_in Try.func46 rfl Try.ntmps46 rfl ?_
  refine wc_seq ?_
  refine wc_region ?_
  refine wl_val wn rfl (rv_assign (v := .slice none 0 0) rfl) ?_
  refine wl_val wn rfl (rv_assign (v := sv []) rfl) ?_
  refine wl_nil ?_
  refine qe_seq ?_
  refine wc_seq ?_
  refine wc_region ?_
  refine wl_val wn rfl (rv_move rfl) ?_
  obtain ⟨r5, hx6, h7⟩ := Option.bind_eq_some_iff.1 hm
  refine wl_call wn rfl (rt_call (vs := [.slice a1 n2 c3]) co48 rfl) ((ok_spec_l30Open F) hS.enter0 hs4 hx6) ?_
  rintro e17 w9 ⟨g11, a12, n13, c14, K8, rfl, hS10, hs15, hr16⟩
  refine ⟨_, rfl, ?_⟩
  have hS18 : SH _ _ _ _ _ [_] := SH.call0 hS hS10
  refine wl_val wn rfl (rv_assign rfl) ?_
  refine wl_nil ?_
  refine qe_seq ?_
  refine wc_seq ?_
  refine wc_region ?_
  refine wl_val wn rfl (rv_move rfl) ?_
  obtain ⟨r19, hx20, h21⟩ := Option.bind_eq_some_iff.1 h7
  refine wl_call wn rfl (rt_call (vs := [.pointer (some ⟨g11, 0, none⟩)]) co66 rfl) ((ok_spec_l30Dawg F) (SH.enter (Lin := [_]) hS18) hs15 hr16 hx20) ?_
  rintro e34 w23 ⟨a25, n26, c27, a29, n30, c31, K22, rfl, hS24, hs28, hs32, hr33⟩
  refine ⟨_, rfl, ?_⟩
  have hS35 : SH _ _ _ _ _ [_, _] := SH.call (Lin := [_]) hS18 hS24
  refine wl_val wn rfl (rv_assign rfl) ?_
  refine wl_nil ?_
  refine qe_seq ?_
  refine wc_seq ?_
  refine wc_region ?_
  refine wl_val wn rfl (rv_move rfl) ?_
  refine wl_val wn rfl (rv_move rfl) ?_
  refine wl_buildSlice (t := tStr) (n := 8) (pv := [(0, sv [99, 97, 116]), (1, sv [99, 97, 116, 115]), (2, sv [99, 97]), (3, sv [100, 111, 103]), (4, sv [116, 111, 112, 115]), (5, sv []), (6, sv [122, 122]), (7, sv [114, 117, 110])]) (cs := [sv [99, 97, 116], sv [99, 97, 116, 115], sv [99, 97], sv [100, 111, 103], sv [116, 111, 112, 115], sv [], sv [122, 122], sv [114, 117, 110]]) (xs := [([99, 97, 116] : Str), ([99, 97, 116, 115] : Str), ([99, 97] : Str), ([100, 111, 103] : Str), ([116, 111, 112, 115] : Str), ([] : Str), ([122, 122] : Str), ([114, 117, 110] : Str)]) wn rfl Try.underlying26 tf9 rfl rfl rfl (by kernel_rfl) rfl rfl (lit_cons (u := sv [99, 97, 116]) (z := ([99, 97, 116] : Str)) ⟨rfl, (by decide : ([99, 97, 116] : Str).length ≤ maxLen)⟩ (lit_cons (u := sv [99, 97, 116, 115]) (z := ([99, 97, 116, 115] : Str)) ⟨rfl, (by decide : ([99, 97, 116, 115] : Str).length ≤ maxLen)⟩ (lit_cons (u := sv [99, 97]) (z := ([99, 97] : Str)) ⟨rfl, (by decide : ([99, 97] : Str).length ≤ maxLen)⟩ (lit_cons (u := sv [100, 111, 103]) (z := ([100, 111, 103] : Str)) ⟨rfl, (by decide : ([100, 111, 103] : Str).length ≤ maxLen)⟩ (lit_cons (u := sv [116, 111, 112, 115]) (z := ([116, 111, 112, 115] : Str)) ⟨rfl, (by decide : ([116, 111, 112, 115] : Str).length ≤ maxLen)⟩ (lit_cons (u := sv []) (z := ([] : Str)) ⟨rfl, (by decide : ([] : Str).length ≤ maxLen)⟩ (lit_cons (u := sv [122, 122]) (z := ([122, 122] : Str)) ⟨rfl, (by decide : ([122, 122] : Str).length ≤ maxLen)⟩ (lit_cons (u := sv [114, 117, 110]) (z := ([114, 117, 110] : Str)) ⟨rfl, (by decide : ([114, 117, 110] : Str).length ≤ maxLen)⟩ lit_nil)))))))) hS35 ?_
  intro a36 w37 K38 hl39 hs40 hS41
  obtain ⟨r42, hx43, h44⟩ := Option.bind_eq_some_iff.1 h21
  have hS45 : SH _ _ _ _ _ [_, _, _] := SH.front (p := [_, _]) hS41
  refine wl_call wn rfl (rt_call (vs := [.pointer (some ⟨g11, 0, none⟩), .slice a36 8 8]) co49 rfl) ((ok_spec_l30Rd_of F) (SH.enter (Lin := [_]) hS45) (SliceAt.mono hl39 hs32) hr33 hs40 hx43) ?_
  rintro e55 w47 ⟨a50, n51, c52, K46, rfl, hS48, hl49, hs53, hr54⟩
  refine ⟨_, rfl, ?_⟩
  have hS56 : SH _ _ _ _ _ [_, _, _] := SH.call (Lin := [_]) hS45 hS48
  refine wl_val wn rfl (rv_assign rfl) ?_
  refine wl_val wn rfl (rv_assign rfl) ?_
  refine wl_nil ?_
  refine qe_seq ?_
  refine wc_ret ?_
  obtain rfl := Option.some.inj h44
  have hS57 : SH _ _ _ _ _ [_] := SH.sublist hS56 (.cons _ (.cons _ (.cons_cons _ .slnil)))
  exact qe_ret (vs := [_, _]) Try.results46 ⟨rfl, rfl, trivial⟩ ⟨a25, n26, c27, K46, rfl, hS57, (SliceAt.mono (hl39.trans hS48.le) hs28), hl49⟩

set_option maxHeartbeats 2000000 in
theorem ok_laws_FnDawgRank (F : Nat) {w : World} {K : KMap} {a1 : Option Addr} {n2 c3 : Nat} {p0_code : List UInt8} {r : Bool} (hS : SH w K [] w K []) (hs4 : SliceAt tU8 K a1 n2 c3 p0_code) (hm : M.laws_FnDawgRank F p0_code = some r) :
    Calls Try.prog 13 #[.slice a1 n2 c3] w fun e w' => ∃ (K' : KMap), e = .returned (.bool r) ∧ SH w K [] w' K' [] := by
  rw [M.laws_FnDawgRank] at hm
  refine calls_in Try.func13 rfl Try.ntmps13 rfl ?_
  refine wc_seq ?_
  refine wc_region ?_
  refine wl_val wn rfl (rv_assign (v := .bool false) rfl) ?_
  refine wl_nil ?_
  refine qe_seq ?_
  refine wc_seq ?_
  refine wc_seq ?_
  refine wc_region ?_
  refine wl_val wn rfl (rv_move rfl) ?_
  refine wl_val wn rfl (rv_len (t := tU8) Try.underlying22 rfl hs4) ?_
  refine wl_val wn rfl (rv_gtr rfl rfl) ?_
  refine wl_nil ?_
  refine qe_seq ?_
  refine wc_cond rfl (fun hb5 => ?_) (fun hb5 => ?_)
  · have h6 := cond_t hb5 hm
    refine wc_seq ?_
    refine wc_region ?_
    refine wl_val wn rfl (rv_assign (v := .bool true) rfl) ?_
    refine wl_nil ?_
    refine qe_seq ?_
    refine wc_ret ?_
    refine qe_then_ret ?_
    obtain rfl := Option.some.inj h6
    exact qe_ret (vs := [_]) Try.results13 ⟨rfl, trivial⟩ ⟨K, rfl, hS⟩
  · have h6 := cond_f hb5 hm
    refine wc_skip ?_
    refine qe_seq ?_
    refine wc_seq ?_
    refine wc_region ?_
    refine wl_val wn rfl (rv_move rfl) ?_
    obtain ⟨r7, hx8, h9⟩ := Option.bind_eq_some_iff.1 h6
    refine wl_call wn rfl (rt_call (vs := [.slice a1 n2 c3]) co46 rfl) ((ok_spec_DrawDawgRank F) hS.enter0 hs4 hx8) ?_
    rintro e18 w11 ⟨a13, n14, c15, K10, rfl, hS12, hs16, hl17⟩
    refine ⟨_, rfl, ?_⟩
    have hS19 : SH _ _ _ _ _ [_] := SH.call0 hS hS12
    refine wl_val wn rfl (rv_move rfl) ?_
    refine wl_val wn rfl (rv_extract rfl rfl) ?_
    refine wl_val wn rfl (rv_extract rfl rfl) ?_
    refine wl_val wn rfl (rv_assign rfl) ?_
    refine wl_val wn rfl (rv_assign rfl) ?_
    refine wl_nil ?_
    refine qe_seq ?_
    refine wc_seq ?_
    refine wc_region ?_
    refine wl_val wn rfl (rv_move rfl) ?_
    refine wl_val wn rfl (rv_move rfl) ?_
    obtain ⟨r20, hx21, h22⟩ := Option.bind_eq_some_iff.1 h9
    refine wl_call wn rfl (rt_call (vs := [.slice a13 n14 c15, sv r7.2]) co32 rfl) ((ok_impl_DawgRank F) hS19.enter0 hs16 hl17 hx21) ?_
    rintro e27 w24 ⟨K23, rfl, hS25, hr26⟩
    refine ⟨_, rfl, ?_⟩
    have hS28 : SH _ _ _ _ _ [_] := SH.call0 hS19 hS25
    refine wl_val wn rfl (rv_assign rfl) ?_
    refine wl_nil ?_
    refine qe_seq ?_
    refine wc_seq ?_
    refine wc_seq ?_
    obtain ⟨o29, h30, h31⟩ := Option.bind_eq_some_iff.1 h22
    refine wc_cutg (fun E' w' => ∃ (K32 : KMap), E' = [(3, .slice a13 n14 c15), (4, sv r7.2), (5, .int .i64 r20), (36, .bool o29)] ∧ SH w K [] w' K32 [] ∧ KLe K23 K32) ?_ ?_
    · refine wc_region ?_
      refine wl_val wn rfl (rv_move rfl) ?_
      refine wl_val wn rfl (rv_move rfl) ?_
      refine wl_val wn rfl (rv_move rfl) ?_
      obtain ⟨r36, hx37, h38⟩ := Option.bind_eq_some_iff.1 h30
      refine wl_call wn rfl (rt_call (vs := [.slice a13 n14 c15, sv r7.2]) co45 rfl) ((ok_spec_DawgRank F) hS28.enter0 (SliceAt.mono hS25.le hs16) hl17 hx37) ?_
      rintro e43 w40 ⟨K39, rfl, hS41, hr42⟩
      refine ⟨_, rfl, ?_⟩
      have hS44 : SH _ _ _ _ _ [_] := SH.call0 hS28 hS41
      refine wl_val wn rfl (rv_neq rfl rfl) ?_
      refine wl_val wn rfl (rv_move rfl) ?_
      rcases bool_tf ((!(r20 == r36))) with hb45 | hb45
      · have h46 := cond_t hb45 h38
        refine wl_un (ug rfl rfl hb45) rfl ?_
        refine wl_un (ug rfl rfl hb45) rfl ?_
        refine wl_un (ug rfl rfl hb45) rfl ?_
        refine wl_un (ug rfl rfl hb45) rfl ?_
        refine wl_un (ug rfl rfl hb45) rfl ?_
        refine wl_val wn rfl (rv_pick_t (v := .bool true) rfl hb45 rfl) ?_
        refine wl_val wn rfl (rv_move rfl) ?_
        refine wl_un (ug rfl rfl rfl) rfl ?_
        refine wl_un (ug rfl rfl rfl) rfl ?_
        refine wl_un (ug rfl rfl rfl) rfl ?_
        refine wl_val wn rfl (rv_pick_t (v := .bool true) rfl rfl rfl) ?_
        refine wl_nil ?_
        obtain rfl := Option.some.inj h46
        have hS47 : SH _ _ _ _ _ [] := SH.sublist hS44 (.cons _ .slnil)
        exact qe_mid' ⟨K39, rfl, hS47, hS41.le⟩ ⟨rfl, rfl, rfl, rfl, trivial⟩
      · have h46 := cond_f hb45 h38
        refine wl_val (wg rfl rfl hb45) rfl (rv_move rfl) ?_
        obtain ⟨r48, hx49, h50⟩ := Option.bind_eq_some_iff.1 h46
        refine wl_call (wg rfl rfl hb45) rfl (rt_call (vs := [.slice a13 n14 c15]) co34 rfl) ((ok_impl_DawgOk F) hS44.enter0 (SliceAt.mono (hS25.le.trans hS41.le) hs16) hx49) ?_
        rintro e54 w52 ⟨K51, rfl, hS53⟩
        refine ⟨_, rfl, ?_⟩
        have hS55 : SH _ _ _ _ _ [_] := SH.call0 hS44 hS53
        refine wl_val (wg rfl rfl hb45) rfl (rv_move rfl) ?_
        obtain ⟨r56, hx57, h58⟩ := Option.bind_eq_some_iff.1 h50
        refine wl_call (wg rfl rfl hb45) rfl (rt_call (vs := [.slice a13 n14 c15]) co41 rfl) ((ok_spec_DawgOk F) hS55.enter0 (SliceAt.mono ((hS25.le.trans hS41.le).trans hS53.le) hs16) hx57) ?_
        rintro e62 w60 ⟨K59, rfl, hS61⟩
        refine ⟨_, rfl, ?_⟩
        have hS63 : SH _ _ _ _ _ [_] := SH.call0 hS55 hS61
        refine wl_val (wg rfl rfl hb45) rfl (rv_boolne Try.underlying4 rfl rfl) ?_
        refine wl_val wn rfl (rv_pick_f rfl hb45 rfl) ?_
        refine wl_val wn rfl (rv_move rfl) ?_
        rcases bool_tf ((!(r48 == r56))) with hb64 | hb64
        · have h65 := cond_t hb64 h58
          refine wl_un (ug rfl rfl hb64) rfl ?_
          refine wl_un (ug rfl rfl hb64) rfl ?_
          refine wl_un (ug rfl rfl hb64) rfl ?_
          refine wl_val wn rfl (rv_pick_t (v := .bool true) rfl hb64 rfl) ?_
          refine wl_nil ?_
          obtain rfl := Option.some.inj h65
          have hS66 : SH _ _ _ _ _ [] := SH.sublist hS63 (.cons _ .slnil)
          exact qe_mid' ⟨K59, rfl, hS66, ((hS41.le.trans hS53.le).trans hS61.le)⟩ ⟨rfl, rfl, rfl, rfl, trivial⟩
        · have h65 := cond_f hb64 h58
          refine wl_val (wg rfl rfl hb64) rfl (rv_move rfl) ?_
          obtain ⟨r67, hx68, h69⟩ := Option.bind_eq_some_iff.1 h65
          refine wl_call (wg rfl rfl hb64) rfl (rt_call (vs := [.slice a13 n14 c15]) co34 rfl) ((ok_impl_DawgOk F) hS63.enter0 (SliceAt.mono (((hS25.le.trans hS41.le).trans hS53.le).trans hS61.le) hs16) hx68) ?_
          rintro e73 w71 ⟨K70, rfl, hS72⟩
          refine ⟨_, rfl, ?_⟩
          have hS74 : SH _ _ _ _ _ [_] := SH.call0 hS63 hS72
          refine wl_val (wg rfl rfl hb64) rfl (rv_not rfl) ?_
          refine wl_val wn rfl (rv_pick_f rfl hb64 rfl) ?_
          refine wl_nil ?_
          obtain rfl := Option.some.inj h69
          have hS75 : SH _ _ _ _ _ [] := SH.sublist hS74 (.cons _ .slnil)
          exact qe_mid' ⟨K70, rfl, hS75, (((hS41.le.trans hS53.le).trans hS61.le).trans hS72.le)⟩ ⟨rfl, rfl, rfl, rfl, trivial⟩
    · rintro _ w34 ⟨K32, rfl, hS35, hl33⟩
      refine qe_seq ?_
      refine wc_cond rfl (fun hb76 => ?_) (fun hb76 => ?_)
      · have h77 := cond_t hb76 h31
        refine wc_seq ?_
        obtain ⟨o78, h79, h80⟩ := Option.bind_eq_some_iff.1 h77
        refine wc_cutg (fun E' w' => ∃ (K81 : KMap), E' = [(2, .bool o78)] ∧ SH w K [] w' K81 [] ∧ KLe K32 K81) ?_ ?_
        · refine wc_region ?_
          refine wl_val wn rfl (rv_move rfl) ?_
          refine wl_val wn rfl (rv_move rfl) ?_
          refine wl_val wn rfl (rv_move rfl) ?_
          obtain ⟨r85, hx86, h87⟩ := Option.bind_eq_some_iff.1 h79
          refine wl_call wn rfl (rt_call (vs := [.slice a13 n14 c15, sv r7.2]) co45 rfl) ((ok_spec_DawgRank F) hS35.enter0 (SliceAt.mono (hS25.le.trans hl33) hs16) hl17 hx86) ?_
          rintro e92 w89 ⟨K88, rfl, hS90, hr91⟩
          refine ⟨_, rfl, ?_⟩
          have hS93 : SH _ _ _ _ _ [] := SH.call0 hS35 hS90
          refine wl_val wn rfl (rv_eql rfl rfl) ?_
          refine wl_val wn rfl (rv_move rfl) ?_
          rcases bool_tf ((r20 == r85)) with hb94 | hb94
          · have h95 := cond_t hb94 h87
            refine wl_val (wg rfl rfl hb94) rfl (rv_move rfl) ?_
            obtain ⟨r96, hx97, h98⟩ := Option.bind_eq_some_iff.1 h95
            refine wl_call (wg rfl rfl hb94) rfl (rt_call (vs := [.slice a13 n14 c15]) co34 rfl) ((ok_impl_DawgOk F) hS93.enter0 (SliceAt.mono ((hS25.le.trans hl33).trans hS90.le) hs16) hx97) ?_
            rintro e102 w100 ⟨K99, rfl, hS101⟩
            refine ⟨_, rfl, ?_⟩
            have hS103 : SH _ _ _ _ _ [] := SH.call0 hS93 hS101
            refine wl_val (wg rfl rfl hb94) rfl (rv_move rfl) ?_
            obtain ⟨r104, hx105, h106⟩ := Option.bind_eq_some_iff.1 h98
            refine wl_call (wg rfl rfl hb94) rfl (rt_call (vs := [.slice a13 n14 c15]) co41 rfl) ((ok_spec_DawgOk F) hS103.enter0 (SliceAt.mono (((hS25.le.trans hl33).trans hS90.le).trans hS101.le) hs16) hx105) ?_
            rintro e110 w108 ⟨K107, rfl, hS109⟩
            refine ⟨_, rfl, ?_⟩
            have hS111 : SH _ _ _ _ _ [] := SH.call0 hS103 hS109
            refine wl_val (wg rfl rfl hb94) rfl (rv_booleq Try.underlying4 rfl rfl) ?_
            refine wl_val wn rfl (rv_pick_t rfl hb94 rfl) ?_
            refine wl_val wn rfl (rv_assign rfl) ?_
            refine wl_nil ?_
            obtain rfl := Option.some.inj h106
            exact qe_mid' ⟨K107, rfl, hS111, ((hS90.le.trans hS101.le).trans hS109.le)⟩ ⟨rfl, trivial⟩
          · have h95 := cond_f hb94 h87
            refine wl_un (ug rfl rfl hb94) rfl ?_
            refine wl_un (ug rfl rfl hb94) rfl ?_
            refine wl_un (ug rfl rfl hb94) rfl ?_
            refine wl_un (ug rfl rfl hb94) rfl ?_
            refine wl_un (ug rfl rfl hb94) rfl ?_
            refine wl_val wn rfl (rv_pick_f (v := .bool false) rfl hb94 rfl) ?_
            refine wl_val wn rfl (rv_assign rfl) ?_
            refine wl_nil ?_
            obtain rfl := Option.some.inj h95
            exact qe_mid' ⟨K88, rfl, hS93, hS90.le⟩ ⟨rfl, trivial⟩
        · rintro _ w83 ⟨K81, rfl, hS84, hl82⟩
          refine qe_seq ?_
          refine wc_ret ?_
          refine qe_then_ret ?_
          obtain rfl := Option.some.inj h80
          exact qe_ret (vs := [_]) Try.results13 ⟨rfl, trivial⟩ ⟨K81, rfl, hS84⟩
      · have h77 := cond_f hb76 h31
        refine wc_skip ?_
        refine qe_seq ?_
        refine wc_seq ?_
        refine wc_region ?_
        refine wl_val wn rfl (rv_move rfl) ?_
        obtain ⟨r112, hx113, h114⟩ := Option.bind_eq_some_iff.1 h77
        refine wl_call wn rfl (rt_call (vs := [.slice a13 n14 c15, sv []]) co36 rfl) ((ok_impl_DawgHead F) hS35.enter0 (SliceAt.mono (hS25.le.trans hl33) hs16) (by decide : ([] : Str).length ≤ maxLen) hx113) ?_
        rintro e122 w116 ⟨a118, n119, c120, K115, rfl, hS117, hs121⟩
        refine ⟨_, rfl, ?_⟩
        have hS123 : SH _ _ _ _ _ [_] := SH.call0 hS35 hS117
        refine wl_val wn rfl (rv_assign rfl) ?_
        refine wl_nil ?_
        refine qe_seq ?_
        refine wc_seq ?_
        refine wc_region ?_
        refine wl_val wn rfl (rv_assign (v := .int .i64 (-1)) rfl) ?_
        refine wl_nil ?_
        refine qe_seq ?_
        refine wc_seq ?_
        refine wc_seq ?_
        refine wc_region ?_
        refine wl_val wn rfl (rv_assign (v := .int .i64 0) rfl) ?_
        refine wl_nil ?_
        refine qe_seq ?_
        obtain ⟨o124, h125, h126⟩ := Option.bind_eq_some_iff.1 h114
        refine wc_cutg (fun E' w' => ∃ (K127 : KMap), E' = [(3, .slice a13 n14 c15), (4, sv r7.2), (5, .int .i64 r20), (7, .int .i64 o124)] ∧ SH w K [] w' K127 [] ∧ KLe K115 K127 ∧ rng64 o124) ?_ ?_
        · refine wc_block ?_
          obtain ⟨r133, h134, h135⟩ := Option.bind_eq_some_iff.1 h125
          have hS142 : SH _ _ _ _ _ [] := SH.sublist hS123 (.cons _ .slnil)
          refine wc_while' (fun (s132 : Int × Int) E' w' => ∃ (K136 : KMap), E' = [(3, .slice a13 n14 c15), (4, sv r7.2), (5, .int .i64 r20), (6, .slice a118 n119 c120), (7, .int .i64 s132.1), (8, .int .i64 s132.2)] ∧ SH w K [] w' K136 [] ∧ KLe K115 K136 ∧ rng64 s132.1 ∧ rng64 s132.2) h134 ⟨K115, rfl, hS142, (KLe.refl _), (by decide : rng64 (-1)), (by decide : rng64 0)⟩ ⟨rfl, rfl, rfl, rfl, rfl, rfl, trivial⟩ ?_
          rintro s132 _ w138 r143 h144 hx145 ⟨K136, rfl, hS139, hl137, hr140, hr141⟩
          refine wc_seq ?_
          refine wc_seq ?_
          refine wc_region ?_
          refine wl_val wn rfl (rv_move rfl) ?_
          refine wl_val wn rfl (rv_move rfl) ?_
          refine wl_val wn rfl (rv_len (t := tStr) Try.underlying26 rfl (SliceAt.mono hl137 hs121)) ?_
          refine wl_val wn rfl (rv_lss rfl rfl) ?_
          refine wl_nil ?_
          refine qe_seq ?_
          refine wc_cond rfl (fun hb146 => ?_) (fun hb146 => ?_)
          · have h147 := cond_t hb146 h144
            refine wc_skip ?_
            refine qe_seq ?_
            refine wc_seq ?_
            refine wc_block ?_
            refine wc_seq ?_
            refine wc_region ?_
            refine wl_val wn rfl (rv_move rfl) ?_
            refine wl_val wn rfl (rv_move rfl) ?_
            obtain ⟨x148, hx149, h150⟩ := Option.bind_eq_some_iff.1 h147
            refine wl_indexAddr (t := tStr) wn rfl Try.underlying26 tf9 rfl rfl (SliceAt.mono hl137 hs121) hx149 ?_
            intro b151 o152 u153 hu154 ha155
            obtain ⟨rfl, hl156⟩ := hu154
            have ha157 : AtK _ b151 o152 [sv x148] := ha155
            refine wl_val wn rfl (rv_load1 tf9 rfl hS139 (ha157 0 _ rfl)) ?_
            refine wl_val wn rfl (rv_move rfl) ?_
            refine wl_val wn rfl (rv_seql rfl rfl) ?_
            refine wl_nil ?_
            refine qe_seq ?_
            refine wc_cond rfl (fun hb158 => ?_) (fun hb158 => ?_)
            · have h159 := cond_t hb158 h150
              refine wc_region ?_
              refine wl_val wn rfl (rv_move rfl) ?_
              refine wl_val wn rfl (rv_assign rfl) ?_
              refine wl_nil ?_
              refine qe_block ?_
              refine qe_seq ?_
              refine wc_region ?_
              refine wl_val wn rfl (rv_move rfl) ?_
              refine wl_val wn rfl (rv_add rfl rfl) ?_
              refine wl_val wn rfl (rv_assign rfl) ?_
              refine wl_nil ?_
              obtain rfl := Option.some.inj h159
              exact qe_mid' ⟨_, rfl, K136, rfl, hS139, hl137, hr141, (w64_rng _)⟩ ⟨rfl, rfl, rfl, rfl, rfl, rfl, trivial⟩
            · have h159 := cond_f hb158 h150
              refine wc_skip ?_
              refine qe_block ?_
              refine qe_seq ?_
              refine wc_region ?_
              refine wl_val wn rfl (rv_move rfl) ?_
              refine wl_val wn rfl (rv_add rfl rfl) ?_
              refine wl_val wn rfl (rv_assign rfl) ?_
              refine wl_nil ?_
              obtain rfl := Option.some.inj h159
              exact qe_mid' ⟨_, rfl, K136, rfl, hS139, hl137, hr140, (w64_rng _)⟩ ⟨rfl, rfl, rfl, rfl, rfl, rfl, trivial⟩
          · have h147 := cond_f hb146 h144
            refine wc_exit ?_
            refine qe_then_exit ?_
            refine qe_then_exit ?_
            obtain rfl := Option.some.inj h147
            have e160 := hx145 _ rfl
            subst e160
            refine qe_block_eq ?_
            obtain rfl := Option.some.inj h135
            exact qe_mid' ⟨K136, rfl, hS139, hl137, hr140⟩ ⟨rfl, rfl, rfl, rfl, trivial⟩
        · rintro _ w129 ⟨K127, rfl, hS130, hl128, hr131⟩
          refine qe_seq ?_
          refine wc_seq ?_
          refine wc_region ?_
          refine wl_val wn rfl (rv_move rfl) ?_
          refine wl_val wn rfl (rv_move rfl) ?_
          refine wl_val wn rfl (rv_eql rfl rfl) ?_
          refine wl_val wn rfl (rv_move rfl) ?_
          rcases bool_tf ((r20 == o124)) with hb161 | hb161
          · have h162 := cond_t hb161 h126
            refine wl_val (wg rfl rfl hb161) rfl (rv_move rfl) ?_
            refine wl_val (wg rfl rfl hb161) rfl (rv_lss rfl rfl) ?_
            refine wl_val (wg rfl rfl hb161) rfl (rv_move rfl) ?_
            rcases bool_tf (decide (r20 < (0 : Int))) with hb163 | hb163
            · have h164 := cond_t hb163 h162
              refine wl_un (ug rfl rfl hb163) rfl ?_
              refine wl_un (ug rfl rfl hb163) rfl ?_
              refine wl_un (ug rfl rfl hb163) rfl ?_
              refine wl_un (ug rfl rfl hb163) rfl ?_
              refine wl_un (ug rfl rfl hb163) rfl ?_
              refine wl_val (wg rfl rfl hb161) rfl (rv_pick_t (v := .bool true) rfl hb163 rfl) ?_
              refine wl_val wn rfl (rv_pick_t rfl hb161 rfl) ?_
              refine wl_val wn rfl (rv_assign rfl) ?_
              refine wl_nil ?_
              refine qe_seq ?_
              refine wc_ret ?_
              obtain rfl := Option.some.inj h164
              exact qe_ret (vs := [_]) Try.results13 ⟨rfl, trivial⟩ ⟨K127, rfl, hS130⟩
            · have h164 := cond_f hb163 h162
              refine wl_val (wg rfl rfl hb163) rfl (rv_move rfl) ?_
              refine wl_val (wg rfl rfl hb163) rfl (rv_move rfl) ?_
              obtain ⟨r165, hx166, h167⟩ := Option.bind_eq_some_iff.1 h164
              refine wl_call (wg rfl rfl hb163) rfl (rt_call (vs := [.slice a13 n14 c15, .int .i64 r20]) co38 rfl) ((ok_impl_DawgAt F) hS130.enter0 (SliceAt.mono (((hS25.le.trans hl33).trans hS117.le).trans hl128) hs16) hr26 hx166) ?_
              rintro e172 w169 ⟨K168, rfl, hS170, hl171⟩
              refine ⟨_, rfl, ?_⟩
              have hS173 : SH _ _ _ _ _ [] := SH.call0 hS130 hS170
              refine wl_val (wg rfl rfl hb163) rfl (rv_move rfl) ?_
              refine wl_val (wg rfl rfl hb163) rfl (rv_seql rfl rfl) ?_
              refine wl_val (wg rfl rfl hb161) rfl (rv_pick_f rfl hb163 rfl) ?_
              refine wl_val wn rfl (rv_pick_t rfl hb161 rfl) ?_
              refine wl_val wn rfl (rv_assign rfl) ?_
              refine wl_nil ?_
              refine qe_seq ?_
              refine wc_ret ?_
              obtain rfl := Option.some.inj h167
              exact qe_ret (vs := [_]) Try.results13 ⟨rfl, trivial⟩ ⟨K168, rfl, hS173⟩
          · have h162 := cond_f hb161 h126
            refine wl_un (ug rfl rfl hb161) rfl ?_
            refine wl_un (ug rfl rfl hb161) rfl ?_
            refine wl_un (ug rfl rfl hb161) rfl ?_
            refine wl_un (uu rfl rfl) rfl ?_
            refine wl_un (uu rfl rfl) rfl ?_
            refine wl_un (uu rfl rfl) rfl ?_
            refine wl_un (uu rfl rfl) rfl ?_
            refine wl_un (uu rfl rfl) rfl ?_
            refine wl_un (ug rfl rfl hb161) rfl ?_
            refine wl_val wn rfl (rv_pick_f (v := .bool false) rfl hb161 rfl) ?_
            refine wl_val wn rfl (rv_assign rfl) ?_
            refine wl_nil ?_
            refine qe_seq ?_
            refine wc_ret ?_
            obtain rfl := Option.some.inj h162
            exact qe_ret (vs := [_]) Try.results13 ⟨rfl, trivial⟩ ⟨K127, rfl, hS130⟩
end Go.Proofs.Ytdopcpaapniioaa
