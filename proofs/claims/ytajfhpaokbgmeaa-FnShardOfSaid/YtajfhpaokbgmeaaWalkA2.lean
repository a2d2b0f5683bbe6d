/-
  Walks of the functions. Printed by gen.py.
-/
import Derived.Test.YtajfhpaokbgmeaaWalkA1
set_option linter.unusedVariables false
set_option maxRecDepth 100000
namespace Go.Proofs.Ytajfhpaokbgmeaa
open Go Go.Fk Go.RowKit

theorem ok_impl_DocOk (F : Nat) {w : World} {K : KMap} {a2 : Option Addr} {n3 c4 : Nat} {a6 : Option Addr} {n7 c8 : Nat} {p0_d : GDoc} {r : Bool} (hS : SH w K [] w K []) (hr1 : rng64 p0_d.Id) (hs5 : SliceAt tGField K a2 n3 c4 p0_d.Fields) (hs9 : SliceAt tGAttr K a6 n7 c8 p0_d.Nums) (hm : M.impl_DocOk F p0_d = some r) :
    Calls Try.prog 62 #[.agg #[.int .i64 p0_d.Id, .slice a2 n3 c4, .slice a6 n7 c8]] w fun e w' => ∃ (K' : KMap), e = .returned (.bool r) ∧ SH w K [] w' K' [] := by
  rw [M.impl_DocOk] at hm
  refine calls_in Try.func62 rfl Try.ntmps62 rfl ?_
  refine wc_seq ?_
  refine wc_region ?_
  refine wl_box wn rfl rfl hS ?_
  intro g10 w11 hS12
  have hS13 : SH _ _ _ _ _ [obj g10 [.int .i64 p0_d.Id, .slice a2 n3 c4, .slice a6 n7 c8] 43] := hS12
  refine wl_val wn rfl (rv_assign (v := .bool false) rfl) ?_
  refine wl_nil ?_
  refine qe_seq ?_
  refine wc_seq ?_
  refine wc_seq ?_
  obtain ⟨o14, h15, h16⟩ := Option.bind_eq_some_iff.1 hm
  refine wc_cutg (fun E' w' => ∃ (K17 : KMap), E' = [(1, .pointer (some ⟨g10, 0, none⟩)), (22, .bool o14)] ∧ SH w K [] w' K17 [obj g10 [.int .i64 p0_d.Id, .slice a2 n3 c4, .slice a6 n7 c8] 43] ∧ KLe K K17) ?_ ?_
  · refine wc_region ?_
    refine wl_val wn rfl (rv_fieldAddr ff43_0 rfl) ?_
    refine wl_val wn rfl (rv_loadm1 tf3 rfl (.head _) hS13 rfl) ?_
    obtain ⟨r21, hx22, h23⟩ := Option.bind_eq_some_iff.1 h15
    refine wl_call wn rfl (rt_call (vs := [.int .i64 p0_d.Id, .int .i64 1, .int .i64 9999]) co72 rfl) ((ok_impl_within F) hS13.enter0 hr1 (by decide : rng64 1) (by decide : rng64 9999) hx22) ?_
    rintro e27 w25 ⟨K24, rfl, hS26⟩
    refine ⟨_, rfl, ?_⟩
    have hS28 : SH _ _ _ _ _ [_] := SH.call0 hS13 hS26
    refine wl_val wn rfl (rv_not rfl) ?_
    refine wl_val wn rfl (rv_move rfl) ?_
    rcases bool_tf ((!r21)) with hb29 | hb29
    · have h30 := cond_t hb29 h23
      refine wl_un (ug rfl rfl hb29) rfl ?_
      refine wl_un (ug rfl rfl hb29) rfl ?_
      refine wl_un (ug rfl rfl hb29) rfl ?_
      refine wl_un (ug rfl rfl hb29) rfl ?_
      refine wl_val wn rfl (rv_pick_t (v := .bool true) rfl hb29 rfl) ?_
      refine wl_val wn rfl (rv_move rfl) ?_
      refine wl_un (ug rfl rfl rfl) rfl ?_
      refine wl_un (ug rfl rfl rfl) rfl ?_
      refine wl_un (ug rfl rfl rfl) rfl ?_
      refine wl_un (ug rfl rfl rfl) rfl ?_
      refine wl_val wn rfl (rv_pick_t (v := .bool true) rfl rfl rfl) ?_
      refine wl_nil ?_
      obtain rfl := Option.some.inj h30
      exact qe_mid' ⟨K24, rfl, hS28, hS26.le⟩ ⟨rfl, rfl, trivial⟩
    · have h30 := cond_f hb29 h23
      refine wl_val (wg rfl rfl hb29) rfl (rv_fieldAddr ff43_1 rfl) ?_
      refine wl_val (wg rfl rfl hb29) rfl (rv_loadm1 tf40 rfl (.head _) hS28 rfl) ?_
      refine wl_val (wg rfl rfl hb29) rfl (rv_len (t := tGField) Try.underlying40 rfl (SliceAt.mono hS26.le hs5)) ?_
      refine wl_val (wg rfl rfl hb29) rfl (rv_gtr rfl rfl) ?_
      refine wl_val wn rfl (rv_pick_f rfl hb29 rfl) ?_
      refine wl_val wn rfl (rv_move rfl) ?_
      rcases bool_tf (decide ((3 : Int) < (p0_d.Fields.length : Int))) with hb31 | hb31
      · have h32 := cond_t hb31 h30
        refine wl_un (ug rfl rfl hb31) rfl ?_
        refine wl_un (ug rfl rfl hb31) rfl ?_
        refine wl_un (ug rfl rfl hb31) rfl ?_
        refine wl_un (ug rfl rfl hb31) rfl ?_
        refine wl_val wn rfl (rv_pick_t (v := .bool true) rfl hb31 rfl) ?_
        refine wl_nil ?_
        obtain rfl := Option.some.inj h32
        exact qe_mid' ⟨K24, rfl, hS28, hS26.le⟩ ⟨rfl, rfl, trivial⟩
      · have h32 := cond_f hb31 h30
        refine wl_val (wg rfl rfl hb31) rfl (rv_fieldAddr ff43_2 rfl) ?_
        refine wl_val (wg rfl rfl hb31) rfl (rv_loadm1 tf41 rfl (.head _) hS28 rfl) ?_
        refine wl_val (wg rfl rfl hb31) rfl (rv_len (t := tGAttr) Try.underlying41 rfl (SliceAt.mono hS26.le hs9)) ?_
        refine wl_val (wg rfl rfl hb31) rfl (rv_gtr rfl rfl) ?_
        refine wl_val wn rfl (rv_pick_f rfl hb31 rfl) ?_
        refine wl_nil ?_
        obtain rfl := Option.some.inj h32
        exact qe_mid' ⟨K24, rfl, hS28, hS26.le⟩ ⟨rfl, rfl, trivial⟩
  · rintro _ w19 ⟨K17, rfl, hS20, hl18⟩
    refine qe_seq ?_
    refine wc_cond rfl (fun hb33 => ?_) (fun hb33 => ?_)
    · have h34 := cond_t hb33 h16
      refine wc_seq ?_
      refine wc_region ?_
      refine wl_val wn rfl (rv_assign (v := .bool false) rfl) ?_
      refine wl_nil ?_
      refine qe_seq ?_
      refine wc_ret ?_
      refine qe_then_ret ?_
      obtain rfl := Option.some.inj h34
      have hS35 : SH _ _ _ _ _ [] := SH.sublist hS20 (.cons _ .slnil)
      exact qe_ret (vs := [_]) Try.results62 ⟨rfl, trivial⟩ ⟨K17, rfl, hS35⟩
    · have h34 := cond_f hb33 h16
      refine wc_skip ?_
      refine qe_seq ?_
      refine wc_seq ?_
      refine wc_seq ?_
      refine wc_region ?_
      refine wl_val wn rfl (rv_fieldAddr ff43_1 rfl) ?_
      refine wl_val wn rfl (rv_loadm1 tf40 rfl (.head _) hS20 rfl) ?_
      refine wl_val wn rfl (rv_len (t := tGField) Try.underlying40 rfl (SliceAt.mono hl18 hs5)) ?_
      refine wl_val wn rfl (rv_move (v := .int .i64 0) rfl) ?_
      refine wl_nil ?_
      refine qe_seq ?_
      obtain ⟨o36, h37, h38⟩ := Option.bind_eq_some_iff.1 h34
      refine wc_cutg (fun E' w' => ∃ (s39 : Unit) (K40 : KMap), o36 = .inl s39 ∧ E' = [(1, .pointer (some ⟨g10, 0, none⟩))] ∧ SH w K [] w' K40 [obj g10 [.int .i64 p0_d.Id, .slice a2 n3 c4, .slice a6 n7 c8] 43] ∧ KLe K17 K40) ?_ ?_
      · refine wc_block ?_
        obtain ⟨r45, h46, h47⟩ := Option.bind_eq_some_iff.1 h37
        refine wc_for' (fun (i48 : Nat) (s44 : Unit) E' w' => ∃ (K49 : KMap), E' = [(1, .pointer (some ⟨g10, 0, none⟩)), (24, .slice a2 n3 c4), (25, .int .i64 (p0_d.Fields.length : Int)), (26, .int .i64 ((i48 : Nat) : Int))] ∧ SH w K [] w' K49 [obj g10 [.int .i64 p0_d.Id, .slice a2 n3 c4, .slice a6 n7 c8] 43] ∧ KLe K17 K49) h46 ⟨K17, rfl, hS20, (KLe.refl _)⟩ ⟨rfl, rfl, rfl, rfl, trivial⟩ ?_ ?_
        · rintro i48 s44 _ w51 r53 hi54 h55 hx56 ⟨K49, rfl, hS52, hl50⟩
          refine wc_seq (wc_region ?_)
          refine wl_val wn rfl (rv_lss rfl rfl) ?_
          refine wl_nil (qe_seq (wc_seq ?_))
          refine wc_cond_t rfl (decide_eq_true (by omega)) (wc_skip (qe_seq (wc_seq ?_)))
          refine wc_block ?_
          refine wc_seq ?_
          refine wc_region ?_
          refine wl_val wn rfl (rv_move rfl) ?_
          obtain ⟨x57, hx58, h59⟩ := Option.bind_eq_some_iff.1 h55
          refine wl_indexAddr (t := tGField) wn rfl Try.underlying40 tf96 rfl rfl (SliceAt.mono (hl18.trans hl50) hs5) hx58 ?_
          intro b60 o61 u62 hu63 ha64
          obtain ⟨rfl, hl65, hl66⟩ := hu63
          have ha67 : AtK _ b60 o61 [sv x57.Name, sv x57.Text] := ha64
          refine wl_val wn rfl (rv_loadS (cs := [sv x57.Name, sv x57.Text]) tf96 rfl hS52 ha67 rfl) ?_
          refine wl_alloc wn rfl tf96 hS52 ?_
          intro g68 w69 hS70
          have hS71 : SH _ _ _ _ _ [obj g68 [sv [], sv []] 96, _] := hS70
          refine wl_val wn rfl (rv_assign rfl) ?_
          refine wl_store (cs' := [sv x57.Name, sv x57.Text]) (v := .agg #[sv x57.Name, sv x57.Text]) wn tf96 rfl rfl rfl (by simp [Value.cells, Value.oneCell', sv]) hS71 rfl rfl ?_
          intro w72 hS73
          refine wl_nil ?_
          refine qe_seq ?_
          refine wc_seq ?_
          obtain ⟨o74, h75, h76⟩ := Option.bind_eq_some_iff.1 h59
          refine wc_cutg (fun E' w' => ∃ (K77 : KMap), E' = [(1, .pointer (some ⟨g10, 0, none⟩)), (24, .slice a2 n3 c4), (25, .int .i64 (p0_d.Fields.length : Int)), (26, .int .i64 ((i48 : Nat) : Int)), (56, .bool o74)] ∧ SH w K [] w' K77 [obj g10 [.int .i64 p0_d.Id, .slice a2 n3 c4, .slice a6 n7 c8] 43] ∧ KLe K49 K77) ?_ ?_
          · refine wc_quiet mixed (by kernel_rfl) hS73 ?_
            refine wq_val wn rfl (fun _ _ => (rv_fieldAddr ff96_0 rfl)) ?_
            refine wq_val wn rfl (rq_loadm1 tf9 rfl (.head _) rfl) ?_
            obtain ⟨r81, hx82, h83⟩ := Option.bind_eq_some_iff.1 h75
            refine wq_call (v := .bool r81) wn rfl (fun _ => rt_call (vs := [sv x57.Name]) co52 rfl) (fun w86 ⟨K84, hS85, hl87⟩ => ((ok_impl_WordOk F) hS85.enter0 hl65 hx82).mono fun e w' ⟨K', he, hS'⟩ => ⟨he, K', hS85.call0 hS', hl87.trans hS'.le⟩) ?_
            refine wq_val wn rfl (fun _ _ => (rv_not rfl)) ?_
            refine wq_val wn rfl (fun _ _ => (rv_move rfl)) ?_
            rcases bool_tf ((!r81)) with hb88 | hb88
            · have h89 := cond_t hb88 h83
              refine wq_un (ug rfl rfl hb88) rfl ?_
              refine wq_un (ug rfl rfl hb88) rfl ?_
              refine wq_un (ug rfl rfl hb88) rfl ?_
              refine wq_un (ug rfl rfl hb88) rfl ?_
              refine wq_val wn rfl (fun _ _ => (rv_pick_t (v := .bool true) rfl hb88 rfl)) ?_
              refine wq_val wn rfl (fun _ _ => (rv_move rfl)) ?_
              refine wq_un (ug rfl rfl rfl) rfl ?_
              refine wq_un (ug rfl rfl rfl) rfl ?_
              refine wq_un (ug rfl rfl rfl) rfl ?_
              refine wq_un (uu rfl rfl) rfl ?_
              refine wq_un (uu rfl rfl) rfl ?_
              refine wq_un (uu rfl rfl) rfl ?_
              refine wq_un (uu rfl rfl) rfl ?_
              refine wq_un (uu rfl rfl) rfl ?_
              refine wq_un (uu rfl rfl) rfl ?_
              refine wq_un (uu rfl rfl) rfl ?_
              refine wq_un (uu rfl rfl) rfl ?_
              refine wq_un (uu rfl rfl) rfl ?_
              refine wq_un (uu rfl rfl) rfl ?_
              refine wq_un (ug rfl rfl rfl) rfl ?_
              refine wq_val wn rfl (fun _ _ => (rv_pick_t (v := .bool true) rfl rfl rfl)) ?_
              refine wq_nil ?_
              rintro w91 ⟨K90, hS92, hl93⟩
              obtain rfl := Option.some.inj h89
              have hS94 : SH _ _ _ _ _ [_] := SH.sublist hS92 (.cons _ (.cons_cons _ .slnil))
              exact qe_mid' ⟨K90, rfl, hS94, hl93⟩ ⟨rfl, rfl, rfl, rfl, rfl, trivial⟩
            · have h89 := cond_f hb88 h83
              refine wq_val (wg rfl rfl hb88) rfl (fun _ _ => (rv_fieldAddr ff96_1 rfl)) ?_
              refine wq_val (wg rfl rfl hb88) rfl (rq_loadm1 tf9 rfl (.head _) rfl) ?_
              obtain ⟨r95, hx96, h97⟩ := Option.bind_eq_some_iff.1 h89
              refine wq_call (v := .bool r95) (wg rfl rfl hb88) rfl (fun _ => rt_call (vs := [sv x57.Text]) co103 rfl) (fun w100 ⟨K98, hS99, hl101⟩ => ((ok_impl_TextOk F) hS99.enter0 hl66 hx96).mono fun e w' ⟨K', he, hS'⟩ => ⟨he, K', hS99.call0 hS', hl101.trans hS'.le⟩) ?_
              refine wq_val (wg rfl rfl hb88) rfl (fun _ _ => (rv_not rfl)) ?_
              refine wq_val wn rfl (fun _ _ => (rv_pick_f rfl hb88 rfl)) ?_
              refine wq_val wn rfl (fun _ _ => (rv_move rfl)) ?_
              rcases bool_tf ((!r95)) with hb102 | hb102
              · have h103 := cond_t hb102 h97
                refine wq_un (ug rfl rfl hb102) rfl ?_
                refine wq_un (ug rfl rfl hb102) rfl ?_
                refine wq_un (ug rfl rfl hb102) rfl ?_
                refine wq_un (uu rfl rfl) rfl ?_
                refine wq_un (uu rfl rfl) rfl ?_
                refine wq_un (uu rfl rfl) rfl ?_
                refine wq_un (uu rfl rfl) rfl ?_
                refine wq_un (uu rfl rfl) rfl ?_
                refine wq_un (uu rfl rfl) rfl ?_
                refine wq_un (uu rfl rfl) rfl ?_
                refine wq_un (uu rfl rfl) rfl ?_
                refine wq_un (uu rfl rfl) rfl ?_
                refine wq_un (uu rfl rfl) rfl ?_
                refine wq_un (ug rfl rfl hb102) rfl ?_
                refine wq_val wn rfl (fun _ _ => (rv_pick_t (v := .bool true) rfl hb102 rfl)) ?_
                refine wq_nil ?_
                rintro w105 ⟨K104, hS106, hl107⟩
                obtain rfl := Option.some.inj h103
                have hS108 : SH _ _ _ _ _ [_] := SH.sublist hS106 (.cons _ (.cons_cons _ .slnil))
                exact qe_mid' ⟨K104, rfl, hS108, hl107⟩ ⟨rfl, rfl, rfl, rfl, rfl, trivial⟩
              · have h103 := cond_f hb102 h97
                refine wq_val (wg rfl rfl hb102) rfl (fun _ _ => (rv_move rfl)) ?_
                refine wq_val (wg rfl rfl hb102) rfl (fun _ _ => (rv_gtr rfl rfl)) ?_
                refine wq_val (wg rfl rfl hb102) rfl (fun _ _ => (rv_move rfl)) ?_
                rcases bool_tf (decide ((0 : Int) < ((i48 : Nat) : Int))) with hb109 | hb109
                · have h110 := cond_t hb109 h103
                  refine wq_val (wg rfl rfl hb109) rfl (fun _ _ => (rv_fieldAddr ff43_1 rfl)) ?_
                  refine wq_val (wg rfl rfl hb109) rfl (rq_loadm1 tf40 rfl (.tail _ (.head _)) rfl) ?_
                  refine wq_val (wg rfl rfl hb109) rfl (fun _ _ => (rv_move rfl)) ?_
                  refine wq_val (wg rfl rfl hb109) rfl (fun _ _ => (rv_sub rfl rfl)) ?_
                  obtain ⟨x111, hx112, h113⟩ := Option.bind_eq_some_iff.1 h110
                  refine wq_indexAddr (t := tGField) (wg rfl rfl hb109) rfl Try.underlying40 tf96 rfl rfl (SliceAt.mono (hl18.trans hl50) hs5) hx112 ?_
                  intro b114 o115 u116 hu117 ha118
                  obtain ⟨rfl, hl119, hl120⟩ := hu117
                  have ha121 : AtK _ b114 o115 [sv x111.Name, sv x111.Text] := ha118
                  refine wq_val (wg rfl rfl hb109) rfl (fun _ _ => (rv_fieldAddr ff96_0 rfl)) ?_
                  refine wq_val (wg rfl rfl hb109) rfl (rq_load1 tf9 rfl (ha121 0 _ rfl)) ?_
                  refine wq_val (wg rfl rfl hb109) rfl (fun _ _ => (rv_fieldAddr ff96_0 rfl)) ?_
                  refine wq_val (wg rfl rfl hb109) rfl (rq_loadm1 tf9 rfl (.head _) rfl) ?_
                  refine wq_val (wg rfl rfl hb109) rfl (fun _ _ => (rv_sgeq rfl rfl)) ?_
                  refine wq_val (wg rfl rfl hb102) rfl (fun _ _ => (rv_pick_t rfl hb109 rfl)) ?_
                  refine wq_val wn rfl (fun _ _ => (rv_pick_f rfl hb102 rfl)) ?_
                  refine wq_nil ?_
                  rintro w123 ⟨K122, hS124, hl125⟩
                  obtain rfl := Option.some.inj h113
                  have hS126 : SH _ _ _ _ _ [_] := SH.sublist hS124 (.cons _ (.cons_cons _ .slnil))
                  exact qe_mid' ⟨K122, rfl, hS126, hl125⟩ ⟨rfl, rfl, rfl, rfl, rfl, trivial⟩
                · have h110 := cond_f hb109 h103
                  refine wq_un (ug rfl rfl hb109) rfl ?_
                  refine wq_un (ug rfl rfl hb109) rfl ?_
                  refine wq_un (ug rfl rfl hb109) rfl ?_
                  refine wq_un (ug rfl rfl hb109) rfl ?_
                  refine wq_un (ug rfl rfl hb109) rfl ?_
                  refine wq_un (ug rfl rfl hb109) rfl ?_
                  refine wq_un (ug rfl rfl hb109) rfl ?_
                  refine wq_un (ug rfl rfl hb109) rfl ?_
                  refine wq_un (ug rfl rfl hb109) rfl ?_
                  refine wq_un (ug rfl rfl hb109) rfl ?_
                  refine wq_val (wg rfl rfl hb102) rfl (fun _ _ => (rv_pick_f (v := .bool false) rfl hb109 rfl)) ?_
                  refine wq_val wn rfl (fun _ _ => (rv_pick_f rfl hb102 rfl)) ?_
                  refine wq_nil ?_
                  rintro w128 ⟨K127, hS129, hl130⟩
                  obtain rfl := Option.some.inj h110
                  have hS131 : SH _ _ _ _ _ [_] := SH.sublist hS129 (.cons _ (.cons_cons _ .slnil))
                  exact qe_mid' ⟨K127, rfl, hS131, hl130⟩ ⟨rfl, rfl, rfl, rfl, rfl, trivial⟩
          · rintro _ w79 ⟨K77, rfl, hS80, hl78⟩
            refine qe_seq ?_
            refine wc_cond rfl (fun hb132 => ?_) (fun hb132 => ?_)
            · have h133 := cond_t hb132 h76
              refine wc_seq ?_
              refine wc_region ?_
              refine wl_val wn rfl (rv_assign (v := .bool false) rfl) ?_
              refine wl_nil ?_
              refine qe_seq ?_
              refine wc_ret ?_
              refine qe_block_ret ?_
              refine qe_then_ret ?_
              refine qe_then_ret ?_
              obtain rfl := Option.some.inj h133
              have e134 := hx56 _ rfl
              subst e134
              refine qe_block_ret ?_
              refine qe_then_ret ?_
              obtain rfl := Option.some.inj h47
              refine qe_then_ret ?_
              obtain rfl := Option.some.inj h38
              have hS135 : SH _ _ _ _ _ [] := SH.sublist hS80 (.cons _ .slnil)
              exact qe_ret (vs := [_]) Try.results62 ⟨rfl, trivial⟩ ⟨K77, rfl, hS135⟩
            · have h133 := cond_f hb132 h76
              refine wc_skip ?_
              refine qe_block ?_
              refine qe_seq (wc_region ?_)
              refine wl_val wn rfl (rv_add_to rfl rfl (w64_succ hi54 (SliceAt.max (SliceAt.mono hl18 hs5)))) ?_
              refine wl_val wn rfl (rv_move rfl) ?_
              refine wl_nil ?_
              obtain rfl := Option.some.inj h133
              exact qe_mid' ⟨_, rfl, K77, rfl, hS80, (hl50.trans hl78)⟩ ⟨rfl, rfl, rfl, rfl, trivial⟩
        · rintro s44 _ w51 hr136 ⟨K49, rfl, hS52, hl50⟩
          subst hr136
          refine wc_seq (wc_region ?_)
          refine wl_val wn rfl (rv_lss rfl rfl) ?_
          refine wl_nil (qe_seq (wc_seq ?_))
          refine wc_cond_f rfl (decide_eq_false (by omega)) ?_
          refine wc_exit ?_
          refine qe_then_exit ?_
          refine qe_then_exit ?_
          refine qe_block_eq ?_
          obtain rfl := Option.some.inj h47
          exact qe_mid' ⟨_, K49, rfl, rfl, hS52, hl50⟩ ⟨rfl, trivial⟩
      · rintro _ w42 ⟨s39, K40, rfl, rfl, hS43, hl41⟩
        refine qe_seq ?_
        refine wc_seq ?_
        refine wc_seq ?_
        refine wc_region ?_
        refine wl_val wn rfl (rv_fieldAddr ff43_2 rfl) ?_
        refine wl_val wn rfl (rv_loadm1 tf41 rfl (.head _) hS43 rfl) ?_
        refine wl_val wn rfl (rv_len (t := tGAttr) Try.underlying41 rfl (SliceAt.mono (hl18.trans hl41) hs9)) ?_
        refine wl_val wn rfl (rv_move (v := .int .i64 0) rfl) ?_
        refine wl_nil ?_
        refine qe_seq ?_
        obtain ⟨o138, h139, h140⟩ := Option.bind_eq_some_iff.1 h38
        refine wc_cutg (fun E' w' => ∃ (s141 : Unit) (K142 : KMap), o138 = .inl s141 ∧ E' = [] ∧ SH w K [] w' K142 [] ∧ KLe K40 K142) ?_ ?_
        · refine wc_block ?_
          obtain ⟨r147, h148, h149⟩ := Option.bind_eq_some_iff.1 h139
          refine wc_for' (fun (i150 : Nat) (s146 : Unit) E' w' => ∃ (K151 : KMap), E' = [(1, .pointer (some ⟨g10, 0, none⟩)), (59, .slice a6 n7 c8), (60, .int .i64 (p0_d.Nums.length : Int)), (61, .int .i64 ((i150 : Nat) : Int))] ∧ SH w K [] w' K151 [obj g10 [.int .i64 p0_d.Id, .slice a2 n3 c4, .slice a6 n7 c8] 43] ∧ KLe K40 K151) h148 ⟨K40, rfl, hS43, (KLe.refl _)⟩ ⟨rfl, rfl, rfl, rfl, trivial⟩ ?_ ?_
          · rintro i150 s146 _ w153 r155 hi156 h157 hx158 ⟨K151, rfl, hS154, hl152⟩
            refine wc_seq (wc_region ?_)
            refine wl_val wn rfl (rv_lss rfl rfl) ?_
            refine wl_nil (qe_seq (wc_seq ?_))
            refine wc_cond_t rfl (decide_eq_true (by omega)) (wc_skip (qe_seq (wc_seq ?_)))
            refine wc_block ?_
            refine wc_seq ?_
            refine wc_region ?_
            refine wl_val wn rfl (rv_move rfl) ?_
            obtain ⟨x159, hx160, h161⟩ := Option.bind_eq_some_iff.1 h157
            refine wl_indexAddr (t := tGAttr) wn rfl Try.underlying41 tf98 rfl rfl (SliceAt.mono ((hl18.trans hl41).trans hl152) hs9) hx160 ?_
            intro b162 o163 u164 hu165 ha166
            obtain ⟨rfl, hl167, hr168⟩ := hu165
            have ha169 : AtK _ b162 o163 [sv x159.Name, .int .i64 x159.Num] := ha166
            refine wl_val wn rfl (rv_loadS (cs := [sv x159.Name, .int .i64 x159.Num]) tf98 rfl hS154 ha169 rfl) ?_
            refine wl_alloc wn rfl tf98 hS154 ?_
            intro g170 w171 hS172
            have hS173 : SH _ _ _ _ _ [obj g170 [sv [], .int .i64 0] 98, _] := hS172
            refine wl_val wn rfl (rv_assign rfl) ?_
            refine wl_store (cs' := [sv x159.Name, .int .i64 x159.Num]) (v := .agg #[sv x159.Name, .int .i64 x159.Num]) wn tf98 rfl rfl rfl (by simp [Value.cells, Value.oneCell', sv]) hS173 rfl rfl ?_
            intro w174 hS175
            refine wl_nil ?_
            refine qe_seq ?_
            refine wc_seq ?_
            obtain ⟨o176, h177, h178⟩ := Option.bind_eq_some_iff.1 h161
            refine wc_cutg (fun E' w' => ∃ (K179 : KMap), E' = [(1, .pointer (some ⟨g10, 0, none⟩)), (59, .slice a6 n7 c8), (60, .int .i64 (p0_d.Nums.length : Int)), (61, .int .i64 ((i150 : Nat) : Int)), (91, .bool o176)] ∧ SH w K [] w' K179 [obj g10 [.int .i64 p0_d.Id, .slice a2 n3 c4, .slice a6 n7 c8] 43] ∧ KLe K151 K179) ?_ ?_
            · refine wc_quiet mixed (by kernel_rfl) hS175 ?_
              refine wq_val wn rfl (fun _ _ => (rv_fieldAddr ff98_0 rfl)) ?_
              refine wq_val wn rfl (rq_loadm1 tf9 rfl (.head _) rfl) ?_
              obtain ⟨r183, hx184, h185⟩ := Option.bind_eq_some_iff.1 h177
              refine wq_call (v := .bool r183) wn rfl (fun _ => rt_call (vs := [sv x159.Name]) co52 rfl) (fun w188 ⟨K186, hS187, hl189⟩ => ((ok_impl_WordOk F) hS187.enter0 hl167 hx184).mono fun e w' ⟨K', he, hS'⟩ => ⟨he, K', hS187.call0 hS', hl189.trans hS'.le⟩) ?_
              refine wq_val wn rfl (fun _ _ => (rv_not rfl)) ?_
              refine wq_val wn rfl (fun _ _ => (rv_move rfl)) ?_
              rcases bool_tf ((!r183)) with hb190 | hb190
              · have h191 := cond_t hb190 h185
                refine wq_un (ug rfl rfl hb190) rfl ?_
                refine wq_un (ug rfl rfl hb190) rfl ?_
                refine wq_un (ug rfl rfl hb190) rfl ?_
                refine wq_un (ug rfl rfl hb190) rfl ?_
                refine wq_val wn rfl (fun _ _ => (rv_pick_t (v := .bool true) rfl hb190 rfl)) ?_
                refine wq_val wn rfl (fun _ _ => (rv_move rfl)) ?_
                refine wq_un (ug rfl rfl rfl) rfl ?_
                refine wq_un (ug rfl rfl rfl) rfl ?_
                refine wq_un (ug rfl rfl rfl) rfl ?_
                refine wq_un (uu rfl rfl) rfl ?_
                refine wq_un (uu rfl rfl) rfl ?_
                refine wq_un (uu rfl rfl) rfl ?_
                refine wq_un (uu rfl rfl) rfl ?_
                refine wq_un (uu rfl rfl) rfl ?_
                refine wq_un (uu rfl rfl) rfl ?_
                refine wq_un (uu rfl rfl) rfl ?_
                refine wq_un (uu rfl rfl) rfl ?_
                refine wq_un (uu rfl rfl) rfl ?_
                refine wq_un (uu rfl rfl) rfl ?_
                refine wq_un (ug rfl rfl rfl) rfl ?_
                refine wq_val wn rfl (fun _ _ => (rv_pick_t (v := .bool true) rfl rfl rfl)) ?_
                refine wq_nil ?_
                rintro w193 ⟨K192, hS194, hl195⟩
                obtain rfl := Option.some.inj h191
                have hS196 : SH _ _ _ _ _ [_] := SH.sublist hS194 (.cons _ (.cons_cons _ .slnil))
                exact qe_mid' ⟨K192, rfl, hS196, hl195⟩ ⟨rfl, rfl, rfl, rfl, rfl, trivial⟩
              · have h191 := cond_f hb190 h185
                refine wq_val (wg rfl rfl hb190) rfl (fun _ _ => (rv_fieldAddr ff98_1 rfl)) ?_
                refine wq_val (wg rfl rfl hb190) rfl (rq_loadm1 tf3 rfl (.head _) rfl) ?_
                obtain ⟨r197, hx198, h199⟩ := Option.bind_eq_some_iff.1 h191
                refine wq_call (v := .bool r197) (wg rfl rfl hb190) rfl (fun _ => rt_call (vs := [.int .i64 x159.Num, .int .i64 0, .int .i64 999999999]) co72 rfl) (fun w202 ⟨K200, hS201, hl203⟩ => ((ok_impl_within F) hS201.enter0 hr168 (by decide : rng64 0) (by decide : rng64 999999999) hx198).mono fun e w' ⟨K', he, hS'⟩ => ⟨he, K', hS201.call0 hS', hl203.trans hS'.le⟩) ?_
                refine wq_val (wg rfl rfl hb190) rfl (fun _ _ => (rv_not rfl)) ?_
                refine wq_val wn rfl (fun _ _ => (rv_pick_f rfl hb190 rfl)) ?_
                refine wq_val wn rfl (fun _ _ => (rv_move rfl)) ?_
                rcases bool_tf ((!r197)) with hb204 | hb204
                · have h205 := cond_t hb204 h199
                  refine wq_un (ug rfl rfl hb204) rfl ?_
                  refine wq_un (ug rfl rfl hb204) rfl ?_
                  refine wq_un (ug rfl rfl hb204) rfl ?_
                  refine wq_un (uu rfl rfl) rfl ?_
                  refine wq_un (uu rfl rfl) rfl ?_
                  refine wq_un (uu rfl rfl) rfl ?_
                  refine wq_un (uu rfl rfl) rfl ?_
                  refine wq_un (uu rfl rfl) rfl ?_
                  refine wq_un (uu rfl rfl) rfl ?_
                  refine wq_un (uu rfl rfl) rfl ?_
                  refine wq_un (uu rfl rfl) rfl ?_
                  refine wq_un (uu rfl rfl) rfl ?_
                  refine wq_un (uu rfl rfl) rfl ?_
                  refine wq_un (ug rfl rfl hb204) rfl ?_
                  refine wq_val wn rfl (fun _ _ => (rv_pick_t (v := .bool true) rfl hb204 rfl)) ?_
                  refine wq_nil ?_
                  rintro w207 ⟨K206, hS208, hl209⟩
                  obtain rfl := Option.some.inj h205
                  have hS210 : SH _ _ _ _ _ [_] := SH.sublist hS208 (.cons _ (.cons_cons _ .slnil))
                  exact qe_mid' ⟨K206, rfl, hS210, hl209⟩ ⟨rfl, rfl, rfl, rfl, rfl, trivial⟩
                · have h205 := cond_f hb204 h199
                  refine wq_val (wg rfl rfl hb204) rfl (fun _ _ => (rv_move rfl)) ?_
                  refine wq_val (wg rfl rfl hb204) rfl (fun _ _ => (rv_gtr rfl rfl)) ?_
                  refine wq_val (wg rfl rfl hb204) rfl (fun _ _ => (rv_move rfl)) ?_
                  rcases bool_tf (decide ((0 : Int) < ((i150 : Nat) : Int))) with hb211 | hb211
                  · have h212 := cond_t hb211 h205
                    refine wq_val (wg rfl rfl hb211) rfl (fun _ _ => (rv_fieldAddr ff43_2 rfl)) ?_
                    refine wq_val (wg rfl rfl hb211) rfl (rq_loadm1 tf41 rfl (.tail _ (.head _)) rfl) ?_
                    refine wq_val (wg rfl rfl hb211) rfl (fun _ _ => (rv_move rfl)) ?_
                    refine wq_val (wg rfl rfl hb211) rfl (fun _ _ => (rv_sub rfl rfl)) ?_
                    obtain ⟨x213, hx214, h215⟩ := Option.bind_eq_some_iff.1 h212
                    refine wq_indexAddr (t := tGAttr) (wg rfl rfl hb211) rfl Try.underlying41 tf98 rfl rfl (SliceAt.mono ((hl18.trans hl41).trans hl152) hs9) hx214 ?_
                    intro b216 o217 u218 hu219 ha220
                    obtain ⟨rfl, hl221, hr222⟩ := hu219
                    have ha223 : AtK _ b216 o217 [sv x213.Name, .int .i64 x213.Num] := ha220
                    refine wq_val (wg rfl rfl hb211) rfl (fun _ _ => (rv_fieldAddr ff98_0 rfl)) ?_
                    refine wq_val (wg rfl rfl hb211) rfl (rq_load1 tf9 rfl (ha223 0 _ rfl)) ?_
                    refine wq_val (wg rfl rfl hb211) rfl (fun _ _ => (rv_fieldAddr ff98_0 rfl)) ?_
                    refine wq_val (wg rfl rfl hb211) rfl (rq_loadm1 tf9 rfl (.head _) rfl) ?_
                    refine wq_val (wg rfl rfl hb211) rfl (fun _ _ => (rv_sgeq rfl rfl)) ?_
                    refine wq_val (wg rfl rfl hb204) rfl (fun _ _ => (rv_pick_t rfl hb211 rfl)) ?_
                    refine wq_val wn rfl (fun _ _ => (rv_pick_f rfl hb204 rfl)) ?_
                    refine wq_nil ?_
                    rintro w225 ⟨K224, hS226, hl227⟩
                    obtain rfl := Option.some.inj h215
                    have hS228 : SH _ _ _ _ _ [_] := SH.sublist hS226 (.cons _ (.cons_cons _ .slnil))
                    exact qe_mid' ⟨K224, rfl, hS228, hl227⟩ ⟨rfl, rfl, rfl, rfl, rfl, trivial⟩
                  · have h212 := cond_f hb211 h205
                    refine wq_un (ug rfl rfl hb211) rfl ?_
                    refine wq_un (ug rfl rfl hb211) rfl ?_
                    refine wq_un (ug rfl rfl hb211) rfl ?_
                    refine wq_un (ug rfl rfl hb211) rfl ?_
                    refine wq_un (ug rfl rfl hb211) rfl ?_
                    refine wq_un (ug rfl rfl hb211) rfl ?_
                    refine wq_un (ug rfl rfl hb211) rfl ?_
                    refine wq_un (ug rfl rfl hb211) rfl ?_
                    refine wq_un (ug rfl rfl hb211) rfl ?_
                    refine wq_un (ug rfl rfl hb211) rfl ?_
                    refine wq_val (wg rfl rfl hb204) rfl (fun _ _ => (rv_pick_f (v := .bool false) rfl hb211 rfl)) ?_
                    refine wq_val wn rfl (fun _ _ => (rv_pick_f rfl hb204 rfl)) ?_
                    refine wq_nil ?_
                    rintro w230 ⟨K229, hS231, hl232⟩
                    obtain rfl := Option.some.inj h212
                    have hS233 : SH _ _ _ _ _ [_] := SH.sublist hS231 (.cons _ (.cons_cons _ .slnil))
                    exact qe_mid' ⟨K229, rfl, hS233, hl232⟩ ⟨rfl, rfl, rfl, rfl, rfl, trivial⟩
            · rintro _ w181 ⟨K179, rfl, hS182, hl180⟩
              refine qe_seq ?_
              refine wc_cond rfl (fun hb234 => ?_) (fun hb234 => ?_)
              · have h235 := cond_t hb234 h178
                refine wc_seq ?_
                refine wc_region ?_
                refine wl_val wn rfl (rv_assign (v := .bool false) rfl) ?_
                refine wl_nil ?_
                refine qe_seq ?_
                refine wc_ret ?_
                refine qe_block_ret ?_
                refine qe_then_ret ?_
                refine qe_then_ret ?_
                obtain rfl := Option.some.inj h235
                have e236 := hx158 _ rfl
                subst e236
                refine qe_block_ret ?_
                refine qe_then_ret ?_
                obtain rfl := Option.some.inj h149
                refine qe_then_ret ?_
                obtain rfl := Option.some.inj h140
                have hS237 : SH _ _ _ _ _ [] := SH.sublist hS182 (.cons _ .slnil)
                exact qe_ret (vs := [_]) Try.results62 ⟨rfl, trivial⟩ ⟨K179, rfl, hS237⟩
              · have h235 := cond_f hb234 h178
                refine wc_skip ?_
                refine qe_block ?_
                refine qe_seq (wc_region ?_)
                refine wl_val wn rfl (rv_add_to rfl rfl (w64_succ hi156 (SliceAt.max (SliceAt.mono (hl18.trans hl41) hs9)))) ?_
                refine wl_val wn rfl (rv_move rfl) ?_
                refine wl_nil ?_
                obtain rfl := Option.some.inj h235
                exact qe_mid' ⟨_, rfl, K179, rfl, hS182, (hl152.trans hl180)⟩ ⟨rfl, rfl, rfl, rfl, trivial⟩
          · rintro s146 _ w153 hr238 ⟨K151, rfl, hS154, hl152⟩
            subst hr238
            refine wc_seq (wc_region ?_)
            refine wl_val wn rfl (rv_lss rfl rfl) ?_
            refine wl_nil (qe_seq (wc_seq ?_))
            refine wc_cond_f rfl (decide_eq_false (by omega)) ?_
            refine wc_exit ?_
            refine qe_then_exit ?_
            refine qe_then_exit ?_
            refine qe_block_eq ?_
            obtain rfl := Option.some.inj h149
            have hS239 : SH _ _ _ _ _ [] := SH.sublist hS154 (.cons _ .slnil)
            exact qe_mid' ⟨_, K151, rfl, rfl, hS239, hl152⟩ trivial
        · rintro _ w144 ⟨s141, K142, rfl, rfl, hS145, hl143⟩
          refine qe_seq ?_
          refine wc_seq ?_
          refine wc_region ?_
          refine wl_val wn rfl (rv_assign (v := .bool true) rfl) ?_
          refine wl_nil ?_
          refine qe_seq ?_
          refine wc_ret ?_
          obtain rfl := Option.some.inj h140
          exact qe_ret (vs := [_]) Try.results62 ⟨rfl, trivial⟩ ⟨K142, rfl, hS145⟩

theorem ok_impl_DocsOk (F : Nat) {w : World} {K : KMap} {a1 : Option Addr} {n2 c3 : Nat} {p0_list : List GDoc} {r : Bool} (hS : SH w K [] w K []) (hs4 : SliceAt tGDoc K a1 n2 c3 p0_list) (hm : M.impl_DocsOk F p0_list = some r) :
    Calls Try.prog 18 #[.slice a1 n2 c3] w fun e w' => ∃ (K' : KMap), e = .returned (.bool r) ∧ SH w K [] w' K' [] := by
  rw [M.impl_DocsOk] at hm
  refine calls_in Try.func18 rfl Try.ntmps18 rfl ?_
  refine wc_seq ?_
  refine wc_region ?_
  refine wl_val wn rfl (rv_assign (v := .bool false) rfl) ?_
  refine wl_nil ?_
  refine qe_seq ?_
  refine wc_seq ?_
  refine wc_seq ?_
  refine wc_region ?_
  refine wl_val wn rfl (rv_move rfl) ?_
  refine wl_val wn rfl (rv_len (t := tGDoc) Try.underlying34 rfl hs4) ?_
  refine wl_val wn rfl (rv_move (v := .int .i64 0) rfl) ?_
  refine wl_nil ?_
  refine qe_seq ?_
  obtain ⟨o5, h6, h7⟩ := Option.bind_eq_some_iff.1 hm
  refine wc_cutg (fun E' w' => ∃ (s8 : Unit) (K9 : KMap), o5 = .inl s8 ∧ E' = [(0, .slice a1 n2 c3)] ∧ SH w K [] w' K9 [] ∧ KLe K K9) ?_ ?_
  · refine wc_block ?_
    obtain ⟨r14, h15, h16⟩ := Option.bind_eq_some_iff.1 h6
    refine wc_for' (fun (i17 : Nat) (s13 : Unit) E' w' => ∃ (K18 : KMap), E' = [(0, .slice a1 n2 c3), (5, .slice a1 n2 c3), (6, .int .i64 (p0_list.length : Int)), (7, .int .i64 ((i17 : Nat) : Int))] ∧ SH w K [] w' K18 [] ∧ KLe K K18) h15 ⟨K, rfl, hS, (KLe.refl _)⟩ ⟨rfl, rfl, rfl, rfl, trivial⟩ ?_ ?_
    · rintro i17 s13 _ w20 r22 hi23 h24 hx25 ⟨K18, rfl, hS21, hl19⟩
      refine wc_seq (wc_region ?_)
      refine wl_val wn rfl (rv_lss rfl rfl) ?_
      refine wl_nil (qe_seq (wc_seq ?_))
      refine wc_cond_t rfl (decide_eq_true (by omega)) (wc_skip (qe_seq (wc_seq ?_)))
      refine wc_block ?_
      refine wc_seq ?_
      refine wc_region ?_
      refine wl_val wn rfl (rv_move rfl) ?_
      obtain ⟨x26, hx27, h28⟩ := Option.bind_eq_some_iff.1 h24
      refine wl_indexAddr (t := tGDoc) wn rfl Try.underlying34 tf43 rfl rfl (SliceAt.mono hl19 hs4) hx27 ?_
      intro b29 o30 u31 hu32 ha33
      obtain ⟨a35, n36, c37, a39, n40, c41, rfl, hr34, hs38, hs42⟩ := hu32
      have ha43 : AtK _ b29 o30 [.int .i64 x26.Id, .slice a35 n36 c37, .slice a39 n40 c41] := ha33
      refine wl_val wn rfl (rv_loadS (cs := [.int .i64 x26.Id, .slice a35 n36 c37, .slice a39 n40 c41]) tf43 rfl hS21 ha43 rfl) ?_
      refine wl_alloc wn rfl tf43 hS21 ?_
      intro g44 w45 hS46
      have hS47 : SH _ _ _ _ _ [obj g44 [.int .i64 0, .slice none 0 0, .slice none 0 0] 43] := hS46
      refine wl_val wn rfl (rv_assign rfl) ?_
      refine wl_store (cs' := [.int .i64 x26.Id, .slice a35 n36 c37, .slice a39 n40 c41]) (v := .agg #[.int .i64 x26.Id, .slice a35 n36 c37, .slice a39 n40 c41]) wn tf43 rfl rfl rfl (by simp [Value.cells, Value.oneCell']) hS47 rfl rfl ?_
      intro w48 hS49
      refine wl_nil ?_
      refine qe_seq ?_
      refine wc_seq ?_
      obtain ⟨o50, h51, h52⟩ := Option.bind_eq_some_iff.1 h28
      refine wc_cutg (fun E' w' => ∃ (K53 : KMap), E' = [(0, .slice a1 n2 c3), (5, .slice a1 n2 c3), (6, .int .i64 (p0_list.length : Int)), (7, .int .i64 ((i17 : Nat) : Int)), (29, .bool o50)] ∧ SH w K [] w' K53 [] ∧ KLe K18 K53) ?_ ?_
      · refine wc_quiet mixed (by kernel_rfl) hS49 ?_
        refine wq_val wn rfl (rq_loadmS (ds := [.int .i64 x26.Id, .slice a35 n36 c37, .slice a39 n40 c41]) tf43 rfl (.head _) rfl rfl) ?_
        obtain ⟨r57, hx58, h59⟩ := Option.bind_eq_some_iff.1 h51
        refine wq_call (v := .bool r57) wn rfl (fun _ => rt_call (vs := [.agg #[.int .i64 x26.Id, .slice a35 n36 c37, .slice a39 n40 c41]]) co62 rfl) (fun w62 ⟨K60, hS61, hl63⟩ => ((ok_impl_DocOk F) hS61.enter0 hr34 (SliceAt.mono hl63 hs38) (SliceAt.mono hl63 hs42) hx58).mono fun e w' ⟨K', he, hS'⟩ => ⟨he, K', hS61.call0 hS', hl63.trans hS'.le⟩) ?_
        refine wq_val wn rfl (fun _ _ => (rv_not rfl)) ?_
        refine wq_val wn rfl (fun _ _ => (rv_move rfl)) ?_
        rcases bool_tf ((!r57)) with hb64 | hb64
        · have h65 := cond_t hb64 h59
          refine wq_un (ug rfl rfl hb64) rfl ?_
          refine wq_un (ug rfl rfl hb64) rfl ?_
          refine wq_un (ug rfl rfl hb64) rfl ?_
          refine wq_un (uu rfl rfl) rfl ?_
          refine wq_un (uu rfl rfl) rfl ?_
          refine wq_un (uu rfl rfl) rfl ?_
          refine wq_un (uu rfl rfl) rfl ?_
          refine wq_un (uu rfl rfl) rfl ?_
          refine wq_un (uu rfl rfl) rfl ?_
          refine wq_un (uu rfl rfl) rfl ?_
          refine wq_un (uu rfl rfl) rfl ?_
          refine wq_un (uu rfl rfl) rfl ?_
          refine wq_un (ug rfl rfl hb64) rfl ?_
          refine wq_val wn rfl (fun _ _ => (rv_pick_t (v := .bool true) rfl hb64 rfl)) ?_
          refine wq_nil ?_
          rintro w67 ⟨K66, hS68, hl69⟩
          obtain rfl := Option.some.inj h65
          have hS70 : SH _ _ _ _ _ [] := SH.sublist hS68 (.cons _ .slnil)
          exact qe_mid' ⟨K66, rfl, hS70, hl69⟩ ⟨rfl, rfl, rfl, rfl, rfl, trivial⟩
        · have h65 := cond_f hb64 h59
          refine wq_val (wg rfl rfl hb64) rfl (fun _ _ => (rv_move rfl)) ?_
          refine wq_val (wg rfl rfl hb64) rfl (fun _ _ => (rv_gtr rfl rfl)) ?_
          refine wq_val (wg rfl rfl hb64) rfl (fun _ _ => (rv_move rfl)) ?_
          rcases bool_tf (decide ((0 : Int) < ((i17 : Nat) : Int))) with hb71 | hb71
          · have h72 := cond_t hb71 h65
            refine wq_val (wg rfl rfl hb71) rfl (fun _ _ => (rv_move rfl)) ?_
            refine wq_val (wg rfl rfl hb71) rfl (fun _ _ => (rv_move rfl)) ?_
            refine wq_val (wg rfl rfl hb71) rfl (fun _ _ => (rv_sub rfl rfl)) ?_
            obtain ⟨x73, hx74, h75⟩ := Option.bind_eq_some_iff.1 h72
            refine wq_indexAddr (t := tGDoc) (wg rfl rfl hb71) rfl Try.underlying34 tf43 rfl rfl (SliceAt.mono hl19 hs4) hx74 ?_
            intro b76 o77 u78 hu79 ha80
            obtain ⟨a82, n83, c84, a86, n87, c88, rfl, hr81, hs85, hs89⟩ := hu79
            have ha90 : AtK _ b76 o77 [.int .i64 x73.Id, .slice a82 n83 c84, .slice a86 n87 c88] := ha80
            refine wq_val (wg rfl rfl hb71) rfl (fun _ _ => (rv_fieldAddr ff43_0 rfl)) ?_
            refine wq_val (wg rfl rfl hb71) rfl (rq_load1 tf3 rfl (ha90 0 _ rfl)) ?_
            refine wq_val (wg rfl rfl hb71) rfl (fun _ _ => (rv_fieldAddr ff43_0 rfl)) ?_
            refine wq_val (wg rfl rfl hb71) rfl (rq_loadm1 tf3 rfl (.head _) rfl) ?_
            refine wq_val (wg rfl rfl hb71) rfl (fun _ _ => (rv_geq rfl rfl)) ?_
            refine wq_val (wg rfl rfl hb64) rfl (fun _ _ => (rv_pick_t rfl hb71 rfl)) ?_
            refine wq_val wn rfl (fun _ _ => (rv_pick_f rfl hb64 rfl)) ?_
            refine wq_nil ?_
            rintro w92 ⟨K91, hS93, hl94⟩
            obtain rfl := Option.some.inj h75
            have hS95 : SH _ _ _ _ _ [] := SH.sublist hS93 (.cons _ .slnil)
            exact qe_mid' ⟨K91, rfl, hS95, hl94⟩ ⟨rfl, rfl, rfl, rfl, rfl, trivial⟩
          · have h72 := cond_f hb71 h65
            refine wq_un (ug rfl rfl hb71) rfl ?_
            refine wq_un (ug rfl rfl hb71) rfl ?_
            refine wq_un (ug rfl rfl hb71) rfl ?_
            refine wq_un (ug rfl rfl hb71) rfl ?_
            refine wq_un (ug rfl rfl hb71) rfl ?_
            refine wq_un (ug rfl rfl hb71) rfl ?_
            refine wq_un (ug rfl rfl hb71) rfl ?_
            refine wq_un (ug rfl rfl hb71) rfl ?_
            refine wq_un (ug rfl rfl hb71) rfl ?_
            refine wq_val (wg rfl rfl hb64) rfl (fun _ _ => (rv_pick_f (v := .bool false) rfl hb71 rfl)) ?_
            refine wq_val wn rfl (fun _ _ => (rv_pick_f rfl hb64 rfl)) ?_
            refine wq_nil ?_
            rintro w97 ⟨K96, hS98, hl99⟩
            obtain rfl := Option.some.inj h72
            have hS100 : SH _ _ _ _ _ [] := SH.sublist hS98 (.cons _ .slnil)
            exact qe_mid' ⟨K96, rfl, hS100, hl99⟩ ⟨rfl, rfl, rfl, rfl, rfl, trivial⟩
      · rintro _ w55 ⟨K53, rfl, hS56, hl54⟩
        refine qe_seq ?_
        refine wc_cond rfl (fun hb101 => ?_) (fun hb101 => ?_)
        · have h102 := cond_t hb101 h52
          refine wc_seq ?_
          refine wc_region ?_
          refine wl_val wn rfl (rv_assign (v := .bool false) rfl) ?_
          refine wl_nil ?_
          refine qe_seq ?_
          refine wc_ret ?_
          refine qe_block_ret ?_
          refine qe_then_ret ?_
          refine qe_then_ret ?_
          obtain rfl := Option.some.inj h102
          have e103 := hx25 _ rfl
          subst e103
          refine qe_block_ret ?_
          refine qe_then_ret ?_
          obtain rfl := Option.some.inj h16
          refine qe_then_ret ?_
          obtain rfl := Option.some.inj h7
          exact qe_ret (vs := [_]) Try.results18 ⟨rfl, trivial⟩ ⟨K53, rfl, hS56⟩
        · have h102 := cond_f hb101 h52
          refine wc_skip ?_
          refine qe_block ?_
          refine qe_seq (wc_region ?_)
          refine wl_val wn rfl (rv_add_to rfl rfl (w64_succ hi23 (SliceAt.max hs4))) ?_
          refine wl_val wn rfl (rv_move rfl) ?_
          refine wl_nil ?_
          obtain rfl := Option.some.inj h102
          exact qe_mid' ⟨_, rfl, K53, rfl, hS56, (hl19.trans hl54)⟩ ⟨rfl, rfl, rfl, rfl, trivial⟩
    · rintro s13 _ w20 hr104 ⟨K18, rfl, hS21, hl19⟩
      subst hr104
      refine wc_seq (wc_region ?_)
      refine wl_val wn rfl (rv_lss rfl rfl) ?_
      refine wl_nil (qe_seq (wc_seq ?_))
      refine wc_cond_f rfl (decide_eq_false (by omega)) ?_
      refine wc_exit ?_
      refine qe_then_exit ?_
      refine qe_then_exit ?_
      refine qe_block_eq ?_
      obtain rfl := Option.some.inj h16
      exact qe_mid' ⟨_, K18, rfl, rfl, hS21, hl19⟩ ⟨rfl, trivial⟩
  · rintro _ w11 ⟨s8, K9, rfl, rfl, hS12, hl10⟩
    refine qe_seq ?_
    refine wc_seq ?_
    refine wc_region ?_
    refine wl_val wn rfl (rv_move rfl) ?_
    refine wl_val wn rfl (rv_len (t := tGDoc) Try.underlying34 rfl (SliceAt.mono hl10 hs4)) ?_
    refine wl_val wn rfl (rv_leq rfl rfl) ?_
    refine wl_val wn rfl (rv_assign rfl) ?_
    refine wl_nil ?_
    refine qe_seq ?_
    refine wc_ret ?_
    obtain rfl := Option.some.inj h7
    exact qe_ret (vs := [_]) Try.results18 ⟨rfl, trivial⟩ ⟨K9, rfl, hS12⟩

theorem ok_impl_shardOk (F : Nat) {w : World} {K : KMap} {p0_many : Int} {p1_which : Int} {r : Bool} (hS : SH w K [] w K []) (hr1 : rng64 p0_many) (hr2 : rng64 p1_which) (hm : M.impl_shardOk F p0_many p1_which = some r) :
    Calls Try.prog 57 #[.int .i64 p0_many, .int .i64 p1_which] w fun e w' => ∃ (K' : KMap), e = .returned (.bool r) ∧ SH w K [] w' K' [] := by
  rw [M.impl_shardOk] at hm
  refine calls_in Try.func57 rfl Try.ntmps57 rfl ?_
  refine wc_seq ?_
  refine wc_region ?_
  refine wl_val wn rfl (rv_assign (v := .bool false) rfl) ?_
  refine wl_nil ?_
  refine qe_seq ?_
  refine wc_seq ?_
  refine wc_region ?_
  refine wl_val wn rfl (rv_move rfl) ?_
  obtain ⟨r3, hx4, h5⟩ := Option.bind_eq_some_iff.1 hm
  refine wl_call wn rfl (rt_call (vs := [.int .i64 p0_many, .int .i64 1, .int .i64 4]) co72 rfl) ((ok_impl_within F) hS.enter0 hr1 (by decide : rng64 1) (by decide : rng64 4) hx4) ?_
  rintro e9 w7 ⟨K6, rfl, hS8⟩
  refine ⟨_, rfl, ?_⟩
  have hS10 : SH _ _ _ _ _ [] := SH.call0 hS hS8
  refine wl_val wn rfl (rv_move rfl) ?_
  rcases bool_tf (r3) with hb11 | hb11
  · have h12 := cond_t hb11 h5
    refine wl_val (wg rfl rfl hb11) rfl (rv_move rfl) ?_
    refine wl_val (wg rfl rfl hb11) rfl (rv_move rfl) ?_
    refine wl_val (wg rfl rfl hb11) rfl (rv_sub rfl rfl) ?_
    obtain ⟨r13, hx14, h15⟩ := Option.bind_eq_some_iff.1 h12
    refine wl_call (wg rfl rfl hb11) rfl (rt_call (vs := [.int .i64 p1_which, .int .i64 0, .int .i64 (w64 (p0_many - (1 : Int)))]) co72 rfl) ((ok_impl_within F) hS10.enter0 hr2 (by decide : rng64 0) (w64_rng _) hx14) ?_
    rintro e19 w17 ⟨K16, rfl, hS18⟩
    refine ⟨_, rfl, ?_⟩
    have hS20 : SH _ _ _ _ _ [] := SH.call0 hS10 hS18
    refine wl_val wn rfl (rv_pick_t rfl hb11 rfl) ?_
    refine wl_val wn rfl (rv_assign rfl) ?_
    refine wl_nil ?_
    refine qe_seq ?_
    refine wc_ret ?_
    obtain rfl := Option.some.inj h15
    exact qe_ret (vs := [_]) Try.results57 ⟨rfl, trivial⟩ ⟨K16, rfl, hS20⟩
  · have h12 := cond_f hb11 h5
    refine wl_un (ug rfl rfl hb11) rfl ?_
    refine wl_un (ug rfl rfl hb11) rfl ?_
    refine wl_un (ug rfl rfl hb11) rfl ?_
    refine wl_un (ug rfl rfl hb11) rfl ?_
    refine wl_val wn rfl (rv_pick_f (v := .bool false) rfl hb11 rfl) ?_
    refine wl_val wn rfl (rv_assign rfl) ?_
    refine wl_nil ?_
    refine qe_seq ?_
    refine wc_ret ?_
    obtain rfl := Option.some.inj h12
    exact qe_ret (vs := [_]) Try.results57 ⟨rfl, trivial⟩ ⟨K6, rfl, hS10⟩

theorem ok_impl_cloneDoc (F : Nat) {w : World} {K : KMap} {a2 : Option Addr} {n3 c4 : Nat} {a6 : Option Addr} {n7 c8 : Nat} {p0_d : GDoc} {r : GDoc} (hS : SH w K [] w K []) (hr1 : rng64 p0_d.Id) (hs5 : SliceAt tGField K a2 n3 c4 p0_d.Fields) (hs9 : SliceAt tGAttr K a6 n7 c8 p0_d.Nums) (hm : M.impl_cloneDoc F p0_d = some r) :
    Calls Try.prog 58 #[.agg #[.int .i64 p0_d.Id, .slice a2 n3 c4, .slice a6 n7 c8]] w fun e w' => ∃ (a_2 : Option Addr) (n_3 c_4 : Nat) (a_6 : Option Addr) (n_7 c_8 : Nat) (K' : KMap), e = .returned (.agg #[.int .i64 r.Id, .slice a_2 n_3 c_4, .slice a_6 n_7 c_8]) ∧ SH w K [] w' K' [tail (.slice a_2 n_3 c_4) 96 2, tail (.slice a_6 n_7 c_8) 98 2] ∧ rng64 r.Id ∧ SliceAt tGField K' a_2 n_3 c_4 r.Fields ∧ SliceAt tGAttr K' a_6 n_7 c_8 r.Nums := by
  rw [M.impl_cloneDoc] at hm
  refine calls_in Try.func58 rfl Try.ntmps58 rfl ?_
  refine wc_seq ?_
  refine wc_region ?_
  refine wl_box wn rfl rfl hS ?_
  intro g10 w11 hS12
  have hS13 : SH _ _ _ _ _ [obj g10 [.int .i64 p0_d.Id, .slice a2 n3 c4, .slice a6 n7 c8] 43] := hS12
  refine wl_alloc wn rfl tf43 hS13 ?_
  intro g14 w15 hS16
  have hS17 : SH _ _ _ _ _ [obj g14 [.int .i64 0, .slice none 0 0, .slice none 0 0] 43, _] := hS16
  refine wl_nil ?_
  refine qe_seq ?_
  refine wc_seq ?_
  obtain ⟨x26, hx27, h28⟩ := Option.bind_eq_some_iff.1 hm
  obtain ⟨x43, hx44, h45⟩ := Option.bind_eq_some_iff.1 h28
  refine wc_held (fun w' => Holds K w' ∧ HasObj g10 [.int .i64 p0_d.Id, .slice a2 n3 c4, .slice a6 n7 c8] w') (fun w' => True) 11 [] mixed ?_
  have hS19 := SH.drew hS17
  refine wg_val (i := 0) (listed' := #[true, false, false, false, false, false, false, false, false, false, false, false]) (fun _ => True) rfl (by kernel_rfl) (pk_then pk_body) (by kernel_rfl) rfl (by kernel_rfl) (by kernel_rfl) rfl (.inl fun _ _ => trivial) ⟨⟨hS19.hasK (KLe.refl _), hS19.hasObj (.tail _ (.head _))⟩, (fun _ => trivial), by decide⟩ wn rfl (fun _ _ => (rv_fieldAddr ff43_0 rfl)) ?_
  refine wg_val (i := 1) (listed' := #[true, true, false, false, false, false, false, false, false, false, false, false]) (HasObj g10 [.int .i64 p0_d.Id, .slice a2 n3 c4, .slice a6 n7 c8]) rfl (by kernel_rfl) (pk_then pk_body) (by kernel_rfl) rfl (by kernel_rfl) (by kernel_rfl) rfl (.inl fun _ h => h.2) ⟨⟨hS19.hasK (KLe.refl _), hS19.hasObj (.tail _ (.head _))⟩, (fun _ => trivial), by decide⟩ wn rfl (fun _ h => rh_loadm1 tf3 rfl rfl h) ?_
  refine wg_val (i := 3) (listed' := #[true, true, false, true, false, false, false, false, false, false, false, false]) (fun _ => True) rfl (by kernel_rfl) (pk_then pk_body) (by kernel_rfl) rfl (by kernel_rfl) (by kernel_rfl) rfl (.inl fun _ _ => trivial) ⟨⟨hS19.hasK (KLe.refl _), hS19.hasObj (.tail _ (.head _))⟩, (fun _ => trivial), by decide⟩ wn rfl (fun _ _ => (rv_fieldAddr ff43_1 rfl)) ?_
  refine wg_val (i := 4) (listed' := #[true, true, false, true, true, false, false, false, false, false, false, false]) (HasObj g10 [.int .i64 p0_d.Id, .slice a2 n3 c4, .slice a6 n7 c8]) rfl (by kernel_rfl) (pk_then pk_body) (by kernel_rfl) rfl (by kernel_rfl) (by kernel_rfl) rfl (.inl fun _ h => h.2) ⟨⟨hS19.hasK (KLe.refl _), hS19.hasObj (.tail _ (.head _))⟩, (fun _ => trivial), by decide⟩ wn rfl (fun _ h => rh_loadm1 tf40 rfl rfl h) ?_
  refine wg_val (i := 7) (listed' := #[true, true, false, true, true, false, false, true, false, false, false, false]) (fun _ => True) rfl (by kernel_rfl) (pk_then pk_body) (by kernel_rfl) rfl (by kernel_rfl) (by kernel_rfl) rfl (.inl fun _ _ => trivial) ⟨⟨hS19.hasK (KLe.refl _), hS19.hasObj (.tail _ (.head _))⟩, (fun _ => trivial), by decide⟩ wn rfl (fun _ _ => (rv_fieldAddr ff43_2 rfl)) ?_
  refine wg_val (i := 8) (listed' := #[true, true, false, true, true, false, false, true, true, false, false, false]) (HasObj g10 [.int .i64 p0_d.Id, .slice a2 n3 c4, .slice a6 n7 c8]) rfl (by kernel_rfl) (pk_then pk_body) (by kernel_rfl) rfl (by kernel_rfl) (by kernel_rfl) rfl (.inl fun _ h => h.2) ⟨⟨hS19.hasK (KLe.refl _), hS19.hasObj (.tail _ (.head _))⟩, (fun _ => trivial), by decide⟩ wn rfl (fun _ h => rh_loadm1 tf41 rfl rfl h) ?_
  refine wg_many (l := [2, 6]) (by kernel_rfl) rfl ⟨⟨_, rfl, ?_⟩, ⟨_, rfl, ?_⟩, trivial⟩
  · refine wl_buildSlice0 tGField wn rfl Try.underlying40 tf96 hS19 ?_
    intro a57 w58 K59 hl60 hs61 hS62
    refine wl_nil (qe_held (listed' := #[true, true, true, true, true, false, false, true, true, false, false, false]) rfl ⟨⟨hS62.hasK hl60, hS62.hasObj (.tail _ (.tail _ (.head _)))⟩, (fun _ => trivial), by decide⟩ ?_)
    refine wg_many (l := [5, 6]) (by kernel_rfl) rfl ⟨⟨_, rfl, ?_⟩, ⟨_, rfl, ?_⟩, trivial⟩
    · refine wl_append (t := tGField) wn rfl Try.underlying40 tf96 rfl rfl rfl rfl rfl hs61 (SliceAt.mono hl60 hs5) hx27 hS62 ?_
      intro a63 n64 c65 w66 K67 hl68 hs69 hS70
      refine wl_nil (qe_held (listed' := #[true, true, true, true, true, true, false, true, true, false, false, false]) rfl ⟨⟨hS70.hasK (hl60.trans hl68), hS70.hasObj (.tail _ (.tail _ (.head _)))⟩, (fun _ => trivial), by decide⟩ ?_)
      refine wg_one (i := 6) (by kernel_rfl) rfl ?_
      refine wl_buildSlice0 tGAttr wn rfl Try.underlying41 tf98 hS70 ?_
      intro a71 w72 K73 hl74 hs75 hS76
      refine wl_nil (qe_held (listed' := #[true, true, true, true, true, true, true, true, true, false, false, false]) rfl ⟨⟨hS76.hasK ((hl60.trans hl68).trans hl74), hS76.hasObj (.tail _ (.tail _ (.tail _ (.head _))))⟩, (fun _ => trivial), by decide⟩ ?_)
      refine wg_one (i := 9) (by kernel_rfl) rfl ?_
      refine wl_append (t := tGAttr) wn rfl Try.underlying41 tf98 rfl rfl rfl rfl rfl hs75 (SliceAt.mono ((hl60.trans hl68).trans hl74) hs9) hx44 hS76 ?_
      intro a77 n78 c79 w80 K81 hl82 hs83 hS84
      refine wl_nil (qe_held (listed' := #[true, true, true, true, true, true, true, true, true, true, false, false]) rfl ⟨⟨hS84.hasK (((hl60.trans hl68).trans hl74).trans hl82), hS84.hasObj (.tail _ (.tail _ (.tail _ (.head _))))⟩, (fun _ => trivial), by decide⟩ ?_)
      refine wg_val (i := 10) (listed' := #[true, true, true, true, true, true, true, true, true, true, true, false]) (fun _ => True) rfl (by kernel_rfl) (pk_then pk_body) (by kernel_rfl) rfl (by kernel_rfl) (by kernel_rfl) rfl (.inl fun _ _ => trivial) ⟨⟨hS84.hasK (((hl60.trans hl68).trans hl74).trans hl82), hS84.hasObj (.tail _ (.tail _ (.tail _ (.head _))))⟩, (fun _ => trivial), by decide⟩ wn rfl (fun _ _ => (rv_build (cs := #[.int .i64 p0_d.Id, .slice a63 n64 c65, .slice a77 n78 c79]) sp43 tf43 rfl (by kernel_rfl))) ?_
      refine wg_one (i := 11) (by kernel_rfl) rfl ?_
      have hS85 : SH _ _ _ _ _ [_, _, _, _] := SH.front (p := [_, _]) hS84
      refine wl_store (cs' := [.int .i64 p0_d.Id, .slice a63 n64 c65, .slice a77 n78 c79]) (v := .agg #[.int .i64 p0_d.Id, .slice a63 n64 c65, .slice a77 n78 c79]) wn tf43 rfl rfl rfl (by simp [Value.cells, Value.oneCell']) hS85 rfl rfl ?_
      intro w86 hS87
      refine wl_nil (qe_held (listed' := #[true, true, true, true, true, true, true, true, true, true, true, true]) rfl ⟨⟨hS87.hasK (((hl60.trans hl68).trans hl74).trans hl82), hS87.hasObj (.tail _ (.tail _ (.tail _ (.head _))))⟩, (fun _ => trivial), by decide⟩ ?_)
      refine wg_done (by kernel_rfl) ?_
      refine qe_seq ?_
      refine wc_ret ?_
      obtain rfl := Option.some.inj h45
      have hS88 : SH _ _ _ _ _ [_, _, _, _] := SH.front (p := [_]) hS87
      have hS89 : SH _ _ _ _ _ [_, _, _, _] := SH.front (p := [_, _]) hS88
      have hS90 : SH _ _ _ _ _ [_, _] := SH.sublist hS89 (.cons_cons _ (.cons_cons _ (.cons _ (.cons _ .slnil))))
      exact qe_ret (vs := [_]) Try.results58 ⟨⟨_, _, rfl, run_loadVar_at tf43 (cs := [.int .i64 p0_d.Id, .slice a63 n64 c65, .slice a77 n78 c79]) (fun j c e => by rw [Nat.zero_add, hS87.mem_obj (.head _)]; exact e) (.inl ⟨rfl, rfl, rfl⟩)⟩, trivial⟩ ⟨a63, n64, c65, a77, n78, c79, K81, rfl, hS90, hr1, (SliceAt.mono (hl74.trans hl82) hs69), hs83⟩
    · refine wl_buildSlice0 tGAttr wn rfl Try.underlying41 tf98 hS62 ?_
      intro a91 w92 K93 hl94 hs95 hS96
      refine wl_nil (qe_held (listed' := #[true, true, true, true, true, false, true, true, true, false, false, false]) rfl ⟨⟨hS96.hasK (hl60.trans hl94), hS96.hasObj (.tail _ (.tail _ (.tail _ (.head _))))⟩, (fun _ => trivial), by decide⟩ ?_)
      refine wg_one (i := 5) (by kernel_rfl) rfl ?_
      have hS97 : SH _ _ _ _ _ [_, _, _, _] := SH.front (p := [_]) hS96
      refine wl_append (t := tGField) wn rfl Try.underlying40 tf96 rfl rfl rfl rfl rfl (SliceAt.mono hl94 hs61) (SliceAt.mono (hl60.trans hl94) hs5) hx27 hS97 ?_
      intro a98 n99 c100 w101 K102 hl103 hs104 hS105
      refine wl_nil (qe_held (listed' := #[true, true, true, true, true, true, true, true, true, false, false, false]) rfl ⟨⟨hS105.hasK ((hl60.trans hl94).trans hl103), hS105.hasObj (.tail _ (.tail _ (.tail _ (.head _))))⟩, (fun _ => trivial), by decide⟩ ?_)
      refine wg_one (i := 9) (by kernel_rfl) rfl ?_
      have hS106 : SH _ _ _ _ _ [_, _, _, _] := SH.front (p := [_]) hS105
      refine wl_append (t := tGAttr) wn rfl Try.underlying41 tf98 rfl rfl rfl rfl rfl (SliceAt.mono hl103 hs95) (SliceAt.mono ((hl60.trans hl94).trans hl103) hs9) hx44 hS106 ?_
      intro a107 n108 c109 w110 K111 hl112 hs113 hS114
      refine wl_nil (qe_held (listed' := #[true, true, true, true, true, true, true, true, true, true, false, false]) rfl ⟨⟨hS114.hasK (((hl60.trans hl94).trans hl103).trans hl112), hS114.hasObj (.tail _ (.tail _ (.tail _ (.head _))))⟩, (fun _ => trivial), by decide⟩ ?_)
      refine wg_val (i := 10) (listed' := #[true, true, true, true, true, true, true, true, true, true, true, false]) (fun _ => True) rfl (by kernel_rfl) (pk_then pk_body) (by kernel_rfl) rfl (by kernel_rfl) (by kernel_rfl) rfl (.inl fun _ _ => trivial) ⟨⟨hS114.hasK (((hl60.trans hl94).trans hl103).trans hl112), hS114.hasObj (.tail _ (.tail _ (.tail _ (.head _))))⟩, (fun _ => trivial), by decide⟩ wn rfl (fun _ _ => (rv_build (cs := #[.int .i64 p0_d.Id, .slice a98 n99 c100, .slice a107 n108 c109]) sp43 tf43 rfl (by kernel_rfl))) ?_
      refine wg_one (i := 11) (by kernel_rfl) rfl ?_
      have hS115 : SH _ _ _ _ _ [_, _, _, _] := SH.front (p := [_, _]) hS114
      refine wl_store (cs' := [.int .i64 p0_d.Id, .slice a98 n99 c100, .slice a107 n108 c109]) (v := .agg #[.int .i64 p0_d.Id, .slice a98 n99 c100, .slice a107 n108 c109]) wn tf43 rfl rfl rfl (by simp [Value.cells, Value.oneCell']) hS115 rfl rfl ?_
      intro w116 hS117
      refine wl_nil (qe_held (listed' := #[true, true, true, true, true, true, true, true, true, true, true, true]) rfl ⟨⟨hS117.hasK (((hl60.trans hl94).trans hl103).trans hl112), hS117.hasObj (.tail _ (.tail _ (.tail _ (.head _))))⟩, (fun _ => trivial), by decide⟩ ?_)
      refine wg_done (by kernel_rfl) ?_
      refine qe_seq ?_
      refine wc_ret ?_
      obtain rfl := Option.some.inj h45
      have hS118 : SH _ _ _ _ _ [_, _, _, _] := SH.front (p := [_]) hS117
      have hS119 : SH _ _ _ _ _ [_, _, _, _] := SH.front (p := [_, _]) hS118
      have hS120 : SH _ _ _ _ _ [_, _] := SH.sublist hS119 (.cons_cons _ (.cons_cons _ (.cons _ (.cons _ .slnil))))
      exact qe_ret (vs := [_]) Try.results58 ⟨⟨_, _, rfl, run_loadVar_at tf43 (cs := [.int .i64 p0_d.Id, .slice a98 n99 c100, .slice a107 n108 c109]) (fun j c e => by rw [Nat.zero_add, hS117.mem_obj (.head _)]; exact e) (.inl ⟨rfl, rfl, rfl⟩)⟩, trivial⟩ ⟨a98, n99, c100, a107, n108, c109, K111, rfl, hS120, hr1, (SliceAt.mono hl112 hs104), hs113⟩
  · refine wl_buildSlice0 tGAttr wn rfl Try.underlying41 tf98 hS19 ?_
    intro a121 w122 K123 hl124 hs125 hS126
    refine wl_nil (qe_held (listed' := #[true, true, false, true, true, false, true, true, true, false, false, false]) rfl ⟨⟨hS126.hasK hl124, hS126.hasObj (.tail _ (.tail _ (.head _)))⟩, (fun _ => trivial), by decide⟩ ?_)
    refine wg_one (i := 2) (by kernel_rfl) rfl ?_
    refine wl_buildSlice0 tGField wn rfl Try.underlying40 tf96 hS126 ?_
    intro a127 w128 K129 hl130 hs131 hS132
    refine wl_nil (qe_held (listed' := #[true, true, true, true, true, false, true, true, true, false, false, false]) rfl ⟨⟨hS132.hasK (hl124.trans hl130), hS132.hasObj (.tail _ (.tail _ (.tail _ (.head _))))⟩, (fun _ => trivial), by decide⟩ ?_)
    refine wg_one (i := 5) (by kernel_rfl) rfl ?_
    refine wl_append (t := tGField) wn rfl Try.underlying40 tf96 rfl rfl rfl rfl rfl hs131 (SliceAt.mono (hl124.trans hl130) hs5) hx27 hS132 ?_
    intro a133 n134 c135 w136 K137 hl138 hs139 hS140
    refine wl_nil (qe_held (listed' := #[true, true, true, true, true, true, true, true, true, false, false, false]) rfl ⟨⟨hS140.hasK ((hl124.trans hl130).trans hl138), hS140.hasObj (.tail _ (.tail _ (.tail _ (.head _))))⟩, (fun _ => trivial), by decide⟩ ?_)
    refine wg_one (i := 9) (by kernel_rfl) rfl ?_
    have hS141 : SH _ _ _ _ _ [_, _, _, _] := SH.front (p := [_]) hS140
    refine wl_append (t := tGAttr) wn rfl Try.underlying41 tf98 rfl rfl rfl rfl rfl (SliceAt.mono (hl130.trans hl138) hs125) (SliceAt.mono ((hl124.trans hl130).trans hl138) hs9) hx44 hS141 ?_
    intro a142 n143 c144 w145 K146 hl147 hs148 hS149
    refine wl_nil (qe_held (listed' := #[true, true, true, true, true, true, true, true, true, true, false, false]) rfl ⟨⟨hS149.hasK (((hl124.trans hl130).trans hl138).trans hl147), hS149.hasObj (.tail _ (.tail _ (.tail _ (.head _))))⟩, (fun _ => trivial), by decide⟩ ?_)
    refine wg_val (i := 10) (listed' := #[true, true, true, true, true, true, true, true, true, true, true, false]) (fun _ => True) rfl (by kernel_rfl) (pk_then pk_body) (by kernel_rfl) rfl (by kernel_rfl) (by kernel_rfl) rfl (.inl fun _ _ => trivial) ⟨⟨hS149.hasK (((hl124.trans hl130).trans hl138).trans hl147), hS149.hasObj (.tail _ (.tail _ (.tail _ (.head _))))⟩, (fun _ => trivial), by decide⟩ wn rfl (fun _ _ => (rv_build (cs := #[.int .i64 p0_d.Id, .slice a133 n134 c135, .slice a142 n143 c144]) sp43 tf43 rfl (by kernel_rfl))) ?_
    refine wg_one (i := 11) (by kernel_rfl) rfl ?_
    have hS150 : SH _ _ _ _ _ [_, _, _, _] := SH.front (p := [_, _]) hS149
    refine wl_store (cs' := [.int .i64 p0_d.Id, .slice a133 n134 c135, .slice a142 n143 c144]) (v := .agg #[.int .i64 p0_d.Id, .slice a133 n134 c135, .slice a142 n143 c144]) wn tf43 rfl rfl rfl (by simp [Value.cells, Value.oneCell']) hS150 rfl rfl ?_
    intro w151 hS152
    refine wl_nil (qe_held (listed' := #[true, true, true, true, true, true, true, true, true, true, true, true]) rfl ⟨⟨hS152.hasK (((hl124.trans hl130).trans hl138).trans hl147), hS152.hasObj (.tail _ (.tail _ (.tail _ (.head _))))⟩, (fun _ => trivial), by decide⟩ ?_)
    refine wg_done (by kernel_rfl) ?_
    refine qe_seq ?_
    refine wc_ret ?_
    obtain rfl := Option.some.inj h45
    have hS153 : SH _ _ _ _ _ [_, _, _, _] := SH.front (p := [_]) hS152
    have hS154 : SH _ _ _ _ _ [_, _, _, _] := SH.front (p := [_, _]) hS153
    have hS155 : SH _ _ _ _ _ [_, _] := SH.sublist hS154 (.cons_cons _ (.cons_cons _ (.cons _ (.cons _ .slnil))))
    exact qe_ret (vs := [_]) Try.results58 ⟨⟨_, _, rfl, run_loadVar_at tf43 (cs := [.int .i64 p0_d.Id, .slice a133 n134 c135, .slice a142 n143 c144]) (fun j c e => by rw [Nat.zero_add, hS152.mem_obj (.head _)]; exact e) (.inl ⟨rfl, rfl, rfl⟩)⟩, trivial⟩ ⟨a133, n134, c135, a142, n143, c144, K146, rfl, hS155, hr1, (SliceAt.mono hl147 hs139), hs148⟩

theorem ok_impl_ShardOf (F : Nat) {w : World} {K : KMap} {a1 : Option Addr} {n2 c3 : Nat} {p0_docs : List GDoc} {p1_many : Int} {p2_which : Int} {r : (List GDoc)} (hS : SH w K [] w K []) (hs4 : SliceAt tGDoc K a1 n2 c3 p0_docs) (hr5 : rng64 p1_many) (hr6 : rng64 p2_which) (hm : M.impl_ShardOf F p0_docs p1_many p2_which = some r) :
    Calls Try.prog 15 #[.slice a1 n2 c3, .int .i64 p1_many, .int .i64 p2_which] w fun e w' => ∃ (a_1 : Option Addr) (n_2 c_3 : Nat) (K' : KMap), e = .returned (.slice a_1 n_2 c_3) ∧ SH w K [] w' K' [tail (.slice a_1 n_2 c_3) 43 3] ∧ SliceAt tGDoc K' a_1 n_2 c_3 r := by
  rw [M.impl_ShardOf] at hm
  refine calls_in Try.func15 rfl Try.ntmps15 rfl ?_
  refine wc_seq ?_
  refine wc_region ?_
  refine wl_val wn rfl (rv_assign (v := .slice none 0 0) rfl) ?_
  refine wl_nil ?_
  refine qe_seq ?_
  refine wc_seq ?_
  refine wc_region ?_
  refine wl_buildSlice0 tGDoc wn rfl Try.underlying34 tf43 hS ?_
  intro a7 w8 K9 hl10 hs11 hS12
  refine wl_val wn rfl (rv_assign rfl) ?_
  refine wl_nil ?_
  refine qe_seq ?_
  refine wc_seq ?_
  refine wc_seq ?_
  obtain ⟨o13, h14, h15⟩ := Option.bind_eq_some_iff.1 hm
  refine wc_cutg (fun E' w' => ∃ (K16 : KMap), E' = [(0, .slice a1 n2 c3), (1, .int .i64 p1_many), (2, .int .i64 p2_which), (7, .slice a7 0 0), (19, .bool o13)] ∧ SH w K [] w' K16 [tail (.slice a7 0 0) 43 3] ∧ KLe K9 K16) ?_ ?_
  · refine wc_region ?_
    refine wl_val wn rfl (rv_move rfl) ?_
    obtain ⟨r20, hx21, h22⟩ := Option.bind_eq_some_iff.1 h14
    refine wl_call wn rfl (rt_call (vs := [.slice a1 n2 c3]) co18 rfl) ((ok_impl_DocsOk F) hS12.enter0 (SliceAt.mono hl10 hs4) hx21) ?_
    rintro e26 w24 ⟨K23, rfl, hS25⟩
    refine ⟨_, rfl, ?_⟩
    have hS27 : SH _ _ _ _ _ [_] := SH.call0 hS12 hS25
    refine wl_val wn rfl (rv_not rfl) ?_
    refine wl_val wn rfl (rv_move rfl) ?_
    rcases bool_tf ((!r20)) with hb28 | hb28
    · have h29 := cond_t hb28 h22
      refine wl_un (ug rfl rfl hb28) rfl ?_
      refine wl_un (ug rfl rfl hb28) rfl ?_
      refine wl_un (ug rfl rfl hb28) rfl ?_
      refine wl_un (ug rfl rfl hb28) rfl ?_
      refine wl_val wn rfl (rv_pick_t (v := .bool true) rfl hb28 rfl) ?_
      refine wl_nil ?_
      obtain rfl := Option.some.inj h29
      exact qe_mid' ⟨K23, rfl, hS27, hS25.le⟩ ⟨rfl, rfl, rfl, rfl, rfl, trivial⟩
    · have h29 := cond_f hb28 h22
      refine wl_val (wg rfl rfl hb28) rfl (rv_move rfl) ?_
      refine wl_val (wg rfl rfl hb28) rfl (rv_move rfl) ?_
      obtain ⟨r30, hx31, h32⟩ := Option.bind_eq_some_iff.1 h29
      refine wl_call (wg rfl rfl hb28) rfl (rt_call (vs := [.int .i64 p1_many, .int .i64 p2_which]) co57 rfl) ((ok_impl_shardOk F) hS27.enter0 hr5 hr6 hx31) ?_
      rintro e36 w34 ⟨K33, rfl, hS35⟩
      refine ⟨_, rfl, ?_⟩
      have hS37 : SH _ _ _ _ _ [_] := SH.call0 hS27 hS35
      refine wl_val (wg rfl rfl hb28) rfl (rv_not rfl) ?_
      refine wl_val wn rfl (rv_pick_f rfl hb28 rfl) ?_
      refine wl_nil ?_
      obtain rfl := Option.some.inj h32
      exact qe_mid' ⟨K33, rfl, hS37, (hS25.le.trans hS35.le)⟩ ⟨rfl, rfl, rfl, rfl, rfl, trivial⟩
  · rintro _ w18 ⟨K16, rfl, hS19, hl17⟩
    refine qe_seq ?_
    refine wc_cond rfl (fun hb38 => ?_) (fun hb38 => ?_)
    · have h39 := cond_t hb38 h15
      refine wc_seq ?_
      refine wc_region ?_
      refine wl_val wn rfl (rv_move rfl) ?_
      refine wl_val wn rfl (rv_assign rfl) ?_
      refine wl_nil ?_
      refine qe_seq ?_
      refine wc_ret ?_
      refine qe_then_ret ?_
      obtain rfl := Option.some.inj h39
      exact qe_ret (vs := [_]) Try.results15 ⟨rfl, trivial⟩ ⟨a7, 0, 0, K16, rfl, hS19, (SliceAt.mono hl17 hs11)⟩
    · have h39 := cond_f hb38 h15
      refine wc_skip ?_
      refine qe_seq ?_
      refine wc_seq ?_
      refine wc_seq ?_
      refine wc_region ?_
      refine wl_val wn rfl (rv_move rfl) ?_
      refine wl_val wn rfl (rv_len (t := tGDoc) Try.underlying34 rfl (SliceAt.mono (hl10.trans hl17) hs4)) ?_
      refine wl_val wn rfl (rv_move (v := .int .i64 0) rfl) ?_
      refine wl_nil ?_
      refine qe_seq ?_
      obtain ⟨o40, h41, h42⟩ := Option.bind_eq_some_iff.1 h39
      refine wc_cutg (fun E' w' => ∃ (a47 : Option Addr) (n48 c49 : Nat) (K43 : KMap), E' = [(7, .slice a47 n48 c49)] ∧ SH w K [] w' K43 [tail (.slice a47 n48 c49) 43 3] ∧ KLe K16 K43 ∧ SliceAt tGDoc K43 a47 n48 c49 o40) ?_ ?_
      · refine wc_block ?_
        obtain ⟨r52, h53, h54⟩ := Option.bind_eq_some_iff.1 h41
        refine wc_forE' (fun (i55 : Nat) (s51 : (List GDoc)) E' w' => ∃ (a60 : Option Addr) (n61 c62 : Nat) (K56 : KMap), E' = [(1, .int .i64 p1_many), (2, .int .i64 p2_which), (7, .slice a60 n61 c62), (21, .slice a1 n2 c3), (22, .int .i64 (p0_docs.length : Int)), (23, .int .i64 ((i55 : Nat) : Int))] ∧ SH w K [] w' K56 [tail (.slice a60 n61 c62) 43 3] ∧ KLe K16 K56 ∧ SliceAt tGDoc K56 a60 n61 c62 s51) h53 ⟨a7, 0, 0, K16, rfl, hS19, (KLe.refl _), (SliceAt.mono hl17 hs11)⟩ ⟨rfl, rfl, rfl, rfl, rfl, rfl, trivial⟩ ?_ ?_
        · rintro i55 s51 _ w58 r64 hi65 h66 ⟨a60, n61, c62, K56, rfl, hS59, hl57, hs63⟩
          refine wc_seq (wc_region ?_)
          refine wl_val wn rfl (rv_lss rfl rfl) ?_
          refine wl_nil (qe_seq (wc_seq ?_))
          refine wc_cond_t rfl (decide_eq_true (by omega)) (wc_skip (qe_seq (wc_seq ?_)))
          refine wc_block ?_
          refine wc_seq ?_
          refine wc_region ?_
          obtain ⟨x68, hx69, h70⟩ := Option.bind_eq_some_iff.1 h66
          refine wl_indexAddr (t := tGDoc) wn rfl Try.underlying34 tf43 rfl rfl (SliceAt.mono ((hl10.trans hl17).trans hl57) hs4) hx69 ?_
          intro b71 o72 u73 hu74 ha75
          obtain ⟨a77, n78, c79, a81, n82, c83, rfl, hr76, hs80, hs84⟩ := hu74
          have ha85 : AtK _ b71 o72 [.int .i64 x68.Id, .slice a77 n78 c79, .slice a81 n82 c83] := ha75
          refine wl_val wn rfl (rv_loadS (cs := [.int .i64 x68.Id, .slice a77 n78 c79, .slice a81 n82 c83]) tf43 rfl hS59 ha85 rfl) ?_
          refine wl_alloc wn rfl tf43 hS59 ?_
          intro g86 w87 hS88
          have hS89 : SH _ _ _ _ _ [obj g86 [.int .i64 0, .slice none 0 0, .slice none 0 0] 43, _] := hS88
          refine wl_store (cs' := [.int .i64 x68.Id, .slice a77 n78 c79, .slice a81 n82 c83]) (v := .agg #[.int .i64 x68.Id, .slice a77 n78 c79, .slice a81 n82 c83]) wn tf43 rfl rfl rfl (by simp [Value.cells, Value.oneCell']) hS89 rfl rfl ?_
          intro w90 hS91
          refine wl_nil ?_
          refine qe_seq ?_
          refine wc_seq ?_
          refine wc_region ?_
          refine wl_val wn rfl (rv_fieldAddr ff43_0 rfl) ?_
          refine wl_val wn rfl (rv_loadm1 tf3 rfl (.head _) hS91 rfl) ?_
          refine wl_val wn rfl (rv_move rfl) ?_
          obtain ⟨x92, hx93, h94⟩ := Option.bind_eq_some_iff.1 h70
          refine wl_val wn rfl (rv_rem rfl rfl hx93) ?_
          refine wl_val wn rfl (rv_move rfl) ?_
          refine wl_val wn rfl (rv_eql rfl rfl) ?_
          refine wl_nil ?_
          refine qe_seq ?_
          refine wc_cond rfl (fun hb95 => ?_) (fun hb95 => ?_)
          · have h96 := cond_t hb95 h94
            refine wc_region ?_
            refine wl_val wn rfl (rv_move rfl) ?_
            refine wl_val wn rfl (rv_loadmS (ds := [.int .i64 x68.Id, .slice a77 n78 c79, .slice a81 n82 c83]) tf43 rfl (.head _) hS91 rfl rfl) ?_
            obtain ⟨r97, hx98, h99⟩ := Option.bind_eq_some_iff.1 h96
            refine wl_call wn rfl (rt_call (vs := [.agg #[.int .i64 x68.Id, .slice a77 n78 c79, .slice a81 n82 c83]]) co58 rfl) ((ok_impl_cloneDoc F) hS91.enter0 hr76 hs80 hs84 hx98) ?_
            rintro e112 w101 ⟨a104, n105, c106, a108, n109, c110, K100, rfl, hS102, hr103, hs107, hs111⟩
            refine ⟨_, rfl, ?_⟩
            have hS113 : SH _ _ _ _ _ [_, _, _, _] := SH.call0 hS91 hS102
            refine wl_buildSlice (t := tGDoc) (n := 1) (pv := [(0, .agg #[.int .i64 r97.Id, .slice a104 n105 c106, .slice a108 n109 c110])]) (cs := [.int .i64 r97.Id, .slice a104 n105 c106, .slice a108 n109 c110]) (xs := [r97]) wn rfl Try.underlying34 tf43 rfl rfl rfl (by kernel_rfl) rfl rfl (lit_cons (u := .agg #[.int .i64 r97.Id, .slice a104 n105 c106, .slice a108 n109 c110]) (z := r97) ⟨a104, n105, c106, a108, n109, c110, rfl, hr103, hs107, hs111⟩ lit_nil) hS113 ?_
            intro a114 w115 K116 hl117 hs118 hS119
            have hS120 : SH _ _ _ _ _ [_, _, _, _, _] := SH.front (p := [_, _, _, _]) hS119
            obtain ⟨x121, hx122, h123⟩ := Option.bind_eq_some_iff.1 h99
            refine wl_append (t := tGDoc) wn rfl Try.underlying34 tf43 rfl rfl rfl rfl rfl (SliceAt.mono (hS102.le.trans hl117) hs63) hs118 hx122 hS120 ?_
            intro a124 n125 c126 w127 K128 hl129 hs130 hS131
            refine wl_val wn rfl (rv_assign rfl) ?_
            refine wl_nil ?_
            refine qe_block ?_
            refine qe_seq (wc_region ?_)
            refine wl_val wn rfl (rv_add_to rfl rfl (w64_succ hi65 (SliceAt.max (SliceAt.mono (hl10.trans hl17) hs4)))) ?_
            refine wl_val wn rfl (rv_move rfl) ?_
            refine wl_nil ?_
            obtain rfl := Option.some.inj h123
            have hS132 : SH _ _ _ _ _ [_] := SH.sublist hS131 (.cons_cons _ (.cons _ (.cons _ (.cons _ (.cons _ .slnil)))))
            exact qe_mid' ⟨a124, n125, c126, K128, rfl, hS132, (((hl57.trans hS102.le).trans hl117).trans hl129), hs130⟩ ⟨rfl, rfl, rfl, rfl, rfl, rfl, trivial⟩
          · have h96 := cond_f hb95 h94
            refine wc_skip ?_
            refine qe_block ?_
            refine qe_seq (wc_region ?_)
            refine wl_val wn rfl (rv_add_to rfl rfl (w64_succ hi65 (SliceAt.max (SliceAt.mono (hl10.trans hl17) hs4)))) ?_
            refine wl_val wn rfl (rv_move rfl) ?_
            refine wl_nil ?_
            obtain rfl := Option.some.inj h96
            have hS133 : SH _ _ _ _ _ [_] := SH.sublist hS91 (.cons _ (.cons_cons _ .slnil))
            exact qe_mid' ⟨a60, n61, c62, K56, rfl, hS133, hl57, hs63⟩ ⟨rfl, rfl, rfl, rfl, rfl, rfl, trivial⟩
        · rintro s51 _ w58 hr134 ⟨a60, n61, c62, K56, rfl, hS59, hl57, hs63⟩
          subst hr134
          refine wc_seq (wc_region ?_)
          refine wl_val wn rfl (rv_lss rfl rfl) ?_
          refine wl_nil (qe_seq (wc_seq ?_))
          refine wc_cond_f rfl (decide_eq_false (by omega)) ?_
          refine wc_exit ?_
          refine qe_then_exit ?_
          refine qe_then_exit ?_
          refine qe_block_eq ?_
          obtain rfl := Option.some.inj h54
          exact qe_mid' ⟨a60, n61, c62, K56, rfl, hS59, hl57, hs63⟩ ⟨rfl, trivial⟩
      · rintro _ w45 ⟨a47, n48, c49, K43, rfl, hS46, hl44, hs50⟩
        refine qe_seq ?_
        refine wc_seq ?_
        refine wc_region ?_
        refine wl_val wn rfl (rv_move rfl) ?_
        refine wl_val wn rfl (rv_assign rfl) ?_
        refine wl_nil ?_
        refine qe_seq ?_
        refine wc_ret ?_
        obtain rfl := Option.some.inj h42
        exact qe_ret (vs := [_]) Try.results15 ⟨rfl, trivial⟩ ⟨a47, n48, c49, K43, rfl, hS46, hs50⟩

theorem ok_laws_foDoc (F : Nat) {w : World} {K : KMap} {a2 : Option Addr} {n3 c4 : Nat} {a6 : Option Addr} {n7 c8 : Nat} {a11 : Option Addr} {n12 c13 : Nat} {a15 : Option Addr} {n16 c17 : Nat} {p0_a : GDoc} {p1_b : GDoc} {r : Bool} (hS : SH w K [] w K []) (hr1 : rng64 p0_a.Id) (hs5 : SliceAt tGField K a2 n3 c4 p0_a.Fields) (hs9 : SliceAt tGAttr K a6 n7 c8 p0_a.Nums) (hr10 : rng64 p1_b.Id) (hs14 : SliceAt tGField K a11 n12 c13 p1_b.Fields) (hs18 : SliceAt tGAttr K a15 n16 c17 p1_b.Nums) (hm : M.laws_foDoc F p0_a p1_b = some r) :
    Calls Try.prog 19 #[.agg #[.int .i64 p0_a.Id, .slice a2 n3 c4, .slice a6 n7 c8], .agg #[.int .i64 p1_b.Id, .slice a11 n12 c13, .slice a15 n16 c17]] w fun e w' => ∃ (K' : KMap), e = .returned (.bool r) ∧ SH w K [] w' K' [] := by
  rw [M.laws_foDoc] at hm
  refine calls_in Try.func19 rfl Try.ntmps19 rfl ?_
  refine wc_seq ?_
  refine wc_region ?_
  refine wl_box wn rfl rfl hS ?_
  intro g19 w20 hS21
  have hS22 : SH _ _ _ _ _ [obj g19 [.int .i64 p0_a.Id, .slice a2 n3 c4, .slice a6 n7 c8] 43] := hS21
  refine wl_box wn rfl rfl hS22 ?_
  intro g23 w24 hS25
  have hS26 : SH _ _ _ _ _ [obj g23 [.int .i64 p1_b.Id, .slice a11 n12 c13, .slice a15 n16 c17] 43, _] := hS25
  refine wl_val wn rfl (rv_assign (v := .bool false) rfl) ?_
  refine wl_nil ?_
  refine qe_seq ?_
  refine wc_seq ?_
  refine wc_seq ?_
  obtain ⟨o27, h28, h29⟩ := Option.bind_eq_some_iff.1 hm
  refine wc_cutg (fun E' w' => ∃ (K30 : KMap), E' = [(2, .pointer (some ⟨g19, 0, none⟩)), (3, .pointer (some ⟨g23, 0, none⟩)), (29, .bool o27)] ∧ SH w K [] w' K30 [obj g19 [.int .i64 p0_a.Id, .slice a2 n3 c4, .slice a6 n7 c8] 43, obj g23 [.int .i64 p1_b.Id, .slice a11 n12 c13, .slice a15 n16 c17] 43] ∧ KLe K K30) ?_ ?_
  · refine wc_region ?_
    refine wl_val wn rfl (rv_fieldAddr ff43_0 rfl) ?_
    refine wl_val wn rfl (rv_loadm1 tf3 rfl (.tail _ (.head _)) hS26 rfl) ?_
    refine wl_val wn rfl (rv_fieldAddr ff43_0 rfl) ?_
    refine wl_val wn rfl (rv_loadm1 tf3 rfl (.head _) hS26 rfl) ?_
    refine wl_val wn rfl (rv_neq rfl rfl) ?_
    refine wl_val wn rfl (rv_move rfl) ?_
    rcases bool_tf ((!(p0_a.Id == p1_b.Id))) with hb34 | hb34
    · have h35 := cond_t hb34 h28
      refine wl_un (ug rfl rfl hb34) rfl ?_
      refine wl_un (ug rfl rfl hb34) rfl ?_
      refine wl_un (ug rfl rfl hb34) rfl ?_
      refine wl_un (ug rfl rfl hb34) rfl ?_
      refine wl_un (ug rfl rfl hb34) rfl ?_
      refine wl_un (ug rfl rfl hb34) rfl ?_
      refine wl_un (ug rfl rfl hb34) rfl ?_
      refine wl_val wn rfl (rv_pick_t (v := .bool true) rfl hb34 rfl) ?_
      refine wl_val wn rfl (rv_move rfl) ?_
      refine wl_un (ug rfl rfl rfl) rfl ?_
      refine wl_un (ug rfl rfl rfl) rfl ?_
      refine wl_un (ug rfl rfl rfl) rfl ?_
      refine wl_un (ug rfl rfl rfl) rfl ?_
      refine wl_un (ug rfl rfl rfl) rfl ?_
      refine wl_un (ug rfl rfl rfl) rfl ?_
      refine wl_un (ug rfl rfl rfl) rfl ?_
      refine wl_val wn rfl (rv_pick_t (v := .bool true) rfl rfl rfl) ?_
      refine wl_nil ?_
      obtain rfl := Option.some.inj h35
      have hS36 : SH _ _ _ _ _ [_, _] := SH.front (p := [_]) hS26
      exact qe_mid' ⟨K, rfl, hS36, (KLe.refl _)⟩ ⟨rfl, rfl, rfl, trivial⟩
    · have h35 := cond_f hb34 h28
      refine wl_val (wg rfl rfl hb34) rfl (rv_fieldAddr ff43_1 rfl) ?_
      refine wl_val (wg rfl rfl hb34) rfl (rv_loadm1 tf40 rfl (.tail _ (.head _)) hS26 rfl) ?_
      refine wl_val (wg rfl rfl hb34) rfl (rv_len (t := tGField) Try.underlying40 rfl hs5) ?_
      refine wl_val (wg rfl rfl hb34) rfl (rv_fieldAddr ff43_1 rfl) ?_
      refine wl_val (wg rfl rfl hb34) rfl (rv_loadm1 tf40 rfl (.head _) hS26 rfl) ?_
      refine wl_val (wg rfl rfl hb34) rfl (rv_len (t := tGField) Try.underlying40 rfl hs14) ?_
      refine wl_val (wg rfl rfl hb34) rfl (rv_neq rfl rfl) ?_
      refine wl_val wn rfl (rv_pick_f rfl hb34 rfl) ?_
      refine wl_val wn rfl (rv_move rfl) ?_
      rcases bool_tf ((!((p0_a.Fields.length : Int) == (p1_b.Fields.length : Int)))) with hb37 | hb37
      · have h38 := cond_t hb37 h35
        refine wl_un (ug rfl rfl hb37) rfl ?_
        refine wl_un (ug rfl rfl hb37) rfl ?_
        refine wl_un (ug rfl rfl hb37) rfl ?_
        refine wl_un (ug rfl rfl hb37) rfl ?_
        refine wl_un (ug rfl rfl hb37) rfl ?_
        refine wl_un (ug rfl rfl hb37) rfl ?_
        refine wl_un (ug rfl rfl hb37) rfl ?_
        refine wl_val wn rfl (rv_pick_t (v := .bool true) rfl hb37 rfl) ?_
        refine wl_nil ?_
        obtain rfl := Option.some.inj h38
        have hS39 : SH _ _ _ _ _ [_, _] := SH.front (p := [_]) hS26
        exact qe_mid' ⟨K, rfl, hS39, (KLe.refl _)⟩ ⟨rfl, rfl, rfl, trivial⟩
      · have h38 := cond_f hb37 h35
        refine wl_val (wg rfl rfl hb37) rfl (rv_fieldAddr ff43_2 rfl) ?_
        refine wl_val (wg rfl rfl hb37) rfl (rv_loadm1 tf41 rfl (.tail _ (.head _)) hS26 rfl) ?_
        refine wl_val (wg rfl rfl hb37) rfl (rv_len (t := tGAttr) Try.underlying41 rfl hs9) ?_
        refine wl_val (wg rfl rfl hb37) rfl (rv_fieldAddr ff43_2 rfl) ?_
        refine wl_val (wg rfl rfl hb37) rfl (rv_loadm1 tf41 rfl (.head _) hS26 rfl) ?_
        refine wl_val (wg rfl rfl hb37) rfl (rv_len (t := tGAttr) Try.underlying41 rfl hs18) ?_
        refine wl_val (wg rfl rfl hb37) rfl (rv_neq rfl rfl) ?_
        refine wl_val wn rfl (rv_pick_f rfl hb37 rfl) ?_
        refine wl_nil ?_
        obtain rfl := Option.some.inj h38
        have hS40 : SH _ _ _ _ _ [_, _] := SH.front (p := [_]) hS26
        exact qe_mid' ⟨K, rfl, hS40, (KLe.refl _)⟩ ⟨rfl, rfl, rfl, trivial⟩
  · rintro _ w32 ⟨K30, rfl, hS33, hl31⟩
    refine qe_seq ?_
    refine wc_cond rfl (fun hb41 => ?_) (fun hb41 => ?_)
    · have h42 := cond_t hb41 h29
      refine wc_seq ?_
      refine wc_region ?_
      refine wl_val wn rfl (rv_assign (v := .bool false) rfl) ?_
      refine wl_nil ?_
      refine qe_seq ?_
      refine wc_ret ?_
      refine qe_then_ret ?_
      obtain rfl := Option.some.inj h42
      have hS43 : SH _ _ _ _ _ [] := SH.sublist hS33 (.cons _ (.cons _ .slnil))
      exact qe_ret (vs := [_]) Try.results19 ⟨rfl, trivial⟩ ⟨K30, rfl, hS43⟩
    · have h42 := cond_f hb41 h29
      refine wc_skip ?_
      refine qe_seq ?_
      refine wc_seq ?_
      refine wc_seq ?_
      refine wc_region ?_
      refine wl_val wn rfl (rv_assign (v := .int .i64 0) rfl) ?_
      refine wl_nil ?_
      refine qe_seq ?_
      obtain ⟨o44, h45, h46⟩ := Option.bind_eq_some_iff.1 h42
      refine wc_cutg (fun E' w' => ∃ (s47 : Unit) (K48 : KMap), o44 = .inl s47 ∧ E' = [(2, .pointer (some ⟨g19, 0, none⟩)), (3, .pointer (some ⟨g23, 0, none⟩))] ∧ SH w K [] w' K48 [obj g19 [.int .i64 p0_a.Id, .slice a2 n3 c4, .slice a6 n7 c8] 43, obj g23 [.int .i64 p1_b.Id, .slice a11 n12 c13, .slice a15 n16 c17] 43] ∧ KLe K30 K48) ?_ ?_
      · refine wc_block ?_
        obtain ⟨r53, h54, h55⟩ := Option.bind_eq_some_iff.1 h45
        refine wc_while' (fun (s52 : Int) E' w' => ∃ (K56 : KMap), E' = [(2, .pointer (some ⟨g19, 0, none⟩)), (3, .pointer (some ⟨g23, 0, none⟩)), (5, .int .i64 s52)] ∧ SH w K [] w' K56 [obj g19 [.int .i64 p0_a.Id, .slice a2 n3 c4, .slice a6 n7 c8] 43, obj g23 [.int .i64 p1_b.Id, .slice a11 n12 c13, .slice a15 n16 c17] 43] ∧ KLe K30 K56 ∧ rng64 s52) h54 ⟨K30, rfl, hS33, (KLe.refl _), (by decide : rng64 0)⟩ ⟨rfl, rfl, rfl, trivial⟩ ?_
        rintro s52 _ w58 r61 h62 hx63 ⟨K56, rfl, hS59, hl57, hr60⟩
        refine wc_seq ?_
        refine wc_seq ?_
        refine wc_region ?_
        refine wl_val wn rfl (rv_move rfl) ?_
        refine wl_val wn rfl (rv_fieldAddr ff43_1 rfl) ?_
        refine wl_val wn rfl (rv_loadm1 tf40 rfl (.head _) hS59 rfl) ?_
        refine wl_val wn rfl (rv_len (t := tGField) Try.underlying40 rfl (SliceAt.mono (hl31.trans hl57) hs5)) ?_
        refine wl_val wn rfl (rv_lss rfl rfl) ?_
        refine wl_nil ?_
        refine qe_seq ?_
        refine wc_cond rfl (fun hb64 => ?_) (fun hb64 => ?_)
        · have h65 := cond_t hb64 h62
          refine wc_skip ?_
          refine qe_seq ?_
          refine wc_seq ?_
          refine wc_block ?_
          refine wc_seq ?_
          refine wc_quiet mixed (by kernel_rfl) hS59 ?_
          refine wq_val wn rfl (fun _ _ => (rv_fieldAddr ff43_1 rfl)) ?_
          refine wq_val wn rfl (rq_loadm1 tf40 rfl (.head _) rfl) ?_
          refine wq_val wn rfl (fun _ _ => (rv_move rfl)) ?_
          obtain ⟨x66, hx67, h68⟩ := Option.bind_eq_some_iff.1 h65
          refine wq_indexAddr (t := tGField) wn rfl Try.underlying40 tf96 rfl rfl (SliceAt.mono (hl31.trans hl57) hs5) hx67 ?_
          intro b69 o70 u71 hu72 ha73
          obtain ⟨rfl, hl74, hl75⟩ := hu72
          have ha76 : AtK _ b69 o70 [sv x66.Name, sv x66.Text] := ha73
          refine wq_val wn rfl (rq_loadS (cs := [sv x66.Name, sv x66.Text]) tf96 rfl ha76 rfl) ?_
          refine wq_val wn rfl (fun _ _ => (rv_fieldAddr ff43_1 rfl)) ?_
          refine wq_val wn rfl (rq_loadm1 tf40 rfl (.tail _ (.head _)) rfl) ?_
          refine wq_val wn rfl (fun _ _ => (rv_move rfl)) ?_
          obtain ⟨x77, hx78, h79⟩ := Option.bind_eq_some_iff.1 h68
          refine wq_indexAddr (t := tGField) wn rfl Try.underlying40 tf96 rfl rfl (SliceAt.mono (hl31.trans hl57) hs14) hx78 ?_
          intro b80 o81 u82 hu83 ha84
          obtain ⟨rfl, hl85, hl86⟩ := hu83
          have ha87 : AtK _ b80 o81 [sv x77.Name, sv x77.Text] := ha84
          refine wq_val wn rfl (rq_loadS (cs := [sv x77.Name, sv x77.Text]) tf96 rfl ha87 rfl) ?_
          refine wq_val wn rfl (fun _ _ => (rv_neS eqg96 rfl rfl (eqs96 x66.Name x66.Text x77.Name x77.Text))) ?_
          refine wq_nil ?_
          rintro w89 ⟨K88, hS90, hl91⟩
          refine qe_seq ?_
          refine wc_cond rfl (fun hb92 => ?_) (fun hb92 => ?_)
          · have h93 := cond_t hb92 h79
            refine wc_seq ?_
            refine wc_region ?_
            refine wl_val wn rfl (rv_assign (v := .bool false) rfl) ?_
            refine wl_nil ?_
            refine qe_seq ?_
            refine wc_ret ?_
            refine qe_block_ret ?_
            refine qe_then_ret ?_
            refine qe_then_ret ?_
            obtain rfl := Option.some.inj h93
            have e94 := hx63 _ rfl
            subst e94
            refine qe_block_ret ?_
            refine qe_then_ret ?_
            obtain rfl := Option.some.inj h55
            refine qe_then_ret ?_
            obtain rfl := Option.some.inj h46
            have hS95 : SH _ _ _ _ _ [] := SH.sublist hS90 (.cons _ (.cons _ .slnil))
            exact qe_ret (vs := [_]) Try.results19 ⟨rfl, trivial⟩ ⟨K88, rfl, hS95⟩
          · have h93 := cond_f hb92 h79
            refine wc_skip ?_
            refine qe_block ?_
            refine qe_seq ?_
            refine wc_region ?_
            refine wl_val wn rfl (rv_move rfl) ?_
            refine wl_val wn rfl (rv_add rfl rfl) ?_
            refine wl_val wn rfl (rv_assign rfl) ?_
            refine wl_nil ?_
            obtain rfl := Option.some.inj h93
            exact qe_mid' ⟨_, rfl, K88, rfl, hS90, (hl57.trans hl91), (w64_rng _)⟩ ⟨rfl, rfl, rfl, trivial⟩
        · have h65 := cond_f hb64 h62
          refine wc_exit ?_
          refine qe_then_exit ?_
          refine qe_then_exit ?_
          obtain rfl := Option.some.inj h65
          have e96 := hx63 _ rfl
          subst e96
          refine qe_block_eq ?_
          obtain rfl := Option.some.inj h55
          exact qe_mid' ⟨_, K56, rfl, rfl, hS59, hl57⟩ ⟨rfl, rfl, trivial⟩
      · rintro _ w50 ⟨s47, K48, rfl, rfl, hS51, hl49⟩
        refine qe_seq ?_
        refine wc_seq ?_
        refine wc_seq ?_
        refine wc_region ?_
        refine wl_val wn rfl (rv_assign (v := .int .i64 0) rfl) ?_
        refine wl_nil ?_
        refine qe_seq ?_
        obtain ⟨o99, h100, h101⟩ := Option.bind_eq_some_iff.1 h46
        refine wc_cutg (fun E' w' => ∃ (s102 : Unit) (K103 : KMap), o99 = .inl s102 ∧ E' = [] ∧ SH w K [] w' K103 [] ∧ KLe K48 K103) ?_ ?_
        · refine wc_block ?_
          obtain ⟨r108, h109, h110⟩ := Option.bind_eq_some_iff.1 h100
          refine wc_while' (fun (s107 : Int) E' w' => ∃ (K111 : KMap), E' = [(2, .pointer (some ⟨g19, 0, none⟩)), (3, .pointer (some ⟨g23, 0, none⟩)), (6, .int .i64 s107)] ∧ SH w K [] w' K111 [obj g19 [.int .i64 p0_a.Id, .slice a2 n3 c4, .slice a6 n7 c8] 43, obj g23 [.int .i64 p1_b.Id, .slice a11 n12 c13, .slice a15 n16 c17] 43] ∧ KLe K48 K111 ∧ rng64 s107) h109 ⟨K48, rfl, hS51, (KLe.refl _), (by decide : rng64 0)⟩ ⟨rfl, rfl, rfl, trivial⟩ ?_
          rintro s107 _ w113 r116 h117 hx118 ⟨K111, rfl, hS114, hl112, hr115⟩
          refine wc_seq ?_
          refine wc_seq ?_
          refine wc_region ?_
          refine wl_val wn rfl (rv_move rfl) ?_
          refine wl_val wn rfl (rv_fieldAddr ff43_2 rfl) ?_
          refine wl_val wn rfl (rv_loadm1 tf41 rfl (.head _) hS114 rfl) ?_
          refine wl_val wn rfl (rv_len (t := tGAttr) Try.underlying41 rfl (SliceAt.mono ((hl31.trans hl49).trans hl112) hs9)) ?_
          refine wl_val wn rfl (rv_lss rfl rfl) ?_
          refine wl_nil ?_
          refine qe_seq ?_
          refine wc_cond rfl (fun hb119 => ?_) (fun hb119 => ?_)
          · have h120 := cond_t hb119 h117
            refine wc_skip ?_
            refine qe_seq ?_
            refine wc_seq ?_
            refine wc_block ?_
            refine wc_seq ?_
            refine wc_quiet mixed (by kernel_rfl) hS114 ?_
            refine wq_val wn rfl (fun _ _ => (rv_fieldAddr ff43_2 rfl)) ?_
            refine wq_val wn rfl (rq_loadm1 tf41 rfl (.head _) rfl) ?_
            refine wq_val wn rfl (fun _ _ => (rv_move rfl)) ?_
            obtain ⟨x121, hx122, h123⟩ := Option.bind_eq_some_iff.1 h120
            refine wq_indexAddr (t := tGAttr) wn rfl Try.underlying41 tf98 rfl rfl (SliceAt.mono ((hl31.trans hl49).trans hl112) hs9) hx122 ?_
            intro b124 o125 u126 hu127 ha128
            obtain ⟨rfl, hl129, hr130⟩ := hu127
            have ha131 : AtK _ b124 o125 [sv x121.Name, .int .i64 x121.Num] := ha128
            refine wq_val wn rfl (rq_loadS (cs := [sv x121.Name, .int .i64 x121.Num]) tf98 rfl ha131 rfl) ?_
            refine wq_val wn rfl (fun _ _ => (rv_fieldAddr ff43_2 rfl)) ?_
            refine wq_val wn rfl (rq_loadm1 tf41 rfl (.tail _ (.head _)) rfl) ?_
            refine wq_val wn rfl (fun _ _ => (rv_move rfl)) ?_
            obtain ⟨x132, hx133, h134⟩ := Option.bind_eq_some_iff.1 h123
            refine wq_indexAddr (t := tGAttr) wn rfl Try.underlying41 tf98 rfl rfl (SliceAt.mono ((hl31.trans hl49).trans hl112) hs18) hx133 ?_
            intro b135 o136 u137 hu138 ha139
            obtain ⟨rfl, hl140, hr141⟩ := hu138
            have ha142 : AtK _ b135 o136 [sv x132.Name, .int .i64 x132.Num] := ha139
            refine wq_val wn rfl (rq_loadS (cs := [sv x132.Name, .int .i64 x132.Num]) tf98 rfl ha142 rfl) ?_
            refine wq_val wn rfl (fun _ _ => (rv_neS eqg98 rfl rfl (eqs98 x121.Name x121.Num x132.Name x132.Num))) ?_
            refine wq_nil ?_
            rintro w144 ⟨K143, hS145, hl146⟩
            refine qe_seq ?_
            refine wc_cond rfl (fun hb147 => ?_) (fun hb147 => ?_)
            · have h148 := cond_t hb147 h134
              refine wc_seq ?_
              refine wc_region ?_
              refine wl_val wn rfl (rv_assign (v := .bool false) rfl) ?_
              refine wl_nil ?_
              refine qe_seq ?_
              refine wc_ret ?_
              refine qe_block_ret ?_
              refine qe_then_ret ?_
              refine qe_then_ret ?_
              obtain rfl := Option.some.inj h148
              have e149 := hx118 _ rfl
              subst e149
              refine qe_block_ret ?_
              refine qe_then_ret ?_
              obtain rfl := Option.some.inj h110
              refine qe_then_ret ?_
              obtain rfl := Option.some.inj h101
              have hS150 : SH _ _ _ _ _ [] := SH.sublist hS145 (.cons _ (.cons _ .slnil))
              exact qe_ret (vs := [_]) Try.results19 ⟨rfl, trivial⟩ ⟨K143, rfl, hS150⟩
            · have h148 := cond_f hb147 h134
              refine wc_skip ?_
              refine qe_block ?_
              refine qe_seq ?_
              refine wc_region ?_
              refine wl_val wn rfl (rv_move rfl) ?_
              refine wl_val wn rfl (rv_add rfl rfl) ?_
              refine wl_val wn rfl (rv_assign rfl) ?_
              refine wl_nil ?_
              obtain rfl := Option.some.inj h148
              exact qe_mid' ⟨_, rfl, K143, rfl, hS145, (hl112.trans hl146), (w64_rng _)⟩ ⟨rfl, rfl, rfl, trivial⟩
          · have h120 := cond_f hb119 h117
            refine wc_exit ?_
            refine qe_then_exit ?_
            refine qe_then_exit ?_
            obtain rfl := Option.some.inj h120
            have e151 := hx118 _ rfl
            subst e151
            refine qe_block_eq ?_
            obtain rfl := Option.some.inj h110
            have hS152 : SH _ _ _ _ _ [] := SH.sublist hS114 (.cons _ (.cons _ .slnil))
            exact qe_mid' ⟨_, K111, rfl, rfl, hS152, hl112⟩ trivial
        · rintro _ w105 ⟨s102, K103, rfl, rfl, hS106, hl104⟩
          refine qe_seq ?_
          refine wc_seq ?_
          refine wc_region ?_
          refine wl_val wn rfl (rv_assign (v := .bool true) rfl) ?_
          refine wl_nil ?_
          refine qe_seq ?_
          refine wc_ret ?_
          obtain rfl := Option.some.inj h101
          exact qe_ret (vs := [_]) Try.results19 ⟨rfl, trivial⟩ ⟨K103, rfl, hS106⟩

theorem ok_laws_foDocs (F : Nat) {w : World} {K : KMap} {a1 : Option Addr} {n2 c3 : Nat} {a5 : Option Addr} {n6 c7 : Nat} {p0_a : List GDoc} {p1_b : List GDoc} {r : Bool} (hS : SH w K [] w K []) (hs4 : SliceAt tGDoc K a1 n2 c3 p0_a) (hs8 : SliceAt tGDoc K a5 n6 c7 p1_b) (hm : M.laws_foDocs F p0_a p1_b = some r) :
    Calls Try.prog 16 #[.slice a1 n2 c3, .slice a5 n6 c7] w fun e w' => ∃ (K' : KMap), e = .returned (.bool r) ∧ SH w K [] w' K' [] := by
  rw [M.laws_foDocs] at hm
  refine calls_in Try.func16 rfl Try.ntmps16 rfl ?_
  refine wc_seq ?_
  refine wc_region ?_
  refine wl_val wn rfl (rv_assign (v := .bool false) rfl) ?_
  refine wl_nil ?_
  refine qe_seq ?_
  refine wc_seq ?_
  refine wc_seq ?_
  refine wc_region ?_
  refine wl_val wn rfl (rv_move rfl) ?_
  refine wl_val wn rfl (rv_len (t := tGDoc) Try.underlying34 rfl hs4) ?_
  refine wl_val wn rfl (rv_move rfl) ?_
  refine wl_val wn rfl (rv_len (t := tGDoc) Try.underlying34 rfl hs8) ?_
  refine wl_val wn rfl (rv_neq rfl rfl) ?_
  refine wl_nil ?_
  refine qe_seq ?_
  refine wc_cond rfl (fun hb9 => ?_) (fun hb9 => ?_)
  · have h10 := cond_t hb9 hm
    refine wc_seq ?_
    refine wc_region ?_
    refine wl_val wn rfl (rv_assign (v := .bool false) rfl) ?_
    refine wl_nil ?_
    refine qe_seq ?_
    refine wc_ret ?_
    refine qe_then_ret ?_
    obtain rfl := Option.some.inj h10
    exact qe_ret (vs := [_]) Try.results16 ⟨rfl, trivial⟩ ⟨K, rfl, hS⟩
  · have h10 := cond_f hb9 hm
    refine wc_skip ?_
    refine qe_seq ?_
    refine wc_seq ?_
    refine wc_seq ?_
    refine wc_region ?_
    refine wl_val wn rfl (rv_assign (v := .int .i64 0) rfl) ?_
    refine wl_nil ?_
    refine qe_seq ?_
    obtain ⟨o11, h12, h13⟩ := Option.bind_eq_some_iff.1 h10
    refine wc_cutg (fun E' w' => ∃ (s14 : Unit) (K15 : KMap), o11 = .inl s14 ∧ E' = [] ∧ SH w K [] w' K15 [] ∧ KLe K K15) ?_ ?_
    · refine wc_block ?_
      obtain ⟨r20, h21, h22⟩ := Option.bind_eq_some_iff.1 h12
      refine wc_while' (fun (s19 : Int) E' w' => ∃ (K23 : KMap), E' = [(0, .slice a1 n2 c3), (1, .slice a5 n6 c7), (5, .int .i64 s19)] ∧ SH w K [] w' K23 [] ∧ KLe K K23 ∧ rng64 s19) h21 ⟨K, rfl, hS, (KLe.refl _), (by decide : rng64 0)⟩ ⟨rfl, rfl, rfl, trivial⟩ ?_
      rintro s19 _ w25 r28 h29 hx30 ⟨K23, rfl, hS26, hl24, hr27⟩
      refine wc_seq ?_
      refine wc_seq ?_
      refine wc_region ?_
      refine wl_val wn rfl (rv_move rfl) ?_
      refine wl_val wn rfl (rv_move rfl) ?_
      refine wl_val wn rfl (rv_len (t := tGDoc) Try.underlying34 rfl (SliceAt.mono hl24 hs4)) ?_
      refine wl_val wn rfl (rv_lss rfl rfl) ?_
      refine wl_nil ?_
      refine qe_seq ?_
      refine wc_cond rfl (fun hb31 => ?_) (fun hb31 => ?_)
      · have h32 := cond_t hb31 h29
        refine wc_skip ?_
        refine qe_seq ?_
        refine wc_seq ?_
        refine wc_block ?_
        refine wc_seq ?_
        refine wc_quiet mixed (by kernel_rfl) hS26 ?_
        refine wq_val wn rfl (fun _ _ => (rv_move rfl)) ?_
        refine wq_val wn rfl (fun _ _ => (rv_move rfl)) ?_
        obtain ⟨x33, hx34, h35⟩ := Option.bind_eq_some_iff.1 h32
        refine wq_indexAddr (t := tGDoc) wn rfl Try.underlying34 tf43 rfl rfl (SliceAt.mono hl24 hs4) hx34 ?_
        intro b36 o37 u38 hu39 ha40
        obtain ⟨a42, n43, c44, a46, n47, c48, rfl, hr41, hs45, hs49⟩ := hu39
        have ha50 : AtK _ b36 o37 [.int .i64 x33.Id, .slice a42 n43 c44, .slice a46 n47 c48] := ha40
        refine wq_val wn rfl (rq_loadS (cs := [.int .i64 x33.Id, .slice a42 n43 c44, .slice a46 n47 c48]) tf43 rfl ha50 rfl) ?_
        refine wq_val wn rfl (fun _ _ => (rv_move rfl)) ?_
        refine wq_val wn rfl (fun _ _ => (rv_move rfl)) ?_
        obtain ⟨x51, hx52, h53⟩ := Option.bind_eq_some_iff.1 h35
        refine wq_indexAddr (t := tGDoc) wn rfl Try.underlying34 tf43 rfl rfl (SliceAt.mono hl24 hs8) hx52 ?_
        intro b54 o55 u56 hu57 ha58
        obtain ⟨a60, n61, c62, a64, n65, c66, rfl, hr59, hs63, hs67⟩ := hu57
        have ha68 : AtK _ b54 o55 [.int .i64 x51.Id, .slice a60 n61 c62, .slice a64 n65 c66] := ha58
        refine wq_val wn rfl (rq_loadS (cs := [.int .i64 x51.Id, .slice a60 n61 c62, .slice a64 n65 c66]) tf43 rfl ha68 rfl) ?_
        obtain ⟨r69, hx70, h71⟩ := Option.bind_eq_some_iff.1 h53
        refine wq_call (v := .bool r69) wn rfl (fun _ => rt_call (vs := [.agg #[.int .i64 x33.Id, .slice a42 n43 c44, .slice a46 n47 c48], .agg #[.int .i64 x51.Id, .slice a60 n61 c62, .slice a64 n65 c66]]) co19 rfl) (fun w74 ⟨K72, hS73, hl75⟩ => ((ok_laws_foDoc F) hS73.enter0 hr41 (SliceAt.mono hl75 hs45) (SliceAt.mono hl75 hs49) hr59 (SliceAt.mono hl75 hs63) (SliceAt.mono hl75 hs67) hx70).mono fun e w' ⟨K', he, hS'⟩ => ⟨he, K', hS73.call0 hS', hl75.trans hS'.le⟩) ?_
        refine wq_val wn rfl (fun _ _ => (rv_not rfl)) ?_
        refine wq_nil ?_
        rintro w77 ⟨K76, hS78, hl79⟩
        refine qe_seq ?_
        refine wc_cond rfl (fun hb80 => ?_) (fun hb80 => ?_)
        · have h81 := cond_t hb80 h71
          refine wc_seq ?_
          refine wc_region ?_
          refine wl_val wn rfl (rv_assign (v := .bool false) rfl) ?_
          refine wl_nil ?_
          refine qe_seq ?_
          refine wc_ret ?_
          refine qe_block_ret ?_
          refine qe_then_ret ?_
          refine qe_then_ret ?_
          obtain rfl := Option.some.inj h81
          have e82 := hx30 _ rfl
          subst e82
          refine qe_block_ret ?_
          refine qe_then_ret ?_
          obtain rfl := Option.some.inj h22
          refine qe_then_ret ?_
          obtain rfl := Option.some.inj h13
          exact qe_ret (vs := [_]) Try.results16 ⟨rfl, trivial⟩ ⟨K76, rfl, hS78⟩
        · have h81 := cond_f hb80 h71
          refine wc_skip ?_
          refine qe_block ?_
          refine qe_seq ?_
          refine wc_region ?_
          refine wl_val wn rfl (rv_move rfl) ?_
          refine wl_val wn rfl (rv_add rfl rfl) ?_
          refine wl_val wn rfl (rv_assign rfl) ?_
          refine wl_nil ?_
          obtain rfl := Option.some.inj h81
          exact qe_mid' ⟨_, rfl, K76, rfl, hS78, (hl24.trans hl79), (w64_rng _)⟩ ⟨rfl, rfl, rfl, trivial⟩
      · have h32 := cond_f hb31 h29
        refine wc_exit ?_
        refine qe_then_exit ?_
        refine qe_then_exit ?_
        obtain rfl := Option.some.inj h32
        have e83 := hx30 _ rfl
        subst e83
        refine qe_block_eq ?_
        obtain rfl := Option.some.inj h22
        exact qe_mid' ⟨_, K23, rfl, rfl, hS26, hl24⟩ trivial
    · rintro _ w17 ⟨s14, K15, rfl, rfl, hS18, hl16⟩
      refine qe_seq ?_
      refine wc_seq ?_
      refine wc_region ?_
      refine wl_val wn rfl (rv_assign (v := .bool true) rfl) ?_
      refine wl_nil ?_
      refine qe_seq ?_
      refine wc_ret ?_
      obtain rfl := Option.some.inj h13
      exact qe_ret (vs := [_]) Try.results16 ⟨rfl, trivial⟩ ⟨K15, rfl, hS18⟩

theorem ok_spec_l1In (F : Nat) {w : World} {K : KMap} {p0_n : Int} {p1_low : Int} {p2_high : Int} {r : Bool} (hS : SH w K [] w K []) (hr1 : rng64 p0_n) (hr2 : rng64 p1_low) (hr3 : rng64 p2_high) (hm : M.spec_l1In F p0_n p1_low p2_high = some r) :
    Calls Try.prog 60 #[.int .i64 p0_n, .int .i64 p1_low, .int .i64 p2_high] w fun e w' => ∃ (K' : KMap), e = .returned (.bool r) ∧ SH w K [] w' K' [] := by
  rw [M.spec_l1In] at hm
  refine calls_in Try.func60 rfl Try.ntmps60 rfl ?_
  refine wc_seq ?_
  refine wc_region ?_
  refine wl_val wn rfl (rv_assign (v := .bool false) rfl) ?_
  refine wl_nil ?_
  refine qe_seq ?_
  refine wc_seq ?_
  refine wc_region ?_
  refine wl_val wn rfl (rv_move rfl) ?_
  refine wl_val wn rfl (rv_move rfl) ?_
  refine wl_val wn rfl (rv_geq rfl rfl) ?_
  refine wl_val wn rfl (rv_move rfl) ?_
  rcases bool_tf (decide (p1_low ≤ p0_n)) with hb4 | hb4
  · have h5 := cond_t hb4 hm
    refine wl_val (wg rfl rfl hb4) rfl (rv_move rfl) ?_
    refine wl_val (wg rfl rfl hb4) rfl (rv_move rfl) ?_
    refine wl_val (wg rfl rfl hb4) rfl (rv_leq rfl rfl) ?_
    refine wl_val wn rfl (rv_pick_t rfl hb4 rfl) ?_
    refine wl_val wn rfl (rv_assign rfl) ?_
    refine wl_nil ?_
    refine qe_seq ?_
    refine wc_ret ?_
    obtain rfl := Option.some.inj h5
    exact qe_ret (vs := [_]) Try.results60 ⟨rfl, trivial⟩ ⟨K, rfl, hS⟩
  · have h5 := cond_f hb4 hm
    refine wl_un (ug rfl rfl hb4) rfl ?_
    refine wl_un (ug rfl rfl hb4) rfl ?_
    refine wl_un (ug rfl rfl hb4) rfl ?_
    refine wl_val wn rfl (rv_pick_f (v := .bool false) rfl hb4 rfl) ?_
    refine wl_val wn rfl (rv_assign rfl) ?_
    refine wl_nil ?_
    refine qe_seq ?_
    refine wc_ret ?_
    obtain rfl := Option.some.inj h5
    exact qe_ret (vs := [_]) Try.results60 ⟨rfl, trivial⟩ ⟨K, rfl, hS⟩
end Go.Proofs.Ytajfhpaokbgmeaa
