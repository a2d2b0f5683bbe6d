/-
  Walks of the functions. Printed by gen.py.
-/
import Derived.Test.YtajfhpaokbgmeaaWalkA1
set_option linter.unusedVariables false
set_option maxRecDepth 100000
namespace Go.Proofs.Ytajfhpaokbgmeaa
open Go Go.Fk Go.RowKit

set_option maxHeartbeats 2000000 in
theorem ok_impl_HitsOk (F : Nat) {w : World} {K : KMap} {a1 : Option Addr} {n2 c3 : Nat} {p0_list : List GHit} {r : Bool} (hS : SH w K [] w K []) (hs4 : SliceAt tGHit K a1 n2 c3 p0_list) (hm : M.impl_HitsOk F p0_list = some r) :
    Calls Try.prog 41 #[.slice a1 n2 c3] w fun e w' => ∃ (K' : KMap), e = .returned (.bool r) ∧ SH w K [] w' K' [] := by
  rw [M.impl_HitsOk] at hm
  refine calls_in Try.func41 rfl Try.ntmps41 rfl ?_
  refine wc_seq ?_
  refine wc_region ?_
  refine wl_val wn rfl (rv_assign (v := .bool false) rfl) ?_
  refine wl_nil ?_
  refine qe_seq ?_
  refine wc_seq ?_
  refine wc_seq ?_
  refine wc_region ?_
  refine wl_val wn rfl (rv_move rfl) ?_
  refine wl_val wn rfl (rv_len (t := tGHit) Try.underlying68 rfl hs4) ?_
  refine wl_val wn rfl (rv_move (v := .int .i64 0) rfl) ?_
  refine wl_nil ?_
  refine qe_seq ?_
  obtain ⟨o5, h6, h7⟩ := Option.bind_eq_some_iff.1 hm
  refine wc_cutg (fun E' w' => ∃ (s8 : Unit) (K9 : KMap), o5 = .inl s8 ∧ E' = [(0, .slice a1 n2 c3)] ∧ SH w K [] w' K9 [] ∧ KLe K K9) ?_ ?_
  · refine wc_block ?_
    obtain ⟨r14, h15, h16⟩ := Option.bind_eq_some_iff.1 h6
    refine wc_for' (fun (i17 : Nat) (s13 : Unit) E' w' => ∃ (K18 : KMap), E' = [(0, .slice a1 n2 c3), (5, .slice a1 n2 c3), (6, .int .i64 (p0_list.length : Int)), (7, .int .i64 ((i17 : Nat) : Int))] ∧ SH w K [] w' K18 [] ∧ KLe K K18) h15 ⟨K, rfl, hS, (KLe.refl _)⟩ ⟨rfl, rfl, rfl, rfl, trivial⟩ ?_ ?_
    · rintro i17 s13 _ w20 r22 hi23 h24 hx25 ⟨K18, rfl, hS21, hl19⟩
      refine wc_seq (wc_region ?_)
      refine wl_val wn rfl (rv_lss rfl rfl) ?_
      refine wl_nil (qe_seq (wc_seq ?_))
      refine wc_cond_t rfl (decide_eq_true (by omega)) (wc_skip (qe_seq (wc_seq ?_)))
      refine wc_block ?_
      refine wc_seq ?_
      refine wc_region ?_
      refine wl_val wn rfl (rv_move rfl) ?_
      obtain ⟨x26, hx27, h28⟩ := Option.bind_eq_some_iff.1 h24
      refine wl_indexAddr (t := tGHit) wn rfl Try.underlying68 tf72 rfl rfl (SliceAt.mono hl19 hs4) hx27 ?_
      intro b29 o30 u31 hu32 ha33
      obtain ⟨rfl, hr34, hr35⟩ := hu32
      have ha36 : AtK _ b29 o30 [.int .i64 x26.Doc, .int .i64 x26.Points] := ha33
      refine wl_val wn rfl (rv_loadS (cs := [.int .i64 x26.Doc, .int .i64 x26.Points]) tf72 rfl hS21 ha36 rfl) ?_
      refine wl_alloc wn rfl tf72 hS21 ?_
      intro g37 w38 hS39
      have hS40 : SH _ _ _ _ _ [obj g37 [.int .i64 0, .int .i64 0] 72] := hS39
      refine wl_val wn rfl (rv_assign rfl) ?_
      refine wl_store (cs' := [.int .i64 x26.Doc, .int .i64 x26.Points]) (v := .agg #[.int .i64 x26.Doc, .int .i64 x26.Points]) wn tf72 rfl rfl rfl (by simp [Value.cells, Value.oneCell']) hS40 rfl rfl ?_
      intro w41 hS42
      refine wl_nil ?_
      refine qe_seq ?_
      refine wc_seq ?_
      obtain ⟨o43, h44, h45⟩ := Option.bind_eq_some_iff.1 h28
      refine wc_cutg (fun E' w' => ∃ (K46 : KMap), E' = [(0, .slice a1 n2 c3), (5, .slice a1 n2 c3), (6, .int .i64 (p0_list.length : Int)), (7, .int .i64 ((i17 : Nat) : Int)), (42, .bool o43)] ∧ SH w K [] w' K46 [] ∧ KLe K18 K46) ?_ ?_
      · refine wc_quiet mixed (by kernel_rfl) hS42 ?_
        refine wq_val wn rfl (fun _ _ => (rv_fieldAddr ff72_0 rfl)) ?_
        refine wq_val wn rfl (rq_loadm1 tf3 rfl (.head _) rfl) ?_
        obtain ⟨r50, hx51, h52⟩ := Option.bind_eq_some_iff.1 h44
        refine wq_call (v := .bool r50) wn rfl (fun _ => rt_call (vs := [.int .i64 x26.Doc, .int .i64 1, .int .i64 9999]) co72 rfl) (fun w55 ⟨K53, hS54, hl56⟩ => ((ok_impl_within F) hS54.enter0 hr34 (by decide : rng64 1) (by decide : rng64 9999) hx51).mono fun e w' ⟨K', he, hS'⟩ => ⟨he, K', hS54.call0 hS', hl56.trans hS'.le⟩) ?_
        refine wq_val wn rfl (fun _ _ => (rv_not rfl)) ?_
        refine wq_val wn rfl (fun _ _ => (rv_move rfl)) ?_
        rcases bool_tf ((!r50)) with hb57 | hb57
        · have h58 := cond_t hb57 h52
          refine wq_un (ug rfl rfl hb57) rfl ?_
          refine wq_un (ug rfl rfl hb57) rfl ?_
          refine wq_un (ug rfl rfl hb57) rfl ?_
          refine wq_val wn rfl (fun _ _ => (rv_pick_t (v := .bool true) rfl hb57 rfl)) ?_
          refine wq_val wn rfl (fun _ _ => (rv_move rfl)) ?_
          refine wq_un (ug rfl rfl rfl) rfl ?_
          refine wq_un (ug rfl rfl rfl) rfl ?_
          refine wq_un (ug rfl rfl rfl) rfl ?_
          refine wq_un (ug rfl rfl rfl) rfl ?_
          refine wq_un (ug rfl rfl rfl) rfl ?_
          refine wq_un (ug rfl rfl rfl) rfl ?_
          refine wq_val wn rfl (fun _ _ => (rv_pick_t (v := .bool true) rfl rfl rfl)) ?_
          refine wq_val wn rfl (fun _ _ => (rv_move rfl)) ?_
          refine wq_un (ug rfl rfl rfl) rfl ?_
          refine wq_un (ug rfl rfl rfl) rfl ?_
          refine wq_un (ug rfl rfl rfl) rfl ?_
          refine wq_un (uu rfl rfl) rfl ?_
          refine wq_un (uu rfl rfl) rfl ?_
          refine wq_un (uu rfl rfl) rfl ?_
          refine wq_un (uu rfl rfl) rfl ?_
          refine wq_un (uu rfl rfl) rfl ?_
          refine wq_un (uu rfl rfl) rfl ?_
          refine wq_un (uu rfl rfl) rfl ?_
          refine wq_un (uu rfl rfl) rfl ?_
          refine wq_un (ug rfl rfl rfl) rfl ?_
          refine wq_val wn rfl (fun _ _ => (rv_pick_t (v := .bool true) rfl rfl rfl)) ?_
          refine wq_nil ?_
          rintro w60 ⟨K59, hS61, hl62⟩
          obtain rfl := Option.some.inj h58
          have hS63 : SH _ _ _ _ _ [] := SH.sublist hS61 (.cons _ .slnil)
          exact qe_mid' ⟨K59, rfl, hS63, hl62⟩ ⟨rfl, rfl, rfl, rfl, rfl, trivial⟩
        · have h58 := cond_f hb57 h52
          refine wq_val (wg rfl rfl hb57) rfl (fun _ _ => (rv_fieldAddr ff72_1 rfl)) ?_
          refine wq_val (wg rfl rfl hb57) rfl (rq_loadm1 tf3 rfl (.head _) rfl) ?_
          refine wq_val (wg rfl rfl hb57) rfl (fun _ _ => (rv_lss rfl rfl)) ?_
          refine wq_val wn rfl (fun _ _ => (rv_pick_f rfl hb57 rfl)) ?_
          refine wq_val wn rfl (fun _ _ => (rv_move rfl)) ?_
          rcases bool_tf (decide (x26.Points < (1 : Int))) with hb64 | hb64
          · have h65 := cond_t hb64 h58
            refine wq_un (ug rfl rfl hb64) rfl ?_
            refine wq_un (ug rfl rfl hb64) rfl ?_
            refine wq_un (ug rfl rfl hb64) rfl ?_
            refine wq_un (ug rfl rfl hb64) rfl ?_
            refine wq_un (ug rfl rfl hb64) rfl ?_
            refine wq_un (ug rfl rfl hb64) rfl ?_
            refine wq_val wn rfl (fun _ _ => (rv_pick_t (v := .bool true) rfl hb64 rfl)) ?_
            refine wq_val wn rfl (fun _ _ => (rv_move rfl)) ?_
            refine wq_un (ug rfl rfl rfl) rfl ?_
            refine wq_un (ug rfl rfl rfl) rfl ?_
            refine wq_un (ug rfl rfl rfl) rfl ?_
            refine wq_un (uu rfl rfl) rfl ?_
            refine wq_un (uu rfl rfl) rfl ?_
            refine wq_un (uu rfl rfl) rfl ?_
            refine wq_un (uu rfl rfl) rfl ?_
            refine wq_un (uu rfl rfl) rfl ?_
            refine wq_un (uu rfl rfl) rfl ?_
            refine wq_un (uu rfl rfl) rfl ?_
            refine wq_un (uu rfl rfl) rfl ?_
            refine wq_un (ug rfl rfl rfl) rfl ?_
            refine wq_val wn rfl (fun _ _ => (rv_pick_t (v := .bool true) rfl rfl rfl)) ?_
            refine wq_nil ?_
            rintro w67 ⟨K66, hS68, hl69⟩
            obtain rfl := Option.some.inj h65
            have hS70 : SH _ _ _ _ _ [] := SH.sublist hS68 (.cons _ .slnil)
            exact qe_mid' ⟨K66, rfl, hS70, hl69⟩ ⟨rfl, rfl, rfl, rfl, rfl, trivial⟩
          · have h65 := cond_f hb64 h58
            refine wq_val (wg rfl rfl hb64) rfl (fun _ _ => (rv_move rfl)) ?_
            refine wq_val (wg rfl rfl hb64) rfl (fun _ _ => (rv_move rfl)) ?_
            obtain ⟨x71, hx72, h73⟩ := Option.bind_eq_some_iff.1 h65
            refine wq_sl_h (t := tGHit) (wg rfl rfl hb64) rfl Try.underlying68 tf72 rfl rfl (SliceAt.mono hl19 hs4) hx72 ?_
            intro a74 n75 c76 hs77
            refine wq_val (wg rfl rfl hb64) rfl (fun _ _ => (rv_fieldAddr ff72_0 rfl)) ?_
            refine wq_val (wg rfl rfl hb64) rfl (rq_loadm1 tf3 rfl (.head _) rfl) ?_
            obtain ⟨r78, hx79, h80⟩ := Option.bind_eq_some_iff.1 h73
            refine wq_call (v := .bool r78) (wg rfl rfl hb64) rfl (fun _ => rt_call (vs := [.slice a74 n75 c76, .int .i64 x26.Doc]) co86 rfl) (fun w83 ⟨K81, hS82, hl84⟩ => ((ok_impl_hasDoc F) hS82.enter0 (SliceAt.mono hl84 hs77) hr34 hx79).mono fun e w' ⟨K', he, hS'⟩ => ⟨he, K', hS82.call0 hS', hl84.trans hS'.le⟩) ?_
            refine wq_val wn rfl (fun _ _ => (rv_pick_f rfl hb64 rfl)) ?_
            refine wq_val wn rfl (fun _ _ => (rv_move rfl)) ?_
            rcases bool_tf (r78) with hb85 | hb85
            · have h86 := cond_t hb85 h80
              refine wq_un (ug rfl rfl hb85) rfl ?_
              refine wq_un (ug rfl rfl hb85) rfl ?_
              refine wq_un (ug rfl rfl hb85) rfl ?_
              refine wq_un (uu rfl rfl) rfl ?_
              refine wq_un (uu rfl rfl) rfl ?_
              refine wq_un (uu rfl rfl) rfl ?_
              refine wq_un (uu rfl rfl) rfl ?_
              refine wq_un (uu rfl rfl) rfl ?_
              refine wq_un (uu rfl rfl) rfl ?_
              refine wq_un (uu rfl rfl) rfl ?_
              refine wq_un (uu rfl rfl) rfl ?_
              refine wq_un (ug rfl rfl hb85) rfl ?_
              refine wq_val wn rfl (fun _ _ => (rv_pick_t (v := .bool true) rfl hb85 rfl)) ?_
              refine wq_nil ?_
              rintro w88 ⟨K87, hS89, hl90⟩
              obtain rfl := Option.some.inj h86
              have hS91 : SH _ _ _ _ _ [] := SH.sublist hS89 (.cons _ .slnil)
              exact qe_mid' ⟨K87, rfl, hS91, hl90⟩ ⟨rfl, rfl, rfl, rfl, rfl, trivial⟩
            · have h86 := cond_f hb85 h80
              refine wq_val (wg rfl rfl hb85) rfl (fun _ _ => (rv_move rfl)) ?_
              refine wq_val (wg rfl rfl hb85) rfl (fun _ _ => (rv_gtr rfl rfl)) ?_
              refine wq_val (wg rfl rfl hb85) rfl (fun _ _ => (rv_move rfl)) ?_
              rcases bool_tf (decide ((0 : Int) < ((i17 : Nat) : Int))) with hb92 | hb92
              · have h93 := cond_t hb92 h86
                refine wq_val (wg rfl rfl hb92) rfl (fun _ _ => (rv_move rfl)) ?_
                refine wq_val (wg rfl rfl hb92) rfl (fun _ _ => (rv_move rfl)) ?_
                refine wq_val (wg rfl rfl hb92) rfl (fun _ _ => (rv_sub rfl rfl)) ?_
                obtain ⟨x94, hx95, h96⟩ := Option.bind_eq_some_iff.1 h93
                refine wq_indexAddr (t := tGHit) (wg rfl rfl hb92) rfl Try.underlying68 tf72 rfl rfl (SliceAt.mono hl19 hs4) hx95 ?_
                intro b97 o98 u99 hu100 ha101
                obtain ⟨rfl, hr102, hr103⟩ := hu100
                have ha104 : AtK _ b97 o98 [.int .i64 x94.Doc, .int .i64 x94.Points] := ha101
                refine wq_val (wg rfl rfl hb92) rfl (rq_loadS (cs := [.int .i64 x94.Doc, .int .i64 x94.Points]) tf72 rfl ha104 rfl) ?_
                refine wq_val (wg rfl rfl hb92) rfl (rq_loadmS (ds := [.int .i64 x26.Doc, .int .i64 x26.Points]) tf72 rfl (.head _) rfl rfl) ?_
                obtain ⟨r105, hx106, h107⟩ := Option.bind_eq_some_iff.1 h96
                refine wq_call (v := .int .i64 r105) (wg rfl rfl hb92) rfl (fun _ => rt_call (vs := [.agg #[.int .i64 x94.Doc, .int .i64 x94.Points], .agg #[.int .i64 x26.Doc, .int .i64 x26.Points]]) co91 rfl) (fun w110 ⟨K108, hS109, hl111⟩ => ((ok_impl_hitOrder F) hS109.enter0 hr102 hr103 hr34 hr35 hx106).mono fun e w' ⟨K', he, hS', _⟩ => ⟨he, K', hS109.call0 hS', hl111.trans hS'.le⟩) ?_
                obtain ⟨_, _, _, ⟨_, _, _, hr112⟩, _⟩ := (ok_impl_hitOrder F) hS42.enter0 hr102 hr103 hr34 hr35 hx106 []
                refine wq_val (wg rfl rfl hb92) rfl (fun _ _ => (rv_geq rfl rfl)) ?_
                refine wq_val (wg rfl rfl hb85) rfl (fun _ _ => (rv_pick_t rfl hb92 rfl)) ?_
                refine wq_val wn rfl (fun _ _ => (rv_pick_f rfl hb85 rfl)) ?_
                refine wq_nil ?_
                rintro w114 ⟨K113, hS115, hl116⟩
                obtain rfl := Option.some.inj h107
                have hS117 : SH _ _ _ _ _ [] := SH.sublist hS115 (.cons _ .slnil)
                exact qe_mid' ⟨K113, rfl, hS117, hl116⟩ ⟨rfl, rfl, rfl, rfl, rfl, trivial⟩
              · have h93 := cond_f hb92 h86
                refine wq_un (ug rfl rfl hb92) rfl ?_
                refine wq_un (ug rfl rfl hb92) rfl ?_
                refine wq_un (ug rfl rfl hb92) rfl ?_
                refine wq_un (ug rfl rfl hb92) rfl ?_
                refine wq_un (ug rfl rfl hb92) rfl ?_
                refine wq_un (ug rfl rfl hb92) rfl ?_
                refine wq_un (ug rfl rfl hb92) rfl ?_
                refine wq_un (ug rfl rfl hb92) rfl ?_
                refine wq_val (wg rfl rfl hb85) rfl (fun _ _ => (rv_pick_f (v := .bool false) rfl hb92 rfl)) ?_
                refine wq_val wn rfl (fun _ _ => (rv_pick_f rfl hb85 rfl)) ?_
                refine wq_nil ?_
                rintro w119 ⟨K118, hS120, hl121⟩
                obtain rfl := Option.some.inj h93
                have hS122 : SH _ _ _ _ _ [] := SH.sublist hS120 (.cons _ .slnil)
                exact qe_mid' ⟨K118, rfl, hS122, hl121⟩ ⟨rfl, rfl, rfl, rfl, rfl, trivial⟩
      · rintro _ w48 ⟨K46, rfl, hS49, hl47⟩
        refine qe_seq ?_
        refine wc_cond rfl (fun hb123 => ?_) (fun hb123 => ?_)
        · have h124 := cond_t hb123 h45
          refine wc_seq ?_
          refine wc_region ?_
          refine wl_val wn rfl (rv_assign (v := .bool false) rfl) ?_
          refine wl_nil ?_
          refine qe_seq ?_
          refine wc_ret ?_
          refine qe_block_ret ?_
          refine qe_then_ret ?_
          refine qe_then_ret ?_
          obtain rfl := Option.some.inj h124
          have e125 := hx25 _ rfl
          subst e125
          refine qe_block_ret ?_
          refine qe_then_ret ?_
          obtain rfl := Option.some.inj h16
          refine qe_then_ret ?_
          obtain rfl := Option.some.inj h7
          exact qe_ret (vs := [_]) Try.results41 ⟨rfl, trivial⟩ ⟨K46, rfl, hS49⟩
        · have h124 := cond_f hb123 h45
          refine wc_skip ?_
          refine qe_block ?_
          refine qe_seq (wc_region ?_)
          refine wl_val wn rfl (rv_add_to rfl rfl (w64_succ hi23 (SliceAt.max hs4))) ?_
          refine wl_val wn rfl (rv_move rfl) ?_
          refine wl_nil ?_
          obtain rfl := Option.some.inj h124
          exact qe_mid' ⟨_, rfl, K46, rfl, hS49, (hl19.trans hl47)⟩ ⟨rfl, rfl, rfl, rfl, trivial⟩
    · rintro s13 _ w20 hr126 ⟨K18, rfl, hS21, hl19⟩
      subst hr126
      refine wc_seq (wc_region ?_)
      refine wl_val wn rfl (rv_lss rfl rfl) ?_
      refine wl_nil (qe_seq (wc_seq ?_))
      refine wc_cond_f rfl (decide_eq_false (by omega)) ?_
      refine wc_exit ?_
      refine qe_then_exit ?_
      refine qe_then_exit ?_
      refine qe_block_eq ?_
      obtain rfl := Option.some.inj h16
      exact qe_mid' ⟨_, K18, rfl, rfl, hS21, hl19⟩ ⟨rfl, trivial⟩
  · rintro _ w11 ⟨s8, K9, rfl, rfl, hS12, hl10⟩
    refine qe_seq ?_
    refine wc_seq ?_
    refine wc_region ?_
    refine wl_val wn rfl (rv_move rfl) ?_
    refine wl_val wn rfl (rv_len (t := tGHit) Try.underlying68 rfl (SliceAt.mono hl10 hs4)) ?_
    refine wl_val wn rfl (rv_leq rfl rfl) ?_
    refine wl_val wn rfl (rv_assign rfl) ?_
    refine wl_nil ?_
    refine qe_seq ?_
    refine wc_ret ?_
    obtain rfl := Option.some.inj h7
    exact qe_ret (vs := [_]) Try.results41 ⟨rfl, trivial⟩ ⟨K9, rfl, hS12⟩

theorem ok_impl_firstHits (F : Nat) {w : World} {K : KMap} {a1 : Option Addr} {n2 c3 : Nat} {p0_list : List GHit} {p1_most : Int} {r : (List GHit)} (hS : SH w K [] w K []) (hs4 : SliceAt tGHit K a1 n2 c3 p0_list) (hr5 : rng64 p1_most) (hm : M.impl_firstHits F p0_list p1_most = some r) :
    Calls Try.prog 87 #[.slice a1 n2 c3, .int .i64 p1_most] w fun e w' => ∃ (a_1 : Option Addr) (n_2 c_3 : Nat) (K' : KMap), e = .returned (.slice a_1 n_2 c_3) ∧ SH w K [] w' K' [tail (.slice a_1 n_2 c_3) 72 2] ∧ SliceAt tGHit K' a_1 n_2 c_3 r := by
  rw [M.impl_firstHits] at hm
  refine calls_in Try.func87 rfl Try.ntmps87 rfl ?_
  refine wc_seq ?_
  refine wc_region ?_
  refine wl_val wn rfl (rv_assign (v := .slice none 0 0) rfl) ?_
  refine wl_nil ?_
  refine qe_seq ?_
  refine wc_seq ?_
  refine wc_region ?_
  refine wl_buildSlice0 tGHit wn rfl Try.underlying68 tf72 hS ?_
  intro a6 w7 K8 hl9 hs10 hS11
  refine wl_val wn rfl (rv_move rfl) ?_
  obtain ⟨x12, hx13, h14⟩ := Option.bind_eq_some_iff.1 hm
  refine wl_append (t := tGHit) wn rfl Try.underlying68 tf72 rfl rfl rfl rfl rfl hs10 (SliceAt.mono hl9 hs4) hx13 hS11 ?_
  intro a15 n16 c17 w18 K19 hl20 hs21 hS22
  refine wl_val wn rfl (rv_assign rfl) ?_
  refine wl_nil ?_
  refine qe_seq ?_
  refine wc_seq ?_
  refine wc_region ?_
  refine wl_val wn rfl (rv_move rfl) ?_
  obtain ⟨x23, hx24, h25⟩ := Option.bind_eq_some_iff.1 h14
  refine wl_call wn rfl (rt_call (vs := [.slice a15 n16 c17, .func (.func 91) #[] #[]]) co120 rfl) (sort_call (T := tGHit) sortLay120 sortNone120 rfl (fun w => Go.Fk.run_isAgg tf72 w) (fun w => Go.Fk.run_sizeOf tf72 w) (fun a b => M.impl_hitOrder F a b) 91 (Go.Proofs.enters_of Try.func91 (by kernel_rfl) rfl) hS22 hS.holds (fun b hb => by cases hb) hs21 (fun _ _ _ _ _ h => h) (fun K1 W v x u y r hW h1 h2 hm => by
    obtain ⟨rfl, hr26, hr27⟩ := h1
    obtain ⟨rfl, hr28, hr29⟩ := h2
    exact (ok_impl_hitOrder F (SH.start hW) hr26 hr27 hr28 hr29 hm).mono fun e w' ⟨K', he, hS', _⟩ => ⟨K', he, hS'⟩) hx24) ?_
  rintro e34 w31 ⟨K30, rfl, hS32, hs33⟩
  refine ⟨_, rfl, ?_⟩
  refine wl_nil ?_
  refine qe_seq ?_
  refine wc_seq ?_
  refine wc_region ?_
  refine wl_buildSlice0 tGHit wn rfl Try.underlying68 tf72 hS32 ?_
  intro a35 w36 K37 hl38 hs39 hS40
  refine wl_val wn rfl (rv_move rfl) ?_
  refine wl_val wn rfl (rv_move rfl) ?_
  refine wl_val wn rfl (rv_len (t := tGHit) Try.underlying68 rfl (SliceAt.mono hl38 hs33)) ?_
  refine wl_val wn rfl (rv_move rfl) ?_
  refine wl_val wn rfl (rv_min2 rfl rfl) ?_
  obtain ⟨x41, hx42, h43⟩ := Option.bind_eq_some_iff.1 h25
  refine wl_sl_h (t := tGHit) wn rfl Try.underlying68 tf72 rfl rfl (SliceAt.mono hl38 hs33) hx42 ?_
  intro a44 n45 c46 hs47
  obtain ⟨x48, hx49, h50⟩ := Option.bind_eq_some_iff.1 h43
  refine wl_append (t := tGHit) wn rfl Try.underlying68 tf72 rfl rfl rfl rfl rfl hs39 hs47 hx49 hS40 ?_
  intro a51 n52 c53 w54 K55 hl56 hs57 hS58
  refine wl_val wn rfl (rv_assign rfl) ?_
  refine wl_nil ?_
  refine qe_seq ?_
  refine wc_ret ?_
  obtain rfl := Option.some.inj h50
  have hS59 : SH _ _ _ _ _ [_] := SH.sublist hS58 (.cons_cons _ (.cons _ .slnil))
  exact qe_ret (vs := [_]) Try.results87 ⟨rfl, trivial⟩ ⟨a51, n52, c53, K55, rfl, hS59, hs57⟩

set_option maxHeartbeats 2000000 in
theorem ok_impl_TopMerge (F : Nat) {w : World} {K : KMap} {a1 : Option Addr} {n2 c3 : Nat} {p0_lists : List (List GHit)} {p1_most : Int} {r : (List GHit)} (hS : SH w K [] w K []) (hs4 : SliceAt (tSlice tGHit) K a1 n2 c3 p0_lists) (hr5 : rng64 p1_most) (hm : M.impl_TopMerge F p0_lists p1_most = some r) :
    Calls Try.prog 37 #[.slice a1 n2 c3, .int .i64 p1_most] w fun e w' => ∃ (a_1 : Option Addr) (n_2 c_3 : Nat) (K' : KMap), e = .returned (.slice a_1 n_2 c_3) ∧ SH w K [] w' K' [tail (.slice a_1 n_2 c_3) 72 2] ∧ SliceAt tGHit K' a_1 n_2 c_3 r := by
  rw [M.impl_TopMerge] at hm
  refine calls_in Try.func37 rfl Try.ntmps37 rfl ?_
  refine wc_seq ?_
  refine wc_region ?_
  refine wl_val wn rfl (rv_assign (v := .slice none 0 0) rfl) ?_
  refine wl_nil ?_
  refine qe_seq ?_
  refine wc_seq ?_
  refine wc_seq ?_
  obtain ⟨o6, h7, h8⟩ := Option.bind_eq_some_iff.1 hm
  refine wc_cutg (fun E' w' => ∃ (K9 : KMap), E' = [(0, .slice a1 n2 c3), (1, .int .i64 p1_most), (17, .bool o6)] ∧ SH w K [] w' K9 [] ∧ KLe K K9) ?_ ?_
  · refine wc_region ?_
    refine wl_val wn rfl (rv_move rfl) ?_
    refine wl_val wn rfl (rv_len (t := (tSlice tGHit)) Try.underlying65 rfl hs4) ?_
    refine wl_val wn rfl (rv_gtr rfl rfl) ?_
    refine wl_val wn rfl (rv_move rfl) ?_
    rcases bool_tf (decide ((4 : Int) < (p0_lists.length : Int))) with hb13 | hb13
    · have h14 := cond_t hb13 h7
      refine wl_un (ug rfl rfl hb13) rfl ?_
      refine wl_un (ug rfl rfl hb13) rfl ?_
      refine wl_un (ug rfl rfl hb13) rfl ?_
      refine wl_val wn rfl (rv_pick_t (v := .bool true) rfl hb13 rfl) ?_
      refine wl_nil ?_
      obtain rfl := Option.some.inj h14
      exact qe_mid' ⟨K, rfl, hS, (KLe.refl _)⟩ ⟨rfl, rfl, rfl, trivial⟩
    · have h14 := cond_f hb13 h7
      refine wl_val (wg rfl rfl hb13) rfl (rv_move rfl) ?_
      obtain ⟨r15, hx16, h17⟩ := Option.bind_eq_some_iff.1 h14
      refine wl_call (wg rfl rfl hb13) rfl (rt_call (vs := [.int .i64 p1_most, .int .i64 1, .int .i64 16]) co72 rfl) ((ok_impl_within F) hS.enter0 hr5 (by decide : rng64 1) (by decide : rng64 16) hx16) ?_
      rintro e21 w19 ⟨K18, rfl, hS20⟩
      refine ⟨_, rfl, ?_⟩
      have hS22 : SH _ _ _ _ _ [] := SH.call0 hS hS20
      refine wl_val (wg rfl rfl hb13) rfl (rv_not rfl) ?_
      refine wl_val wn rfl (rv_pick_f rfl hb13 rfl) ?_
      refine wl_nil ?_
      obtain rfl := Option.some.inj h17
      exact qe_mid' ⟨K18, rfl, hS22, hS20.le⟩ ⟨rfl, rfl, rfl, trivial⟩
  · rintro _ w11 ⟨K9, rfl, hS12, hl10⟩
    refine qe_seq ?_
    refine wc_cond rfl (fun hb23 => ?_) (fun hb23 => ?_)
    · have h24 := cond_t hb23 h8
      refine wc_seq ?_
      refine wc_region ?_
      refine wl_buildSlice0 tGHit wn rfl Try.underlying68 tf72 hS12 ?_
      intro a25 w26 K27 hl28 hs29 hS30
      refine wl_val wn rfl (rv_assign rfl) ?_
      refine wl_nil ?_
      refine qe_seq ?_
      refine wc_ret ?_
      refine qe_then_ret ?_
      obtain rfl := Option.some.inj h24
      exact qe_ret (vs := [_]) Try.results37 ⟨rfl, trivial⟩ ⟨a25, 0, 0, K27, rfl, hS30, hs29⟩
    · have h24 := cond_f hb23 h8
      refine wc_skip ?_
      refine qe_seq ?_
      refine wc_seq ?_
      refine wc_region ?_
      refine wl_buildSlice0 tGHit wn rfl Try.underlying68 tf72 hS12 ?_
      intro a31 w32 K33 hl34 hs35 hS36
      refine wl_val wn rfl (rv_assign rfl) ?_
      refine wl_nil ?_
      refine qe_seq ?_
      refine wc_seq ?_
      refine wc_seq ?_
      refine wc_region ?_
      refine wl_val wn rfl (rv_move rfl) ?_
      refine wl_val wn rfl (rv_len (t := (tSlice tGHit)) Try.underlying65 rfl (SliceAt.mono (hl10.trans hl34) hs4)) ?_
      refine wl_val wn rfl (rv_move (v := .int .i64 0) rfl) ?_
      refine wl_nil ?_
      refine qe_seq ?_
      obtain ⟨o37, h38, h39⟩ := Option.bind_eq_some_iff.1 h24
      refine wc_cutg (fun E' w' => ∃ (s40 : (List GHit)) (a45 : Option Addr) (n46 c47 : Nat) (K41 : KMap), o37 = .inl s40 ∧ E' = [(1, .int .i64 p1_most), (5, .slice a45 n46 c47)] ∧ SH w K [] w' K41 [tail (.slice a45 n46 c47) 72 2] ∧ KLe K33 K41 ∧ SliceAt tGHit K41 a45 n46 c47 s40) ?_ ?_
      · refine wc_block ?_
        obtain ⟨r50, h51, h52⟩ := Option.bind_eq_some_iff.1 h38
        refine wc_for' (fun (i53 : Nat) (s49 : (List GHit)) E' w' => ∃ (a58 : Option Addr) (n59 c60 : Nat) (K54 : KMap), E' = [(1, .int .i64 p1_most), (5, .slice a58 n59 c60), (20, .slice a1 n2 c3), (21, .int .i64 (p0_lists.length : Int)), (22, .int .i64 ((i53 : Nat) : Int))] ∧ SH w K [] w' K54 [tail (.slice a58 n59 c60) 72 2] ∧ KLe K33 K54 ∧ SliceAt tGHit K54 a58 n59 c60 s49) h51 ⟨a31, 0, 0, K33, rfl, hS36, (KLe.refl _), hs35⟩ ⟨rfl, rfl, rfl, rfl, rfl, trivial⟩ ?_ ?_
        · rintro i53 s49 _ w56 r62 hi63 h64 hx65 ⟨a58, n59, c60, K54, rfl, hS57, hl55, hs61⟩
          refine wc_seq (wc_region ?_)
          refine wl_val wn rfl (rv_lss rfl rfl) ?_
          refine wl_nil (qe_seq (wc_seq ?_))
          refine wc_cond_t rfl (decide_eq_true (by omega)) (wc_skip (qe_seq (wc_seq ?_)))
          refine wc_block ?_
          refine wc_seq ?_
          refine wc_region ?_
          obtain ⟨x66, hx67, h68⟩ := Option.bind_eq_some_iff.1 h64
          refine wl_indexAddr (t := (tSlice tGHit)) wn rfl Try.underlying65 tf68 rfl rfl (SliceAt.mono ((hl10.trans hl34).trans hl55) hs4) hx67 ?_
          intro b69 o70 u71 hu72 ha73
          obtain ⟨a74, n75, c76, rfl, hs77⟩ := hu72
          have ha78 : AtK _ b69 o70 [.slice a74 n75 c76] := ha73
          refine wl_val wn rfl (rv_load1 tf68 rfl hS57 (ha78 0 _ rfl)) ?_
          refine wl_val wn rfl (rv_assign rfl) ?_
          refine wl_nil ?_
          refine qe_seq ?_
          refine wc_seq ?_
          refine wc_seq ?_
          refine wc_region ?_
          refine wl_val wn rfl (rv_move rfl) ?_
          obtain ⟨r79, hx80, h81⟩ := Option.bind_eq_some_iff.1 h68
          refine wl_call wn rfl (rt_call (vs := [.slice a74 n75 c76]) co41 rfl) ((ok_impl_HitsOk F) hS57.enter0 hs77 hx80) ?_
          rintro e85 w83 ⟨K82, rfl, hS84⟩
          refine ⟨_, rfl, ?_⟩
          have hS86 : SH _ _ _ _ _ [_] := SH.call0 hS57 hS84
          refine wl_val wn rfl (rv_not rfl) ?_
          refine wl_nil ?_
          refine qe_seq ?_
          refine wc_cond rfl (fun hb87 => ?_) (fun hb87 => ?_)
          · have h88 := cond_t hb87 h81
            refine wc_seq ?_
            refine wc_region ?_
            refine wl_buildSlice0 tGHit wn rfl Try.underlying68 tf72 hS86 ?_
            intro a89 w90 K91 hl92 hs93 hS94
            refine wl_val wn rfl (rv_assign rfl) ?_
            refine wl_nil ?_
            refine qe_seq ?_
            refine wc_ret ?_
            refine qe_then_ret ?_
            refine qe_block_ret ?_
            refine qe_then_ret ?_
            refine qe_then_ret ?_
            obtain rfl := Option.some.inj h88
            have e95 := hx65 _ rfl
            subst e95
            refine qe_block_ret ?_
            refine qe_then_ret ?_
            obtain rfl := Option.some.inj h52
            refine qe_then_ret ?_
            obtain rfl := Option.some.inj h39
            have hS96 : SH _ _ _ _ _ [_] := SH.sublist hS94 (.cons_cons _ (.cons _ .slnil))
            exact qe_ret (vs := [_]) Try.results37 ⟨rfl, trivial⟩ ⟨a89, 0, 0, K91, rfl, hS96, hs93⟩
          · have h88 := cond_f hb87 h81
            refine wc_skip ?_
            refine qe_seq ?_
            refine wc_seq ?_
            refine wc_seq ?_
            refine wc_region ?_
            refine wl_val wn rfl (rv_move rfl) ?_
            refine wl_val wn rfl (rv_len (t := tGHit) Try.underlying68 rfl (SliceAt.mono hS84.le hs77)) ?_
            refine wl_val wn rfl (rv_move (v := .int .i64 0) rfl) ?_
            refine wl_nil ?_
            refine qe_seq ?_
            obtain ⟨o97, h98, h99⟩ := Option.bind_eq_some_iff.1 h88
            refine wc_cutg (fun E' w' => ∃ (s100 : Unit) (K101 : KMap), o97 = .inl s100 ∧ E' = [(1, .int .i64 p1_most), (5, .slice a58 n59 c60), (7, .slice a74 n75 c76), (20, .slice a1 n2 c3), (21, .int .i64 (p0_lists.length : Int)), (22, .int .i64 ((i53 : Nat) : Int))] ∧ SH w K [] w' K101 [tail (.slice a58 n59 c60) 72 2] ∧ KLe K82 K101) ?_ ?_
            · refine wc_block ?_
              obtain ⟨r106, h107, h108⟩ := Option.bind_eq_some_iff.1 h98
              refine wc_for' (fun (i109 : Nat) (s105 : Unit) E' w' => ∃ (K110 : KMap), E' = [(1, .int .i64 p1_most), (5, .slice a58 n59 c60), (7, .slice a74 n75 c76), (20, .slice a1 n2 c3), (21, .int .i64 (p0_lists.length : Int)), (22, .int .i64 ((i53 : Nat) : Int)), (30, .slice a74 n75 c76), (31, .int .i64 (x66.length : Int)), (32, .int .i64 ((i109 : Nat) : Int))] ∧ SH w K [] w' K110 [tail (.slice a58 n59 c60) 72 2] ∧ KLe K82 K110) h107 ⟨K82, rfl, hS86, (KLe.refl _)⟩ ⟨rfl, rfl, rfl, rfl, rfl, rfl, rfl, rfl, rfl, trivial⟩ ?_ ?_
              · rintro i109 s105 _ w112 r114 hi115 h116 hx117 ⟨K110, rfl, hS113, hl111⟩
                refine wc_seq (wc_region ?_)
                refine wl_val wn rfl (rv_lss rfl rfl) ?_
                refine wl_nil (qe_seq (wc_seq ?_))
                refine wc_cond_t rfl (decide_eq_true (by omega)) (wc_skip (qe_seq (wc_seq ?_)))
                refine wc_block ?_
                refine wc_seq ?_
                refine wc_region ?_
                obtain ⟨x118, hx119, h120⟩ := Option.bind_eq_some_iff.1 h116
                refine wl_indexAddr (t := tGHit) wn rfl Try.underlying68 tf72 rfl rfl (SliceAt.mono (hS84.le.trans hl111) hs77) hx119 ?_
                intro b121 o122 u123 hu124 ha125
                obtain ⟨rfl, hr126, hr127⟩ := hu124
                have ha128 : AtK _ b121 o122 [.int .i64 x118.Doc, .int .i64 x118.Points] := ha125
                refine wl_val wn rfl (rv_loadS (cs := [.int .i64 x118.Doc, .int .i64 x118.Points]) tf72 rfl hS113 ha128 rfl) ?_
                refine wl_alloc wn rfl tf72 hS113 ?_
                intro g129 w130 hS131
                have hS132 : SH _ _ _ _ _ [obj g129 [.int .i64 0, .int .i64 0] 72, _] := hS131
                refine wl_store (cs' := [.int .i64 x118.Doc, .int .i64 x118.Points]) (v := .agg #[.int .i64 x118.Doc, .int .i64 x118.Points]) wn tf72 rfl rfl rfl (by simp [Value.cells, Value.oneCell']) hS132 rfl rfl ?_
                intro w133 hS134
                refine wl_nil ?_
                refine qe_seq ?_
                refine wc_seq ?_
                refine wc_region ?_
                refine wl_val wn rfl (rv_move rfl) ?_
                refine wl_val wn rfl (rv_fieldAddr ff72_0 rfl) ?_
                refine wl_val wn rfl (rv_loadm1 tf3 rfl (.head _) hS134 rfl) ?_
                obtain ⟨r135, hx136, h137⟩ := Option.bind_eq_some_iff.1 h120
                refine wl_call wn rfl (rt_call (vs := [.slice a58 n59 c60, .int .i64 x118.Doc]) co86 rfl) ((ok_impl_hasDoc F) hS134.enter0 (SliceAt.mono (hS84.le.trans hl111) hs61) hr126 hx136) ?_
                rintro e141 w139 ⟨K138, rfl, hS140⟩
                refine ⟨_, rfl, ?_⟩
                have hS142 : SH _ _ _ _ _ [_, _] := SH.call0 hS134 hS140
                refine wl_nil ?_
                refine qe_seq ?_
                refine wc_cond rfl (fun hb143 => ?_) (fun hb143 => ?_)
                · have h144 := cond_t hb143 h137
                  refine wc_seq ?_
                  refine wc_region ?_
                  refine wl_buildSlice0 tGHit wn rfl Try.underlying68 tf72 hS142 ?_
                  intro a145 w146 K147 hl148 hs149 hS150
                  refine wl_val wn rfl (rv_assign rfl) ?_
                  refine wl_nil ?_
                  refine qe_seq ?_
                  refine wc_ret ?_
                  refine qe_block_ret ?_
                  refine qe_then_ret ?_
                  refine qe_then_ret ?_
                  obtain rfl := Option.some.inj h144
                  have e151 := hx117 _ rfl
                  subst e151
                  refine qe_block_ret ?_
                  refine qe_then_ret ?_
                  obtain rfl := Option.some.inj h108
                  refine qe_then_ret ?_
                  refine qe_block_ret ?_
                  refine qe_then_ret ?_
                  refine qe_then_ret ?_
                  obtain rfl := Option.some.inj h99
                  have e152 := hx65 _ rfl
                  subst e152
                  refine qe_block_ret ?_
                  refine qe_then_ret ?_
                  obtain rfl := Option.some.inj h52
                  refine qe_then_ret ?_
                  obtain rfl := Option.some.inj h39
                  have hS153 : SH _ _ _ _ _ [_] := SH.sublist hS150 (.cons_cons _ (.cons _ (.cons _ .slnil)))
                  exact qe_ret (vs := [_]) Try.results37 ⟨rfl, trivial⟩ ⟨a145, 0, 0, K147, rfl, hS153, hs149⟩
                · have h144 := cond_f hb143 h137
                  refine wc_skip ?_
                  refine qe_block ?_
                  refine qe_seq (wc_region ?_)
                  refine wl_val wn rfl (rv_add_to rfl rfl (w64_succ hi115 (SliceAt.max (SliceAt.mono hS84.le hs77)))) ?_
                  refine wl_val wn rfl (rv_move rfl) ?_
                  refine wl_nil ?_
                  obtain rfl := Option.some.inj h144
                  have hS154 : SH _ _ _ _ _ [_] := SH.sublist hS142 (.cons _ (.cons_cons _ .slnil))
                  exact qe_mid' ⟨_, rfl, K138, rfl, hS154, (hl111.trans hS140.le)⟩ ⟨rfl, rfl, rfl, rfl, rfl, rfl, rfl, rfl, rfl, trivial⟩
              · rintro s105 _ w112 hr155 ⟨K110, rfl, hS113, hl111⟩
                subst hr155
                refine wc_seq (wc_region ?_)
                refine wl_val wn rfl (rv_lss rfl rfl) ?_
                refine wl_nil (qe_seq (wc_seq ?_))
                refine wc_cond_f rfl (decide_eq_false (by omega)) ?_
                refine wc_exit ?_
                refine qe_then_exit ?_
                refine qe_then_exit ?_
                refine qe_block_eq ?_
                obtain rfl := Option.some.inj h108
                exact qe_mid' ⟨_, K110, rfl, rfl, hS113, hl111⟩ ⟨rfl, rfl, rfl, rfl, rfl, rfl, trivial⟩
            · rintro _ w103 ⟨s100, K101, rfl, rfl, hS104, hl102⟩
              refine qe_seq ?_
              refine wc_region ?_
              refine wl_val wn rfl (rv_move rfl) ?_
              refine wl_val wn rfl (rv_move rfl) ?_
              obtain ⟨x157, hx158, h159⟩ := Option.bind_eq_some_iff.1 h99
              refine wl_append (t := tGHit) wn rfl Try.underlying68 tf72 rfl rfl rfl rfl rfl (SliceAt.mono (hS84.le.trans hl102) hs61) (SliceAt.mono (hS84.le.trans hl102) hs77) hx158 hS104 ?_
              intro a160 n161 c162 w163 K164 hl165 hs166 hS167
              refine wl_val wn rfl (rv_assign rfl) ?_
              refine wl_nil ?_
              refine qe_block ?_
              refine qe_seq (wc_region ?_)
              refine wl_val wn rfl (rv_add_to rfl rfl (w64_succ hi63 (SliceAt.max (SliceAt.mono (hl10.trans hl34) hs4)))) ?_
              refine wl_val wn rfl (rv_move rfl) ?_
              refine wl_nil ?_
              obtain rfl := Option.some.inj h159
              exact qe_mid' ⟨_, rfl, a160, n161, c162, K164, rfl, hS167, (((hl55.trans hS84.le).trans hl102).trans hl165), hs166⟩ ⟨rfl, rfl, rfl, rfl, rfl, trivial⟩
        · rintro s49 _ w56 hr169 ⟨a58, n59, c60, K54, rfl, hS57, hl55, hs61⟩
          subst hr169
          refine wc_seq (wc_region ?_)
          refine wl_val wn rfl (rv_lss rfl rfl) ?_
          refine wl_nil (qe_seq (wc_seq ?_))
          refine wc_cond_f rfl (decide_eq_false (by omega)) ?_
          refine wc_exit ?_
          refine qe_then_exit ?_
          refine qe_then_exit ?_
          refine qe_block_eq ?_
          obtain rfl := Option.some.inj h52
          exact qe_mid' ⟨_, a58, n59, c60, K54, rfl, rfl, hS57, hl55, hs61⟩ ⟨rfl, rfl, trivial⟩
      · rintro _ w43 ⟨s40, a45, n46, c47, K41, rfl, rfl, hS44, hl42, hs48⟩
        refine qe_seq ?_
        refine wc_seq ?_
        refine wc_region ?_
        refine wl_val wn rfl (rv_move rfl) ?_
        refine wl_val wn rfl (rv_move rfl) ?_
        obtain ⟨r171, hx172, h173⟩ := Option.bind_eq_some_iff.1 h39
        refine wl_call wn rfl (rt_call (vs := [.slice a45 n46 c47, .int .i64 p1_most]) co87 rfl) ((ok_impl_firstHits F) hS44.enter0 hs48 hr5 hx172) ?_
        rintro e181 w175 ⟨a177, n178, c179, K174, rfl, hS176, hs180⟩
        refine ⟨_, rfl, ?_⟩
        have hS182 : SH _ _ _ _ _ [_, _] := SH.call0 hS44 hS176
        refine wl_val wn rfl (rv_assign rfl) ?_
        refine wl_nil ?_
        refine qe_seq ?_
        refine wc_ret ?_
        obtain rfl := Option.some.inj h173
        have hS183 : SH _ _ _ _ _ [_] := SH.sublist hS182 (.cons_cons _ (.cons _ .slnil))
        exact qe_ret (vs := [_]) Try.results37 ⟨rfl, trivial⟩ ⟨a177, n178, c179, K174, rfl, hS183, hs180⟩

theorem ok_laws_foHits (F : Nat) {w : World} {K : KMap} {a1 : Option Addr} {n2 c3 : Nat} {a5 : Option Addr} {n6 c7 : Nat} {p0_a : List GHit} {p1_b : List GHit} {r : Bool} (hS : SH w K [] w K []) (hs4 : SliceAt tGHit K a1 n2 c3 p0_a) (hs8 : SliceAt tGHit K a5 n6 c7 p1_b) (hm : M.laws_foHits F p0_a p1_b = some r) :
    Calls Try.prog 38 #[.slice a1 n2 c3, .slice a5 n6 c7] w fun e w' => ∃ (K' : KMap), e = .returned (.bool r) ∧ SH w K [] w' K' [] := by
  rw [M.laws_foHits] at hm
  refine calls_in Try.func38 rfl Try.ntmps38 rfl ?_
  refine wc_seq ?_
  refine wc_region ?_
  refine wl_val wn rfl (rv_assign (v := .bool false) rfl) ?_
  refine wl_nil ?_
  refine qe_seq ?_
  refine wc_seq ?_
  refine wc_seq ?_
  refine wc_region ?_
  refine wl_val wn rfl (rv_move rfl) ?_
  refine wl_val wn rfl (rv_len (t := tGHit) Try.underlying68 rfl hs4) ?_
  refine wl_val wn rfl (rv_move rfl) ?_
  refine wl_val wn rfl (rv_len (t := tGHit) Try.underlying68 rfl hs8) ?_
  refine wl_val wn rfl (rv_neq rfl rfl) ?_
  refine wl_nil ?_
  refine qe_seq ?_
  refine wc_cond rfl (fun hb9 => ?_) (fun hb9 => ?_)
  · have h10 := cond_t hb9 hm
    refine wc_seq ?_
    refine wc_region ?_
    refine wl_val wn rfl (rv_assign (v := .bool false) rfl) ?_
    refine wl_nil ?_
    refine qe_seq ?_
    refine wc_ret ?_
    refine qe_then_ret ?_
    obtain rfl := Option.some.inj h10
    exact qe_ret (vs := [_]) Try.results38 ⟨rfl, trivial⟩ ⟨K, rfl, hS⟩
  · have h10 := cond_f hb9 hm
    refine wc_skip ?_
    refine qe_seq ?_
    refine wc_seq ?_
    refine wc_seq ?_
    refine wc_region ?_
    refine wl_val wn rfl (rv_assign (v := .int .i64 0) rfl) ?_
    refine wl_nil ?_
    refine qe_seq ?_
    obtain ⟨o11, h12, h13⟩ := Option.bind_eq_some_iff.1 h10
    refine wc_cutg (fun E' w' => ∃ (s14 : Unit) (K15 : KMap), o11 = .inl s14 ∧ E' = [] ∧ SH w K [] w' K15 [] ∧ KLe K K15) ?_ ?_
    · refine wc_block ?_
      obtain ⟨r20, h21, h22⟩ := Option.bind_eq_some_iff.1 h12
      refine wc_while' (fun (s19 : Int) E' w' => ∃ (K23 : KMap), E' = [(0, .slice a1 n2 c3), (1, .slice a5 n6 c7), (5, .int .i64 s19)] ∧ SH w K [] w' K23 [] ∧ KLe K K23 ∧ rng64 s19) h21 ⟨K, rfl, hS, (KLe.refl _), (by decide : rng64 0)⟩ ⟨rfl, rfl, rfl, trivial⟩ ?_
      rintro s19 _ w25 r28 h29 hx30 ⟨K23, rfl, hS26, hl24, hr27⟩
      refine wc_seq ?_
      refine wc_seq ?_
      refine wc_region ?_
      refine wl_val wn rfl (rv_move rfl) ?_
      refine wl_val wn rfl (rv_move rfl) ?_
      refine wl_val wn rfl (rv_len (t := tGHit) Try.underlying68 rfl (SliceAt.mono hl24 hs4)) ?_
      refine wl_val wn rfl (rv_lss rfl rfl) ?_
      refine wl_nil ?_
      refine qe_seq ?_
      refine wc_cond rfl (fun hb31 => ?_) (fun hb31 => ?_)
      · have h32 := cond_t hb31 h29
        refine wc_skip ?_
        refine qe_seq ?_
        refine wc_seq ?_
        refine wc_block ?_
        refine wc_seq ?_
        refine wc_quiet mixed (by kernel_rfl) hS26 ?_
        refine wq_val wn rfl (fun _ _ => (rv_move rfl)) ?_
        refine wq_val wn rfl (fun _ _ => (rv_move rfl)) ?_
        obtain ⟨x33, hx34, h35⟩ := Option.bind_eq_some_iff.1 h32
        refine wq_indexAddr (t := tGHit) wn rfl Try.underlying68 tf72 rfl rfl (SliceAt.mono hl24 hs4) hx34 ?_
        intro b36 o37 u38 hu39 ha40
        obtain ⟨rfl, hr41, hr42⟩ := hu39
        have ha43 : AtK _ b36 o37 [.int .i64 x33.Doc, .int .i64 x33.Points] := ha40
        refine wq_val wn rfl (rq_loadS (cs := [.int .i64 x33.Doc, .int .i64 x33.Points]) tf72 rfl ha43 rfl) ?_
        refine wq_val wn rfl (fun _ _ => (rv_move rfl)) ?_
        refine wq_val wn rfl (fun _ _ => (rv_move rfl)) ?_
        obtain ⟨x44, hx45, h46⟩ := Option.bind_eq_some_iff.1 h35
        refine wq_indexAddr (t := tGHit) wn rfl Try.underlying68 tf72 rfl rfl (SliceAt.mono hl24 hs8) hx45 ?_
        intro b47 o48 u49 hu50 ha51
        obtain ⟨rfl, hr52, hr53⟩ := hu50
        have ha54 : AtK _ b47 o48 [.int .i64 x44.Doc, .int .i64 x44.Points] := ha51
        refine wq_val wn rfl (rq_loadS (cs := [.int .i64 x44.Doc, .int .i64 x44.Points]) tf72 rfl ha54 rfl) ?_
        refine wq_val wn rfl (fun _ _ => (rv_neS eqg72 rfl rfl (eqs72 x33.Doc x33.Points x44.Doc x44.Points))) ?_
        refine wq_nil ?_
        rintro w56 ⟨K55, hS57, hl58⟩
        refine qe_seq ?_
        refine wc_cond rfl (fun hb59 => ?_) (fun hb59 => ?_)
        · have h60 := cond_t hb59 h46
          refine wc_seq ?_
          refine wc_region ?_
          refine wl_val wn rfl (rv_assign (v := .bool false) rfl) ?_
          refine wl_nil ?_
          refine qe_seq ?_
          refine wc_ret ?_
          refine qe_block_ret ?_
          refine qe_then_ret ?_
          refine qe_then_ret ?_
          obtain rfl := Option.some.inj h60
          have e61 := hx30 _ rfl
          subst e61
          refine qe_block_ret ?_
          refine qe_then_ret ?_
          obtain rfl := Option.some.inj h22
          refine qe_then_ret ?_
          obtain rfl := Option.some.inj h13
          exact qe_ret (vs := [_]) Try.results38 ⟨rfl, trivial⟩ ⟨K55, rfl, hS57⟩
        · have h60 := cond_f hb59 h46
          refine wc_skip ?_
          refine qe_block ?_
          refine qe_seq ?_
          refine wc_region ?_
          refine wl_val wn rfl (rv_move rfl) ?_
          refine wl_val wn rfl (rv_add rfl rfl) ?_
          refine wl_val wn rfl (rv_assign rfl) ?_
          refine wl_nil ?_
          obtain rfl := Option.some.inj h60
          exact qe_mid' ⟨_, rfl, K55, rfl, hS57, (hl24.trans hl58), (w64_rng _)⟩ ⟨rfl, rfl, rfl, trivial⟩
      · have h32 := cond_f hb31 h29
        refine wc_exit ?_
        refine qe_then_exit ?_
        refine qe_then_exit ?_
        obtain rfl := Option.some.inj h32
        have e62 := hx30 _ rfl
        subst e62
        refine qe_block_eq ?_
        obtain rfl := Option.some.inj h22
        exact qe_mid' ⟨_, K23, rfl, rfl, hS26, hl24⟩ trivial
    · rintro _ w17 ⟨s14, K15, rfl, rfl, hS18, hl16⟩
      refine qe_seq ?_
      refine wc_seq ?_
      refine wc_region ?_
      refine wl_val wn rfl (rv_assign (v := .bool true) rfl) ?_
      refine wl_nil ?_
      refine qe_seq ?_
      refine wc_ret ?_
      obtain rfl := Option.some.inj h13
      exact qe_ret (vs := [_]) Try.results38 ⟨rfl, trivial⟩ ⟨K15, rfl, hS18⟩

theorem ok_spec_l1In (F : Nat) {w : World} {K : KMap} {p0_n : Int} {p1_low : Int} {p2_high : Int} {r : Bool} (hS : SH w K [] w K []) (hr1 : rng64 p0_n) (hr2 : rng64 p1_low) (hr3 : rng64 p2_high) (hm : M.spec_l1In F p0_n p1_low p2_high = some r) :
    Calls Try.prog 60 #[.int .i64 p0_n, .int .i64 p1_low, .int .i64 p2_high] w fun e w' => ∃ (K' : KMap), e = .returned (.bool r) ∧ SH w K [] w' K' [] := by
  rw [M.spec_l1In] at hm
  refine calls_in Try.func60 rfl Try.ntmps60 rfl ?_
  refine wc_seq ?_
  refine wc_region ?_
  refine wl_val wn rfl (rv_assign (v := .bool false) rfl) ?_
  refine wl_nil ?_
  refine qe_seq ?_
  refine wc_seq ?_
  refine wc_region ?_
  refine wl_val wn rfl (rv_move rfl) ?_
  refine wl_val wn rfl (rv_move rfl) ?_
  refine wl_val wn rfl (rv_geq rfl rfl) ?_
  refine wl_val wn rfl (rv_move rfl) ?_
  rcases bool_tf (decide (p1_low ≤ p0_n)) with hb4 | hb4
  · have h5 := cond_t hb4 hm
    refine wl_val (wg rfl rfl hb4) rfl (rv_move rfl) ?_
    refine wl_val (wg rfl rfl hb4) rfl (rv_move rfl) ?_
    refine wl_val (wg rfl rfl hb4) rfl (rv_leq rfl rfl) ?_
    refine wl_val wn rfl (rv_pick_t rfl hb4 rfl) ?_
    refine wl_val wn rfl (rv_assign rfl) ?_
    refine wl_nil ?_
    refine qe_seq ?_
    refine wc_ret ?_
    obtain rfl := Option.some.inj h5
    exact qe_ret (vs := [_]) Try.results60 ⟨rfl, trivial⟩ ⟨K, rfl, hS⟩
  · have h5 := cond_f hb4 hm
    refine wl_un (ug rfl rfl hb4) rfl ?_
    refine wl_un (ug rfl rfl hb4) rfl ?_
    refine wl_un (ug rfl rfl hb4) rfl ?_
    refine wl_val wn rfl (rv_pick_f (v := .bool false) rfl hb4 rfl) ?_
    refine wl_val wn rfl (rv_assign rfl) ?_
    refine wl_nil ?_
    refine qe_seq ?_
    refine wc_ret ?_
    obtain rfl := Option.some.inj h5
    exact qe_ret (vs := [_]) Try.results60 ⟨rfl, trivial⟩ ⟨K, rfl, hS⟩

set_option maxHeartbeats 2000000 in
theorem ok_spec_l13Ok (F : Nat) {w : World} {K : KMap} {a1 : Option Addr} {n2 c3 : Nat} {p0_list : List GHit} {r : Bool} (hS : SH w K [] w K []) (hs4 : SliceAt tGHit K a1 n2 c3 p0_list) (hm : M.spec_l13Ok F p0_list = some r) :
    Calls Try.prog 88 #[.slice a1 n2 c3] w fun e w' => ∃ (K' : KMap), e = .returned (.bool r) ∧ SH w K [] w' K' [] := by
  rw [M.spec_l13Ok] at hm
  refine calls_in Try.func88 rfl Try.ntmps88 rfl ?_
  refine wc_seq ?_
  refine wc_region ?_
  refine wl_val wn rfl (rv_assign (v := .bool false) rfl) ?_
  refine wl_nil ?_
  refine qe_seq ?_
  refine wc_seq ?_
  refine wc_seq ?_
  refine wc_region ?_
  refine wl_val wn rfl (rv_assign (v := .int .i64 0) rfl) ?_
  refine wl_nil ?_
  refine qe_seq ?_
  obtain ⟨o5, h6, h7⟩ := Option.bind_eq_some_iff.1 hm
  refine wc_cutg (fun E' w' => ∃ (s8 : Unit) (K9 : KMap), o5 = .inl s8 ∧ E' = [(0, .slice a1 n2 c3)] ∧ SH w K [] w' K9 [] ∧ KLe K K9) ?_ ?_
  · refine wc_block ?_
    obtain ⟨r14, h15, h16⟩ := Option.bind_eq_some_iff.1 h6
    refine wc_while' (fun (s13 : Int) E' w' => ∃ (K17 : KMap), E' = [(0, .slice a1 n2 c3), (3, .int .i64 s13)] ∧ SH w K [] w' K17 [] ∧ KLe K K17 ∧ rng64 s13) h15 ⟨K, rfl, hS, (KLe.refl _), (by decide : rng64 0)⟩ ⟨rfl, rfl, trivial⟩ ?_
    rintro s13 _ w19 r22 h23 hx24 ⟨K17, rfl, hS20, hl18, hr21⟩
    refine wc_seq ?_
    refine wc_seq ?_
    refine wc_region ?_
    refine wl_val wn rfl (rv_move rfl) ?_
    refine wl_val wn rfl (rv_move rfl) ?_
    refine wl_val wn rfl (rv_len (t := tGHit) Try.underlying68 rfl (SliceAt.mono hl18 hs4)) ?_
    refine wl_val wn rfl (rv_lss rfl rfl) ?_
    refine wl_nil ?_
    refine qe_seq ?_
    refine wc_cond rfl (fun hb25 => ?_) (fun hb25 => ?_)
    · have h26 := cond_t hb25 h23
      refine wc_skip ?_
      refine qe_seq ?_
      refine wc_seq ?_
      refine wc_block ?_
      refine wc_seq ?_
      refine wc_seq ?_
      obtain ⟨o27, h28, h29⟩ := Option.bind_eq_some_iff.1 h26
      refine wc_cutg (fun E' w' => ∃ (K30 : KMap), E' = [(0, .slice a1 n2 c3), (3, .int .i64 s13), (42, .bool o27)] ∧ SH w K [] w' K30 [] ∧ KLe K17 K30) ?_ ?_
      · refine wc_quiet mixed (by kernel_rfl) hS20 ?_
        refine wq_val wn rfl (fun _ _ => (rv_move rfl)) ?_
        refine wq_val wn rfl (fun _ _ => (rv_move rfl)) ?_
        obtain ⟨x34, hx35, h36⟩ := Option.bind_eq_some_iff.1 h28
        refine wq_indexAddr (t := tGHit) wn rfl Try.underlying68 tf72 rfl rfl (SliceAt.mono hl18 hs4) hx35 ?_
        intro b37 o38 u39 hu40 ha41
        obtain ⟨rfl, hr42, hr43⟩ := hu40
        have ha44 : AtK _ b37 o38 [.int .i64 x34.Doc, .int .i64 x34.Points] := ha41
        refine wq_val wn rfl (fun _ _ => (rv_fieldAddr ff72_0 rfl)) ?_
        refine wq_val wn rfl (rq_load1 tf3 rfl (ha44 0 _ rfl)) ?_
        obtain ⟨r45, hx46, h47⟩ := Option.bind_eq_some_iff.1 h36
        refine wq_call (v := .bool r45) wn rfl (fun _ => rt_call (vs := [.int .i64 x34.Doc, .int .i64 1, .int .i64 9999]) co60 rfl) (fun w50 ⟨K48, hS49, hl51⟩ => ((ok_spec_l1In F) hS49.enter0 hr42 (by decide : rng64 1) (by decide : rng64 9999) hx46).mono fun e w' ⟨K', he, hS'⟩ => ⟨he, K', hS49.call0 hS', hl51.trans hS'.le⟩) ?_
        refine wq_val wn rfl (fun _ _ => (rv_not rfl)) ?_
        refine wq_val wn rfl (fun _ _ => (rv_move rfl)) ?_
        rcases bool_tf ((!r45)) with hb52 | hb52
        · have h53 := cond_t hb52 h47
          refine wq_un (ug rfl rfl hb52) rfl ?_
          refine wq_un (ug rfl rfl hb52) rfl ?_
          refine wq_un (ug rfl rfl hb52) rfl ?_
          refine wq_un (ug rfl rfl hb52) rfl ?_
          refine wq_un (ug rfl rfl hb52) rfl ?_
          refine wq_un (ug rfl rfl hb52) rfl ?_
          refine wq_val wn rfl (fun _ _ => (rv_pick_t (v := .bool true) rfl hb52 rfl)) ?_
          refine wq_val wn rfl (fun _ _ => (rv_move rfl)) ?_
          refine wq_un (ug rfl rfl rfl) rfl ?_
          refine wq_un (ug rfl rfl rfl) rfl ?_
          refine wq_un (ug rfl rfl rfl) rfl ?_
          refine wq_un (uu rfl rfl) rfl ?_
          refine wq_un (uu rfl rfl) rfl ?_
          refine wq_un (uu rfl rfl) rfl ?_
          refine wq_un (uu rfl rfl) rfl ?_
          refine wq_un (uu rfl rfl) rfl ?_
          refine wq_un (uu rfl rfl) rfl ?_
          refine wq_un (uu rfl rfl) rfl ?_
          refine wq_un (uu rfl rfl) rfl ?_
          refine wq_un (uu rfl rfl) rfl ?_
          refine wq_un (uu rfl rfl) rfl ?_
          refine wq_un (uu rfl rfl) rfl ?_
          refine wq_un (ug rfl rfl rfl) rfl ?_
          refine wq_val wn rfl (fun _ _ => (rv_pick_t (v := .bool true) rfl rfl rfl)) ?_
          refine wq_nil ?_
          rintro w55 ⟨K54, hS56, hl57⟩
          obtain rfl := Option.some.inj h53
          exact qe_mid' ⟨K54, rfl, hS56, hl57⟩ ⟨rfl, rfl, rfl, trivial⟩
        · have h53 := cond_f hb52 h47
          refine wq_val (wg rfl rfl hb52) rfl (fun _ _ => (rv_move rfl)) ?_
          refine wq_val (wg rfl rfl hb52) rfl (fun _ _ => (rv_move rfl)) ?_
          obtain ⟨x58, hx59, h60⟩ := Option.bind_eq_some_iff.1 h53
          refine wq_indexAddr (t := tGHit) (wg rfl rfl hb52) rfl Try.underlying68 tf72 rfl rfl (SliceAt.mono hl18 hs4) hx59 ?_
          intro b61 o62 u63 hu64 ha65
          obtain ⟨rfl, hr66, hr67⟩ := hu64
          have ha68 : AtK _ b61 o62 [.int .i64 x58.Doc, .int .i64 x58.Points] := ha65
          refine wq_val (wg rfl rfl hb52) rfl (fun _ _ => (rv_fieldAddr ff72_1 rfl)) ?_
          refine wq_val (wg rfl rfl hb52) rfl (rq_load1 tf3 rfl (ha68 1 _ rfl)) ?_
          refine wq_val (wg rfl rfl hb52) rfl (fun _ _ => (rv_lss rfl rfl)) ?_
          refine wq_val wn rfl (fun _ _ => (rv_pick_f rfl hb52 rfl)) ?_
          refine wq_val wn rfl (fun _ _ => (rv_move rfl)) ?_
          rcases bool_tf (decide (x58.Points < (1 : Int))) with hb69 | hb69
          · have h70 := cond_t hb69 h60
            refine wq_un (ug rfl rfl hb69) rfl ?_
            refine wq_un (ug rfl rfl hb69) rfl ?_
            refine wq_un (ug rfl rfl hb69) rfl ?_
            refine wq_un (uu rfl rfl) rfl ?_
            refine wq_un (uu rfl rfl) rfl ?_
            refine wq_un (uu rfl rfl) rfl ?_
            refine wq_un (uu rfl rfl) rfl ?_
            refine wq_un (uu rfl rfl) rfl ?_
            refine wq_un (uu rfl rfl) rfl ?_
            refine wq_un (uu rfl rfl) rfl ?_
            refine wq_un (uu rfl rfl) rfl ?_
            refine wq_un (uu rfl rfl) rfl ?_
            refine wq_un (uu rfl rfl) rfl ?_
            refine wq_un (uu rfl rfl) rfl ?_
            refine wq_un (ug rfl rfl hb69) rfl ?_
            refine wq_val wn rfl (fun _ _ => (rv_pick_t (v := .bool true) rfl hb69 rfl)) ?_
            refine wq_nil ?_
            rintro w72 ⟨K71, hS73, hl74⟩
            obtain rfl := Option.some.inj h70
            exact qe_mid' ⟨K71, rfl, hS73, hl74⟩ ⟨rfl, rfl, rfl, trivial⟩
          · have h70 := cond_f hb69 h60
            refine wq_val (wg rfl rfl hb69) rfl (fun _ _ => (rv_move rfl)) ?_
            refine wq_val (wg rfl rfl hb69) rfl (fun _ _ => (rv_gtr rfl rfl)) ?_
            refine wq_val (wg rfl rfl hb69) rfl (fun _ _ => (rv_move rfl)) ?_
            rcases bool_tf (decide ((0 : Int) < s13)) with hb75 | hb75
            · have h76 := cond_t hb75 h70
              refine wq_val (wg rfl rfl hb75) rfl (fun _ _ => (rv_move rfl)) ?_
              refine wq_val (wg rfl rfl hb75) rfl (fun _ _ => (rv_move rfl)) ?_
              refine wq_val (wg rfl rfl hb75) rfl (fun _ _ => (rv_sub rfl rfl)) ?_
              obtain ⟨x77, hx78, h79⟩ := Option.bind_eq_some_iff.1 h76
              refine wq_indexAddr (t := tGHit) (wg rfl rfl hb75) rfl Try.underlying68 tf72 rfl rfl (SliceAt.mono hl18 hs4) hx78 ?_
              intro b80 o81 u82 hu83 ha84
              obtain ⟨rfl, hr85, hr86⟩ := hu83
              have ha87 : AtK _ b80 o81 [.int .i64 x77.Doc, .int .i64 x77.Points] := ha84
              refine wq_val (wg rfl rfl hb75) rfl (rq_loadS (cs := [.int .i64 x77.Doc, .int .i64 x77.Points]) tf72 rfl ha87 rfl) ?_
              refine wq_val (wg rfl rfl hb75) rfl (fun _ _ => (rv_move rfl)) ?_
              refine wq_val (wg rfl rfl hb75) rfl (fun _ _ => (rv_move rfl)) ?_
              obtain ⟨x88, hx89, h90⟩ := Option.bind_eq_some_iff.1 h79
              refine wq_indexAddr (t := tGHit) (wg rfl rfl hb75) rfl Try.underlying68 tf72 rfl rfl (SliceAt.mono hl18 hs4) hx89 ?_
              intro b91 o92 u93 hu94 ha95
              obtain ⟨rfl, hr96, hr97⟩ := hu94
              have ha98 : AtK _ b91 o92 [.int .i64 x88.Doc, .int .i64 x88.Points] := ha95
              refine wq_val (wg rfl rfl hb75) rfl (rq_loadS (cs := [.int .i64 x88.Doc, .int .i64 x88.Points]) tf72 rfl ha98 rfl) ?_
              obtain ⟨r99, hx100, h101⟩ := Option.bind_eq_some_iff.1 h90
              refine wq_call (v := .bool r99) (wg rfl rfl hb75) rfl (fun _ => rt_call (vs := [.agg #[.int .i64 x77.Doc, .int .i64 x77.Points], .agg #[.int .i64 x88.Doc, .int .i64 x88.Points]]) co121 rfl) (fun w104 ⟨K102, hS103, hl105⟩ => ((ok_spec_l13Less F) hS103.enter0 hr85 hr86 hr96 hr97 hx100).mono fun e w' ⟨K', he, hS'⟩ => ⟨he, K', hS103.call0 hS', hl105.trans hS'.le⟩) ?_
              refine wq_val (wg rfl rfl hb75) rfl (fun _ _ => (rv_not rfl)) ?_
              refine wq_val (wg rfl rfl hb69) rfl (fun _ _ => (rv_pick_t rfl hb75 rfl)) ?_
              refine wq_val wn rfl (fun _ _ => (rv_pick_f rfl hb69 rfl)) ?_
              refine wq_nil ?_
              rintro w107 ⟨K106, hS108, hl109⟩
              obtain rfl := Option.some.inj h101
              exact qe_mid' ⟨K106, rfl, hS108, hl109⟩ ⟨rfl, rfl, rfl, trivial⟩
            · have h76 := cond_f hb75 h70
              refine wq_un (ug rfl rfl hb75) rfl ?_
              refine wq_un (ug rfl rfl hb75) rfl ?_
              refine wq_un (ug rfl rfl hb75) rfl ?_
              refine wq_un (ug rfl rfl hb75) rfl ?_
              refine wq_un (ug rfl rfl hb75) rfl ?_
              refine wq_un (ug rfl rfl hb75) rfl ?_
              refine wq_un (ug rfl rfl hb75) rfl ?_
              refine wq_un (ug rfl rfl hb75) rfl ?_
              refine wq_un (ug rfl rfl hb75) rfl ?_
              refine wq_un (ug rfl rfl hb75) rfl ?_
              refine wq_un (ug rfl rfl hb75) rfl ?_
              refine wq_val (wg rfl rfl hb69) rfl (fun _ _ => (rv_pick_f (v := .bool false) rfl hb75 rfl)) ?_
              refine wq_val wn rfl (fun _ _ => (rv_pick_f rfl hb69 rfl)) ?_
              refine wq_nil ?_
              rintro w111 ⟨K110, hS112, hl113⟩
              obtain rfl := Option.some.inj h76
              exact qe_mid' ⟨K110, rfl, hS112, hl113⟩ ⟨rfl, rfl, rfl, trivial⟩
      · rintro _ w32 ⟨K30, rfl, hS33, hl31⟩
        refine qe_seq ?_
        refine wc_cond rfl (fun hb114 => ?_) (fun hb114 => ?_)
        · have h115 := cond_t hb114 h29
          refine wc_seq ?_
          refine wc_region ?_
          refine wl_val wn rfl (rv_assign (v := .bool false) rfl) ?_
          refine wl_nil ?_
          refine qe_seq ?_
          refine wc_ret ?_
          refine qe_then_ret ?_
          refine qe_block_ret ?_
          refine qe_then_ret ?_
          refine qe_then_ret ?_
          obtain rfl := Option.some.inj h115
          have e116 := hx24 _ rfl
          subst e116
          refine qe_block_ret ?_
          refine qe_then_ret ?_
          obtain rfl := Option.some.inj h16
          refine qe_then_ret ?_
          obtain rfl := Option.some.inj h7
          exact qe_ret (vs := [_]) Try.results88 ⟨rfl, trivial⟩ ⟨K30, rfl, hS33⟩
        · have h115 := cond_f hb114 h29
          refine wc_skip ?_
          refine qe_seq ?_
          refine wc_seq ?_
          refine wc_region ?_
          refine wl_val wn rfl (rv_assign (v := .int .i64 0) rfl) ?_
          refine wl_nil ?_
          refine qe_seq ?_
          obtain ⟨o117, h118, h119⟩ := Option.bind_eq_some_iff.1 h115
          refine wc_cutg (fun E' w' => ∃ (s120 : Unit) (K121 : KMap), o117 = .inl s120 ∧ E' = [(0, .slice a1 n2 c3), (3, .int .i64 s13)] ∧ SH w K [] w' K121 [] ∧ KLe K30 K121) ?_ ?_
          · refine wc_block ?_
            obtain ⟨r126, h127, h128⟩ := Option.bind_eq_some_iff.1 h118
            refine wc_while' (fun (s125 : Int) E' w' => ∃ (K129 : KMap), E' = [(0, .slice a1 n2 c3), (3, .int .i64 s13), (4, .int .i64 s125)] ∧ SH w K [] w' K129 [] ∧ KLe K30 K129 ∧ rng64 s125) h127 ⟨K30, rfl, hS33, (KLe.refl _), (by decide : rng64 0)⟩ ⟨rfl, rfl, rfl, trivial⟩ ?_
            rintro s125 _ w131 r134 h135 hx136 ⟨K129, rfl, hS132, hl130, hr133⟩
            refine wc_seq ?_
            refine wc_seq ?_
            refine wc_region ?_
            refine wl_val wn rfl (rv_move rfl) ?_
            refine wl_val wn rfl (rv_move rfl) ?_
            refine wl_val wn rfl (rv_lss rfl rfl) ?_
            refine wl_nil ?_
            refine qe_seq ?_
            refine wc_cond rfl (fun hb137 => ?_) (fun hb137 => ?_)
            · have h138 := cond_t hb137 h135
              refine wc_skip ?_
              refine qe_seq ?_
              refine wc_seq ?_
              refine wc_block ?_
              refine wc_seq ?_
              refine wc_quiet mixed (by kernel_rfl) hS132 ?_
              refine wq_val wn rfl (fun _ _ => (rv_move rfl)) ?_
              refine wq_val wn rfl (fun _ _ => (rv_move rfl)) ?_
              obtain ⟨x139, hx140, h141⟩ := Option.bind_eq_some_iff.1 h138
              refine wq_indexAddr (t := tGHit) wn rfl Try.underlying68 tf72 rfl rfl (SliceAt.mono ((hl18.trans hl31).trans hl130) hs4) hx140 ?_
              intro b142 o143 u144 hu145 ha146
              obtain ⟨rfl, hr147, hr148⟩ := hu145
              have ha149 : AtK _ b142 o143 [.int .i64 x139.Doc, .int .i64 x139.Points] := ha146
              refine wq_val wn rfl (fun _ _ => (rv_fieldAddr ff72_0 rfl)) ?_
              refine wq_val wn rfl (rq_load1 tf3 rfl (ha149 0 _ rfl)) ?_
              refine wq_val wn rfl (fun _ _ => (rv_move rfl)) ?_
              refine wq_val wn rfl (fun _ _ => (rv_move rfl)) ?_
              obtain ⟨x150, hx151, h152⟩ := Option.bind_eq_some_iff.1 h141
              refine wq_indexAddr (t := tGHit) wn rfl Try.underlying68 tf72 rfl rfl (SliceAt.mono ((hl18.trans hl31).trans hl130) hs4) hx151 ?_
              intro b153 o154 u155 hu156 ha157
              obtain ⟨rfl, hr158, hr159⟩ := hu156
              have ha160 : AtK _ b153 o154 [.int .i64 x150.Doc, .int .i64 x150.Points] := ha157
              refine wq_val wn rfl (fun _ _ => (rv_fieldAddr ff72_0 rfl)) ?_
              refine wq_val wn rfl (rq_load1 tf3 rfl (ha160 0 _ rfl)) ?_
              refine wq_val wn rfl (fun _ _ => (rv_eql rfl rfl)) ?_
              refine wq_nil ?_
              rintro w162 ⟨K161, hS163, hl164⟩
              refine qe_seq ?_
              refine wc_cond rfl (fun hb165 => ?_) (fun hb165 => ?_)
              · have h166 := cond_t hb165 h152
                refine wc_seq ?_
                refine wc_region ?_
                refine wl_val wn rfl (rv_assign (v := .bool false) rfl) ?_
                refine wl_nil ?_
                refine qe_seq ?_
                refine wc_ret ?_
                refine qe_block_ret ?_
                refine qe_then_ret ?_
                refine qe_then_ret ?_
                obtain rfl := Option.some.inj h166
                have e167 := hx136 _ rfl
                subst e167
                refine qe_block_ret ?_
                refine qe_then_ret ?_
                obtain rfl := Option.some.inj h128
                refine qe_block_ret ?_
                refine qe_then_ret ?_
                refine qe_then_ret ?_
                obtain rfl := Option.some.inj h119
                have e168 := hx24 _ rfl
                subst e168
                refine qe_block_ret ?_
                refine qe_then_ret ?_
                obtain rfl := Option.some.inj h16
                refine qe_then_ret ?_
                obtain rfl := Option.some.inj h7
                exact qe_ret (vs := [_]) Try.results88 ⟨rfl, trivial⟩ ⟨K161, rfl, hS163⟩
              · have h166 := cond_f hb165 h152
                refine wc_skip ?_
                refine qe_block ?_
                refine qe_seq ?_
                refine wc_region ?_
                refine wl_val wn rfl (rv_move rfl) ?_
                refine wl_val wn rfl (rv_add rfl rfl) ?_
                refine wl_val wn rfl (rv_assign rfl) ?_
                refine wl_nil ?_
                obtain rfl := Option.some.inj h166
                exact qe_mid' ⟨_, rfl, K161, rfl, hS163, (hl130.trans hl164), (w64_rng _)⟩ ⟨rfl, rfl, rfl, trivial⟩
            · have h138 := cond_f hb137 h135
              refine wc_exit ?_
              refine qe_then_exit ?_
              refine qe_then_exit ?_
              obtain rfl := Option.some.inj h138
              have e169 := hx136 _ rfl
              subst e169
              refine qe_block_eq ?_
              obtain rfl := Option.some.inj h128
              exact qe_mid' ⟨_, K129, rfl, rfl, hS132, hl130⟩ ⟨rfl, rfl, trivial⟩
          · rintro _ w123 ⟨s120, K121, rfl, rfl, hS124, hl122⟩
            refine qe_block ?_
            refine qe_seq ?_
            refine wc_region ?_
            refine wl_val wn rfl (rv_move rfl) ?_
            refine wl_val wn rfl (rv_add rfl rfl) ?_
            refine wl_val wn rfl (rv_assign rfl) ?_
            refine wl_nil ?_
            obtain rfl := Option.some.inj h119
            exact qe_mid' ⟨_, rfl, K121, rfl, hS124, ((hl18.trans hl31).trans hl122), (w64_rng _)⟩ ⟨rfl, rfl, trivial⟩
    · have h26 := cond_f hb25 h23
      refine wc_exit ?_
      refine qe_then_exit ?_
      refine qe_then_exit ?_
      obtain rfl := Option.some.inj h26
      have e173 := hx24 _ rfl
      subst e173
      refine qe_block_eq ?_
      obtain rfl := Option.some.inj h16
      exact qe_mid' ⟨_, K17, rfl, rfl, hS20, hl18⟩ ⟨rfl, trivial⟩
  · rintro _ w11 ⟨s8, K9, rfl, rfl, hS12, hl10⟩
    refine qe_seq ?_
    refine wc_seq ?_
    refine wc_region ?_
    refine wl_val wn rfl (rv_move rfl) ?_
    refine wl_val wn rfl (rv_len (t := tGHit) Try.underlying68 rfl (SliceAt.mono hl10 hs4)) ?_
    refine wl_val wn rfl (rv_leq rfl rfl) ?_
    refine wl_val wn rfl (rv_assign rfl) ?_
    refine wl_nil ?_
    refine qe_seq ?_
    refine wc_ret ?_
    obtain rfl := Option.some.inj h7
    exact qe_ret (vs := [_]) Try.results88 ⟨rfl, trivial⟩ ⟨K9, rfl, hS12⟩

theorem ok_spec_l8Has (F : Nat) {w : World} {K : KMap} {a1 : Option Addr} {n2 c3 : Nat} {p0_list : List Int} {p1_n : Int} {r : Bool} (hS : SH w K [] w K []) (hs4 : SliceAt tInt K a1 n2 c3 p0_list) (hr5 : rng64 p1_n) (hm : M.spec_l8Has F p0_list p1_n = some r) :
    Calls Try.prog 89 #[.slice a1 n2 c3, .int .i64 p1_n] w fun e w' => ∃ (K' : KMap), e = .returned (.bool r) ∧ SH w K [] w' K' [] := by
  rw [M.spec_l8Has] at hm
  refine calls_in Try.func89 rfl Try.ntmps89 rfl ?_
  refine wc_seq ?_
  refine wc_region ?_
  refine wl_val wn rfl (rv_assign (v := .bool false) rfl) ?_
  refine wl_nil ?_
  refine qe_seq ?_
  refine wc_seq ?_
  refine wc_seq ?_
  refine wc_region ?_
  refine wl_val wn rfl (rv_assign (v := .int .i64 0) rfl) ?_
  refine wl_nil ?_
  refine qe_seq ?_
  obtain ⟨o6, h7, h8⟩ := Option.bind_eq_some_iff.1 hm
  refine wc_cutg (fun E' w' => ∃ (s9 : Unit) (K10 : KMap), o6 = .inl s9 ∧ E' = [] ∧ SH w K [] w' K10 [] ∧ KLe K K10) ?_ ?_
  · refine wc_block ?_
    obtain ⟨r15, h16, h17⟩ := Option.bind_eq_some_iff.1 h7
    refine wc_while' (fun (s14 : Int) E' w' => ∃ (K18 : KMap), E' = [(0, .slice a1 n2 c3), (1, .int .i64 p1_n), (5, .int .i64 s14)] ∧ SH w K [] w' K18 [] ∧ KLe K K18 ∧ rng64 s14) h16 ⟨K, rfl, hS, (KLe.refl _), (by decide : rng64 0)⟩ ⟨rfl, rfl, rfl, trivial⟩ ?_
    rintro s14 _ w20 r23 h24 hx25 ⟨K18, rfl, hS21, hl19, hr22⟩
    refine wc_seq ?_
    refine wc_seq ?_
    refine wc_region ?_
    refine wl_val wn rfl (rv_move rfl) ?_
    refine wl_val wn rfl (rv_move rfl) ?_
    refine wl_val wn rfl (rv_len (t := tInt) Try.underlying120 rfl (SliceAt.mono hl19 hs4)) ?_
    refine wl_val wn rfl (rv_lss rfl rfl) ?_
    refine wl_nil ?_
    refine qe_seq ?_
    refine wc_cond rfl (fun hb26 => ?_) (fun hb26 => ?_)
    · have h27 := cond_t hb26 h24
      refine wc_skip ?_
      refine qe_seq ?_
      refine wc_seq ?_
      refine wc_block ?_
      refine wc_seq ?_
      refine wc_region ?_
      refine wl_val wn rfl (rv_move rfl) ?_
      refine wl_val wn rfl (rv_move rfl) ?_
      obtain ⟨x28, hx29, h30⟩ := Option.bind_eq_some_iff.1 h27
      refine wl_indexAddr (t := tInt) wn rfl Try.underlying120 tf3 rfl rfl (SliceAt.mono hl19 hs4) hx29 ?_
      intro b31 o32 u33 hu34 ha35
      obtain ⟨rfl, hr36⟩ := hu34
      have ha37 : AtK _ b31 o32 [.int .i64 x28] := ha35
      refine wl_val wn rfl (rv_load1 tf3 rfl hS21 (ha37 0 _ rfl)) ?_
      refine wl_val wn rfl (rv_move rfl) ?_
      refine wl_val wn rfl (rv_eql rfl rfl) ?_
      refine wl_nil ?_
      refine qe_seq ?_
      refine wc_cond rfl (fun hb38 => ?_) (fun hb38 => ?_)
      · have h39 := cond_t hb38 h30
        refine wc_seq ?_
        refine wc_region ?_
        refine wl_val wn rfl (rv_assign (v := .bool true) rfl) ?_
        refine wl_nil ?_
        refine qe_seq ?_
        refine wc_ret ?_
        refine qe_block_ret ?_
        refine qe_then_ret ?_
        refine qe_then_ret ?_
        obtain rfl := Option.some.inj h39
        have e40 := hx25 _ rfl
        subst e40
        refine qe_block_ret ?_
        refine qe_then_ret ?_
        obtain rfl := Option.some.inj h17
        refine qe_then_ret ?_
        obtain rfl := Option.some.inj h8
        exact qe_ret (vs := [_]) Try.results89 ⟨rfl, trivial⟩ ⟨K18, rfl, hS21⟩
      · have h39 := cond_f hb38 h30
        refine wc_skip ?_
        refine qe_block ?_
        refine qe_seq ?_
        refine wc_region ?_
        refine wl_val wn rfl (rv_move rfl) ?_
        refine wl_val wn rfl (rv_add rfl rfl) ?_
        refine wl_val wn rfl (rv_assign rfl) ?_
        refine wl_nil ?_
        obtain rfl := Option.some.inj h39
        exact qe_mid' ⟨_, rfl, K18, rfl, hS21, hl19, (w64_rng _)⟩ ⟨rfl, rfl, rfl, trivial⟩
    · have h27 := cond_f hb26 h24
      refine wc_exit ?_
      refine qe_then_exit ?_
      refine qe_then_exit ?_
      obtain rfl := Option.some.inj h27
      have e41 := hx25 _ rfl
      subst e41
      refine qe_block_eq ?_
      obtain rfl := Option.some.inj h17
      exact qe_mid' ⟨_, K18, rfl, rfl, hS21, hl19⟩ trivial
  · rintro _ w12 ⟨s9, K10, rfl, rfl, hS13, hl11⟩
    refine qe_seq ?_
    refine wc_seq ?_
    refine wc_region ?_
    refine wl_val wn rfl (rv_assign (v := .bool false) rfl) ?_
    refine wl_nil ?_
    refine qe_seq ?_
    refine wc_ret ?_
    obtain rfl := Option.some.inj h8
    exact qe_ret (vs := [_]) Try.results89 ⟨rfl, trivial⟩ ⟨K10, rfl, hS13⟩

set_option maxHeartbeats 2000000 in
theorem ok_spec_TopMerge (F : Nat) {w : World} {K : KMap} {a1 : Option Addr} {n2 c3 : Nat} {p0_lists : List (List GHit)} {p1_most : Int} {r : (List GHit)} (hS : SH w K [] w K []) (hs4 : SliceAt (tSlice tGHit) K a1 n2 c3 p0_lists) (hr5 : rng64 p1_most) (hm : M.spec_TopMerge F p0_lists p1_most = some r) :
    Calls Try.prog 39 #[.slice a1 n2 c3, .int .i64 p1_most] w fun e w' => ∃ (a_1 : Option Addr) (n_2 c_3 : Nat) (K' : KMap), e = .returned (.slice a_1 n_2 c_3) ∧ SH w K [] w' K' [] ∧ SliceAt tGHit K' a_1 n_2 c_3 r := by
  rw [M.spec_TopMerge] at hm
  refine calls_in Try.func39 rfl Try.ntmps39 rfl ?_
  refine wc_seq ?_
  refine wc_region ?_
  refine wl_val wn rfl (rv_assign (v := .slice none 0 0) rfl) ?_
  refine wl_nil ?_
  refine qe_seq ?_
  refine wc_seq ?_
  refine wc_region ?_
  refine wl_buildSlice0 tGHit wn rfl Try.underlying68 tf72 hS ?_
  intro a6 w7 K8 hl9 hs10 hS11
  refine wl_val wn rfl (rv_assign rfl) ?_
  refine wl_nil ?_
  refine qe_seq ?_
  refine wc_seq ?_
  refine wc_region ?_
  refine wl_buildSlice0 tInt wn rfl Try.underlying120 tf3 hS11 ?_
  intro a12 w13 K14 hl15 hs16 hS17
  refine wl_val wn rfl (rv_assign rfl) ?_
  refine wl_nil ?_
  refine qe_seq ?_
  refine wc_seq ?_
  refine wc_seq ?_
  obtain ⟨o18, h19, h20⟩ := Option.bind_eq_some_iff.1 hm
  refine wc_cutg (fun E' w' => ∃ (K21 : KMap), E' = [(0, .slice a1 n2 c3), (1, .int .i64 p1_most), (5, .slice a6 0 0), (6, .slice a12 0 0), (18, .bool o18)] ∧ SH w K [] w' K21 [tail (.slice a6 0 0) 72 2, tail (.slice a12 0 0) 3 1] ∧ KLe K14 K21) ?_ ?_
  · refine wc_region ?_
    refine wl_val wn rfl (rv_move rfl) ?_
    obtain ⟨r25, hx26, h27⟩ := Option.bind_eq_some_iff.1 h19
    refine wl_call wn rfl (rt_call (vs := [.int .i64 p1_most, .int .i64 1, .int .i64 16]) co60 rfl) ((ok_spec_l1In F) hS17.enter0 hr5 (by decide : rng64 1) (by decide : rng64 16) hx26) ?_
    rintro e31 w29 ⟨K28, rfl, hS30⟩
    refine ⟨_, rfl, ?_⟩
    have hS32 : SH _ _ _ _ _ [_, _] := SH.call0 hS17 hS30
    refine wl_val wn rfl (rv_not rfl) ?_
    refine wl_val wn rfl (rv_move rfl) ?_
    rcases bool_tf ((!r25)) with hb33 | hb33
    · have h34 := cond_t hb33 h27
      refine wl_un (ug rfl rfl hb33) rfl ?_
      refine wl_un (ug rfl rfl hb33) rfl ?_
      refine wl_un (ug rfl rfl hb33) rfl ?_
      refine wl_val wn rfl (rv_pick_t (v := .bool true) rfl hb33 rfl) ?_
      refine wl_nil ?_
      obtain rfl := Option.some.inj h34
      have hS35 : SH _ _ _ _ _ [_, _] := SH.front (p := [_]) hS32
      exact qe_mid' ⟨K28, rfl, hS35, hS30.le⟩ ⟨rfl, rfl, rfl, rfl, rfl, trivial⟩
    · have h34 := cond_f hb33 h27
      refine wl_val (wg rfl rfl hb33) rfl (rv_move rfl) ?_
      refine wl_val (wg rfl rfl hb33) rfl (rv_len (t := (tSlice tGHit)) Try.underlying65 rfl (SliceAt.mono ((hl9.trans hl15).trans hS30.le) hs4)) ?_
      refine wl_val (wg rfl rfl hb33) rfl (rv_gtr rfl rfl) ?_
      refine wl_val wn rfl (rv_pick_f rfl hb33 rfl) ?_
      refine wl_nil ?_
      obtain rfl := Option.some.inj h34
      have hS36 : SH _ _ _ _ _ [_, _] := SH.front (p := [_]) hS32
      exact qe_mid' ⟨K28, rfl, hS36, hS30.le⟩ ⟨rfl, rfl, rfl, rfl, rfl, trivial⟩
  · rintro _ w23 ⟨K21, rfl, hS24, hl22⟩
    refine qe_seq ?_
    refine wc_cond rfl (fun hb37 => ?_) (fun hb37 => ?_)
    · have h38 := cond_t hb37 h20
      refine wc_seq ?_
      refine wc_region ?_
      refine wl_val wn rfl (rv_assign (v := .slice none 0 0) rfl) ?_
      refine wl_nil ?_
      refine qe_seq ?_
      refine wc_ret ?_
      refine qe_then_ret ?_
      obtain rfl := Option.some.inj h38
      have hS39 : SH _ _ _ _ _ [] := SH.sublist hS24 (.cons _ (.cons _ .slnil))
      exact qe_ret (vs := [_]) Try.results39 ⟨rfl, trivial⟩ ⟨none, 0, 0, K21, rfl, hS39, (SliceAt.nil _ _)⟩
    · have h38 := cond_f hb37 h20
      refine wc_skip ?_
      refine qe_seq ?_
      refine wc_seq ?_
      refine wc_seq ?_
      refine wc_region ?_
      refine wl_val wn rfl (rv_assign (v := .int .i64 0) rfl) ?_
      refine wl_nil ?_
      refine qe_seq ?_
      obtain ⟨o40, h41, h42⟩ := Option.bind_eq_some_iff.1 h38
      refine wc_cutg (fun E' w' => ∃ (s43 : (List GHit)) (a48 : Option Addr) (n49 c50 : Nat) (K44 : KMap), o40 = .inl s43 ∧ E' = [(5, .slice a48 n49 c50)] ∧ SH w K [] w' K44 [] ∧ KLe K21 K44 ∧ SliceAt tGHit K44 a48 n49 c50 s43) ?_ ?_
      · refine wc_block ?_
        obtain ⟨r53, h54, h55⟩ := Option.bind_eq_some_iff.1 h41
        have hS69 : SH _ _ _ _ _ [_] := SH.sublist hS24 (.cons _ (.cons_cons _ .slnil))
        refine wc_while' (fun (s52 : (List GHit) × (List Int) × Int) E' w' => ∃ (a60 : Option Addr) (n61 c62 : Nat) (a64 : Option Addr) (n65 c66 : Nat) (K56 : KMap), E' = [(0, .slice a1 n2 c3), (1, .int .i64 p1_most), (5, .slice a60 n61 c62), (6, .slice a64 n65 c66), (7, .int .i64 s52.2.2)] ∧ SH w K [] w' K56 [tail (.slice a64 n65 c66) 3 1] ∧ KLe K21 K56 ∧ SliceAt tGHit K56 a60 n61 c62 s52.1 ∧ SliceAt tInt K56 a64 n65 c66 s52.2.1 ∧ rng64 s52.2.2) h54 ⟨a6, 0, 0, a12, 0, 0, K21, rfl, hS69, (KLe.refl _), (SliceAt.mono (hl15.trans hl22) hs10), (SliceAt.mono hl22 hs16), (by decide : rng64 0)⟩ ⟨rfl, rfl, rfl, rfl, rfl, trivial⟩ ?_
        rintro s52 _ w58 r70 h71 hx72 ⟨a60, n61, c62, a64, n65, c66, K56, rfl, hS59, hl57, hs63, hs67, hr68⟩
        refine wc_seq ?_
        refine wc_seq ?_
        refine wc_region ?_
        refine wl_val wn rfl (rv_move rfl) ?_
        refine wl_val wn rfl (rv_move rfl) ?_
        refine wl_val wn rfl (rv_len (t := (tSlice tGHit)) Try.underlying65 rfl (SliceAt.mono (((hl9.trans hl15).trans hl22).trans hl57) hs4)) ?_
        refine wl_val wn rfl (rv_lss rfl rfl) ?_
        refine wl_nil ?_
        refine qe_seq ?_
        refine wc_cond rfl (fun hb73 => ?_) (fun hb73 => ?_)
        · have h74 := cond_t hb73 h71
          refine wc_skip ?_
          refine qe_seq ?_
          refine wc_seq ?_
          refine wc_block ?_
          refine wc_seq ?_
          refine wc_seq ?_
          refine wc_region ?_
          refine wl_val wn rfl (rv_move rfl) ?_
          refine wl_val wn rfl (rv_move rfl) ?_
          obtain ⟨x75, hx76, h77⟩ := Option.bind_eq_some_iff.1 h74
          refine wl_indexAddr (t := (tSlice tGHit)) wn rfl Try.underlying65 tf68 rfl rfl (SliceAt.mono (((hl9.trans hl15).trans hl22).trans hl57) hs4) hx76 ?_
          intro b78 o79 u80 hu81 ha82
          obtain ⟨a83, n84, c85, rfl, hs86⟩ := hu81
          have ha87 : AtK _ b78 o79 [.slice a83 n84 c85] := ha82
          refine wl_val wn rfl (rv_load1 tf68 rfl hS59 (ha87 0 _ rfl)) ?_
          obtain ⟨r88, hx89, h90⟩ := Option.bind_eq_some_iff.1 h77
          refine wl_call wn rfl (rt_call (vs := [.slice a83 n84 c85]) co88 rfl) ((ok_spec_l13Ok F) hS59.enter0 hs86 hx89) ?_
          rintro e94 w92 ⟨K91, rfl, hS93⟩
          refine ⟨_, rfl, ?_⟩
          have hS95 : SH _ _ _ _ _ [_] := SH.call0 hS59 hS93
          refine wl_val wn rfl (rv_not rfl) ?_
          refine wl_nil ?_
          refine qe_seq ?_
          refine wc_cond rfl (fun hb96 => ?_) (fun hb96 => ?_)
          · have h97 := cond_t hb96 h90
            refine wc_seq ?_
            refine wc_region ?_
            refine wl_val wn rfl (rv_assign (v := .slice none 0 0) rfl) ?_
            refine wl_nil ?_
            refine qe_seq ?_
            refine wc_ret ?_
            refine qe_then_ret ?_
            refine qe_block_ret ?_
            refine qe_then_ret ?_
            refine qe_then_ret ?_
            obtain rfl := Option.some.inj h97
            have e98 := hx72 _ rfl
            subst e98
            refine qe_block_ret ?_
            refine qe_then_ret ?_
            obtain rfl := Option.some.inj h55
            refine qe_then_ret ?_
            obtain rfl := Option.some.inj h42
            have hS99 : SH _ _ _ _ _ [] := SH.sublist hS95 (.cons _ .slnil)
            exact qe_ret (vs := [_]) Try.results39 ⟨rfl, trivial⟩ ⟨none, 0, 0, K91, rfl, hS99, (SliceAt.nil _ _)⟩
          · have h97 := cond_f hb96 h90
            refine wc_skip ?_
            refine qe_seq ?_
            refine wc_seq ?_
            refine wc_region ?_
            refine wl_val wn rfl (rv_assign (v := .int .i64 0) rfl) ?_
            refine wl_nil ?_
            refine qe_seq ?_
            obtain ⟨o100, h101, h102⟩ := Option.bind_eq_some_iff.1 h97
            refine wc_cutg (fun E' w' => ∃ (s103 : (List GHit) × (List Int)) (a108 : Option Addr) (n109 c110 : Nat) (a112 : Option Addr) (n113 c114 : Nat) (K104 : KMap), o100 = .inl s103 ∧ E' = [(0, .slice a1 n2 c3), (1, .int .i64 p1_most), (5, .slice a108 n109 c110), (6, .slice a112 n113 c114), (7, .int .i64 s52.2.2)] ∧ SH w K [] w' K104 [tail (.slice a112 n113 c114) 3 1] ∧ KLe K91 K104 ∧ SliceAt tGHit K104 a108 n109 c110 s103.1 ∧ SliceAt tInt K104 a112 n113 c114 s103.2) ?_ ?_
            · refine wc_block ?_
              obtain ⟨r117, h118, h119⟩ := Option.bind_eq_some_iff.1 h101
              refine wc_while' (fun (s116 : (List GHit) × (List Int) × Int) E' w' => ∃ (a124 : Option Addr) (n125 c126 : Nat) (a128 : Option Addr) (n129 c130 : Nat) (K120 : KMap), E' = [(0, .slice a1 n2 c3), (1, .int .i64 p1_most), (5, .slice a124 n125 c126), (6, .slice a128 n129 c130), (7, .int .i64 s52.2.2), (8, .int .i64 s116.2.2)] ∧ SH w K [] w' K120 [tail (.slice a128 n129 c130) 3 1] ∧ KLe K91 K120 ∧ SliceAt tGHit K120 a124 n125 c126 s116.1 ∧ SliceAt tInt K120 a128 n129 c130 s116.2.1 ∧ rng64 s116.2.2) h118 ⟨a60, n61, c62, a64, n65, c66, K91, rfl, hS95, (KLe.refl _), (SliceAt.mono hS93.le hs63), (SliceAt.mono hS93.le hs67), (by decide : rng64 0)⟩ ⟨rfl, rfl, rfl, rfl, rfl, rfl, trivial⟩ ?_
              rintro s116 _ w122 r133 h134 hx135 ⟨a124, n125, c126, a128, n129, c130, K120, rfl, hS123, hl121, hs127, hs131, hr132⟩
              refine wc_seq ?_
              refine wc_seq ?_
              refine wc_region ?_
              refine wl_val wn rfl (rv_move rfl) ?_
              refine wl_val wn rfl (rv_move rfl) ?_
              refine wl_val wn rfl (rv_move rfl) ?_
              obtain ⟨x136, hx137, h138⟩ := Option.bind_eq_some_iff.1 h134
              refine wl_indexAddr (t := (tSlice tGHit)) wn rfl Try.underlying65 tf68 rfl rfl (SliceAt.mono (((((hl9.trans hl15).trans hl22).trans hl57).trans hS93.le).trans hl121) hs4) hx137 ?_
              intro b139 o140 u141 hu142 ha143
              obtain ⟨a144, n145, c146, rfl, hs147⟩ := hu142
              have ha148 : AtK _ b139 o140 [.slice a144 n145 c146] := ha143
              refine wl_val wn rfl (rv_load1 tf68 rfl hS123 (ha148 0 _ rfl)) ?_
              refine wl_val wn rfl (rv_len (t := tGHit) Try.underlying68 rfl hs147) ?_
              refine wl_val wn rfl (rv_lss rfl rfl) ?_
              refine wl_nil ?_
              refine qe_seq ?_
              refine wc_cond rfl (fun hb149 => ?_) (fun hb149 => ?_)
              · have h150 := cond_t hb149 h138
                refine wc_skip ?_
                refine qe_seq ?_
                refine wc_seq ?_
                refine wc_block ?_
                refine wc_seq ?_
                refine wc_seq ?_
                refine wc_region ?_
                refine wl_val wn rfl (rv_move rfl) ?_
                refine wl_val wn rfl (rv_move rfl) ?_
                refine wl_val wn rfl (rv_move rfl) ?_
                obtain ⟨x151, hx152, h153⟩ := Option.bind_eq_some_iff.1 h150
                refine wl_indexAddr (t := (tSlice tGHit)) wn rfl Try.underlying65 tf68 rfl rfl (SliceAt.mono (((((hl9.trans hl15).trans hl22).trans hl57).trans hS93.le).trans hl121) hs4) hx152 ?_
                intro b154 o155 u156 hu157 ha158
                obtain ⟨a159, n160, c161, rfl, hs162⟩ := hu157
                have ha163 : AtK _ b154 o155 [.slice a159 n160 c161] := ha158
                refine wl_val wn rfl (rv_load1 tf68 rfl hS123 (ha163 0 _ rfl)) ?_
                refine wl_val wn rfl (rv_move rfl) ?_
                obtain ⟨x164, hx165, h166⟩ := Option.bind_eq_some_iff.1 h153
                refine wl_indexAddr (t := tGHit) wn rfl Try.underlying68 tf72 rfl rfl hs162 hx165 ?_
                intro b167 o168 u169 hu170 ha171
                obtain ⟨rfl, hr172, hr173⟩ := hu170
                have ha174 : AtK _ b167 o168 [.int .i64 x164.Doc, .int .i64 x164.Points] := ha171
                refine wl_val wn rfl (rv_fieldAddr ff72_0 rfl) ?_
                refine wl_val wn rfl (rv_load1 tf3 rfl hS123 (ha174 0 _ rfl)) ?_
                obtain ⟨r175, hx176, h177⟩ := Option.bind_eq_some_iff.1 h166
                refine wl_call wn rfl (rt_call (vs := [.slice a128 n129 c130, .int .i64 x164.Doc]) co89 rfl) ((ok_spec_l8Has F) hS123.enter0 hs131 hr172 hx176) ?_
                rintro e181 w179 ⟨K178, rfl, hS180⟩
                refine ⟨_, rfl, ?_⟩
                have hS182 : SH _ _ _ _ _ [_] := SH.call0 hS123 hS180
                refine wl_nil ?_
                refine qe_seq ?_
                refine wc_cond rfl (fun hb183 => ?_) (fun hb183 => ?_)
                · have h184 := cond_t hb183 h177
                  refine wc_seq ?_
                  refine wc_region ?_
                  refine wl_val wn rfl (rv_assign (v := .slice none 0 0) rfl) ?_
                  refine wl_nil ?_
                  refine qe_seq ?_
                  refine wc_ret ?_
                  refine qe_then_ret ?_
                  refine qe_block_ret ?_
                  refine qe_then_ret ?_
                  refine qe_then_ret ?_
                  obtain rfl := Option.some.inj h184
                  have e185 := hx135 _ rfl
                  subst e185
                  refine qe_block_ret ?_
                  refine qe_then_ret ?_
                  obtain rfl := Option.some.inj h119
                  refine qe_block_ret ?_
                  refine qe_then_ret ?_
                  refine qe_then_ret ?_
                  obtain rfl := Option.some.inj h102
                  have e186 := hx72 _ rfl
                  subst e186
                  refine qe_block_ret ?_
                  refine qe_then_ret ?_
                  obtain rfl := Option.some.inj h55
                  refine qe_then_ret ?_
                  obtain rfl := Option.some.inj h42
                  have hS187 : SH _ _ _ _ _ [] := SH.sublist hS182 (.cons _ .slnil)
                  exact qe_ret (vs := [_]) Try.results39 ⟨rfl, trivial⟩ ⟨none, 0, 0, K178, rfl, hS187, (SliceAt.nil _ _)⟩
                · have h184 := cond_f hb183 h177
                  refine wc_skip ?_
                  refine qe_seq ?_
                  refine wc_seq ?_
                  refine wc_region ?_
                  refine wl_val wn rfl (rv_move rfl) ?_
                  refine wl_val wn rfl (rv_move rfl) ?_
                  refine wl_val wn rfl (rv_move rfl) ?_
                  obtain ⟨x188, hx189, h190⟩ := Option.bind_eq_some_iff.1 h184
                  refine wl_indexAddr (t := (tSlice tGHit)) wn rfl Try.underlying65 tf68 rfl rfl (SliceAt.mono ((((((hl9.trans hl15).trans hl22).trans hl57).trans hS93.le).trans hl121).trans hS180.le) hs4) hx189 ?_
                  intro b191 o192 u193 hu194 ha195
                  obtain ⟨a196, n197, c198, rfl, hs199⟩ := hu194
                  have ha200 : AtK _ b191 o192 [.slice a196 n197 c198] := ha195
                  refine wl_val wn rfl (rv_load1 tf68 rfl hS182 (ha200 0 _ rfl)) ?_
                  refine wl_val wn rfl (rv_move rfl) ?_
                  obtain ⟨x201, hx202, h203⟩ := Option.bind_eq_some_iff.1 h190
                  refine wl_indexAddr (t := tGHit) wn rfl Try.underlying68 tf72 rfl rfl hs199 hx202 ?_
                  intro b204 o205 u206 hu207 ha208
                  obtain ⟨rfl, hr209, hr210⟩ := hu207
                  have ha211 : AtK _ b204 o205 [.int .i64 x201.Doc, .int .i64 x201.Points] := ha208
                  refine wl_val wn rfl (rv_fieldAddr ff72_0 rfl) ?_
                  refine wl_val wn rfl (rv_load1 tf3 rfl hS182 (ha211 0 _ rfl)) ?_
                  refine wl_buildSlice (t := tInt) (n := 1) (pv := [(0, .int .i64 x201.Doc)]) (cs := [.int .i64 x201.Doc]) (xs := [x201.Doc]) wn rfl Try.underlying120 tf3 rfl rfl rfl (by kernel_rfl) rfl rfl (lit_cons (u := .int .i64 x201.Doc) (z := x201.Doc) ⟨rfl, hr209⟩ lit_nil) hS182 ?_
                  intro a212 w213 K214 hl215 hs216 hS217
                  have hS218 : SH _ _ _ _ _ [_, _] := SH.front (p := [_]) hS217
                  obtain ⟨x219, hx220, h221⟩ := Option.bind_eq_some_iff.1 h203
                  refine wl_append (t := tInt) wn rfl Try.underlying120 tf3 rfl rfl rfl rfl rfl (SliceAt.mono (hS180.le.trans hl215) hs131) hs216 hx220 hS218 ?_
                  intro a222 n223 c224 w225 K226 hl227 hs228 hS229
                  refine wl_val wn rfl (rv_assign rfl) ?_
                  refine wl_nil ?_
                  refine qe_seq ?_
                  refine wc_region ?_
                  refine wl_val wn rfl (rv_move rfl) ?_
                  refine wl_val wn rfl (rv_move rfl) ?_
                  refine wl_val wn rfl (rv_move rfl) ?_
                  obtain ⟨x230, hx231, h232⟩ := Option.bind_eq_some_iff.1 h221
                  refine wl_indexAddr (t := (tSlice tGHit)) wn rfl Try.underlying65 tf68 rfl rfl (SliceAt.mono ((((((((hl9.trans hl15).trans hl22).trans hl57).trans hS93.le).trans hl121).trans hS180.le).trans hl215).trans hl227) hs4) hx231 ?_
                  intro b233 o234 u235 hu236 ha237
                  obtain ⟨a238, n239, c240, rfl, hs241⟩ := hu236
                  have ha242 : AtK _ b233 o234 [.slice a238 n239 c240] := ha237
                  refine wl_val wn rfl (rv_load1 tf68 rfl hS229 (ha242 0 _ rfl)) ?_
                  refine wl_val wn rfl (rv_move rfl) ?_
                  obtain ⟨x243, hx244, h245⟩ := Option.bind_eq_some_iff.1 h232
                  refine wl_indexAddr (t := tGHit) wn rfl Try.underlying68 tf72 rfl rfl hs241 hx244 ?_
                  intro b246 o247 u248 hu249 ha250
                  obtain ⟨rfl, hr251, hr252⟩ := hu249
                  have ha253 : AtK _ b246 o247 [.int .i64 x243.Doc, .int .i64 x243.Points] := ha250
                  refine wl_val wn rfl (rv_loadS (cs := [.int .i64 x243.Doc, .int .i64 x243.Points]) tf72 rfl hS229 ha253 rfl) ?_
                  refine wl_val wn rfl (rv_move rfl) ?_
                  obtain ⟨r254, hx255, h256⟩ := Option.bind_eq_some_iff.1 h245
                  refine wl_call wn rfl (rt_call (vs := [.slice a124 n125 c126, .agg #[.int .i64 x243.Doc, .int .i64 x243.Points], .int .i64 p1_most]) co90 rfl) ((ok_spec_l13Push F) hS229.enter0 (SliceAt.mono ((hS180.le.trans hl215).trans hl227) hs127) hr251 hr252 hr5 hx255) ?_
                  rintro e264 w258 ⟨a260, n261, c262, K257, rfl, hS259, hs263⟩
                  refine ⟨_, rfl, ?_⟩
                  have hS265 : SH _ _ _ _ _ [_, _] := SH.call0 hS229 hS259
                  refine wl_val wn rfl (rv_assign rfl) ?_
                  refine wl_nil ?_
                  refine qe_block ?_
                  refine qe_seq ?_
                  refine wc_region ?_
                  refine wl_val wn rfl (rv_move rfl) ?_
                  refine wl_val wn rfl (rv_add rfl rfl) ?_
                  refine wl_val wn rfl (rv_assign rfl) ?_
                  refine wl_nil ?_
                  obtain rfl := Option.some.inj h256
                  have hS266 : SH _ _ _ _ _ [_] := SH.sublist hS265 (.cons_cons _ (.cons _ .slnil))
                  exact qe_mid' ⟨_, rfl, a260, n261, c262, a222, n223, c224, K257, rfl, hS266, ((((hl121.trans hS180.le).trans hl215).trans hl227).trans hS259.le), hs263, (SliceAt.mono hS259.le hs228), (w64_rng _)⟩ ⟨rfl, rfl, rfl, rfl, rfl, rfl, trivial⟩
              · have h150 := cond_f hb149 h138
                refine wc_exit ?_
                refine qe_then_exit ?_
                refine qe_then_exit ?_
                obtain rfl := Option.some.inj h150
                have e267 := hx135 _ rfl
                subst e267
                refine qe_block_eq ?_
                obtain rfl := Option.some.inj h119
                exact qe_mid' ⟨_, a124, n125, c126, a128, n129, c130, K120, rfl, rfl, hS123, hl121, hs127, hs131⟩ ⟨rfl, rfl, rfl, rfl, rfl, trivial⟩
            · rintro _ w106 ⟨s103, a108, n109, c110, a112, n113, c114, K104, rfl, rfl, hS107, hl105, hs111, hs115⟩
              refine qe_block ?_
              refine qe_seq ?_
              refine wc_region ?_
              refine wl_val wn rfl (rv_move rfl) ?_
              refine wl_val wn rfl (rv_add rfl rfl) ?_
              refine wl_val wn rfl (rv_assign rfl) ?_
              refine wl_nil ?_
              obtain rfl := Option.some.inj h102
              exact qe_mid' ⟨_, rfl, a108, n109, c110, a112, n113, c114, K104, rfl, hS107, ((hl57.trans hS93.le).trans hl105), hs111, hs115, (w64_rng _)⟩ ⟨rfl, rfl, rfl, rfl, rfl, trivial⟩
        · have h74 := cond_f hb73 h71
          refine wc_exit ?_
          refine qe_then_exit ?_
          refine qe_then_exit ?_
          obtain rfl := Option.some.inj h74
          have e271 := hx72 _ rfl
          subst e271
          refine qe_block_eq ?_
          obtain rfl := Option.some.inj h55
          have hS272 : SH _ _ _ _ _ [] := SH.sublist hS59 (.cons _ .slnil)
          exact qe_mid' ⟨_, a60, n61, c62, K56, rfl, rfl, hS272, hl57, hs63⟩ ⟨rfl, trivial⟩
      · rintro _ w46 ⟨s43, a48, n49, c50, K44, rfl, rfl, hS47, hl45, hs51⟩
        refine qe_seq ?_
        refine wc_seq ?_
        refine wc_region ?_
        refine wl_val wn rfl (rv_move rfl) ?_
        refine wl_val wn rfl (rv_assign rfl) ?_
        refine wl_nil ?_
        refine qe_seq ?_
        refine wc_ret ?_
        obtain rfl := Option.some.inj h42
        exact qe_ret (vs := [_]) Try.results39 ⟨rfl, trivial⟩ ⟨a48, n49, c50, K44, rfl, hS47, hs51⟩
end Go.Proofs.Ytajfhpaokbgmeaa
