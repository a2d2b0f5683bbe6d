/-
  Walks of the functions. Printed by gen.py.
-/
import Derived.Test.YtajfhpaokbgmeaaWalkA2
set_option linter.unusedVariables false
namespace Go.Proofs.Ytajfhpaokbgmeaa
open Go Go.Fk Go.RowKit

theorem ok_spec_l5Glob (F : Nat) : ∀ {w : World} {K : KMap} {p0_p : Str} {p1_s : Str} {r : Bool} (hS : SH w K [] w K []) (hl1 : p0_p.length ≤ maxLen) (hl2 : p1_s.length ≤ maxLen) (hm : M.spec_l5Glob F p0_p p1_s = some r),
    Calls Try.prog 69 #[sv p0_p, sv p1_s] w fun e w' => ∃ (K' : KMap), e = .returned (.bool r) ∧ SH w K [] w' K' [] := by
  induction F with
  | zero => intros; rename_i hm; rw [M.spec_l5Glob] at hm; cases hm
  | succ F ih =>
    intro w K p0_p p1_s r hS hl1 hl2 hm
    rw [M.spec_l5Glob] at hm
    refine calls_in Try.func69 rfl Try.ntmps69 rfl ?_
    refine wc_seq ?_
    refine wc_region ?_
    refine wl_val wn rfl (rv_assign (v := .bool false) rfl) ?_
    refine wl_nil ?_
    refine qe_seq ?_
    refine wc_seq ?_
    refine wc_seq ?_
    refine wc_region ?_
    refine wl_val wn rfl (rv_move rfl) ?_
    refine wl_val wn rfl (rv_seql (r := ([] : Str)) rfl rfl) ?_
    refine wl_nil ?_
    refine qe_seq ?_
    refine wc_cond rfl (fun hb3 => ?_) (fun hb3 => ?_)
    · have h4 := cond_t hb3 hm
      refine wc_seq ?_
      refine wc_region ?_
      refine wl_val wn rfl (rv_move rfl) ?_
      refine wl_val wn rfl (rv_seql (r := ([] : Str)) rfl rfl) ?_
      refine wl_val wn rfl (rv_assign rfl) ?_
      refine wl_nil ?_
      refine qe_seq ?_
      refine wc_ret ?_
      refine qe_then_ret ?_
      obtain rfl := Option.some.inj h4
      exact qe_ret (vs := [_]) Try.results69 ⟨rfl, trivial⟩ ⟨K, rfl, hS⟩
    · have h4 := cond_f hb3 hm
      refine wc_skip ?_
      refine qe_seq ?_
      refine wc_seq ?_
      refine wc_seq ?_
      refine wc_region ?_
      refine wl_val wn rfl (rv_move rfl) ?_
      obtain ⟨x5, hx6, h7⟩ := Option.bind_eq_some_iff.1 h4
      refine wl_val wn rfl (rv_sidx Try.underlying9 rfl rfl hx6) ?_
      refine wl_val wn rfl (rv_beq (b := (42 : UInt8)) rfl rfl) ?_
      refine wl_nil ?_
      refine qe_seq ?_
      refine wc_cond rfl (fun hb8 => ?_) (fun hb8 => ?_)
      · have h9 := cond_t hb8 h7
        refine wc_seq ?_
        obtain ⟨o10, h11, h12⟩ := Option.bind_eq_some_iff.1 h9
        refine wc_cutg (fun E' w' => ∃ (K13 : KMap), E' = [(4, .bool o10)] ∧ SH w K [] w' K13 [] ∧ KLe K K13) ?_ ?_
        · refine wc_region ?_
          refine wl_val wn rfl (rv_move rfl) ?_
          obtain ⟨x17, hx18, h19⟩ := Option.bind_eq_some_iff.1 h11
          refine wl_val wn rfl (rv_ssl_l Try.underlying9 rfl rfl hx18) ?_
          refine wl_val wn rfl (rv_move rfl) ?_
          obtain ⟨r20, hx21, h22⟩ := Option.bind_eq_some_iff.1 h19
          refine wl_call wn rfl (rt_call (vs := [sv x17, sv p1_s]) co69 rfl) (ih hS.enter0 (len_sub hl1 hx18) hl2 hx21) ?_
          rintro e26 w24 ⟨K23, rfl, hS25⟩
          refine ⟨_, rfl, ?_⟩
          have hS27 : SH _ _ _ _ _ [] := SH.call0 hS hS25
          refine wl_val wn rfl (rv_move rfl) ?_
          rcases bool_tf (r20) with hb28 | hb28
          · have h29 := cond_t hb28 h22
            refine wl_un (ug rfl rfl hb28) rfl ?_
            refine wl_un (ug rfl rfl hb28) rfl ?_
            refine wl_un (ug rfl rfl hb28) rfl ?_
            refine wl_un (uu rfl rfl) rfl ?_
            refine wl_un (uu rfl rfl) rfl ?_
            refine wl_un (uu rfl rfl) rfl ?_
            refine wl_un (uu rfl rfl) rfl ?_
            refine wl_un (ug rfl rfl hb28) rfl ?_
            refine wl_val wn rfl (rv_pick_t (v := .bool true) rfl hb28 rfl) ?_
            refine wl_val wn rfl (rv_assign rfl) ?_
            refine wl_nil ?_
            obtain rfl := Option.some.inj h29
            exact qe_mid' ⟨K23, rfl, hS27, hS25.le⟩ ⟨rfl, trivial⟩
          · have h29 := cond_f hb28 h22
            refine wl_val (wg rfl rfl hb28) rfl (rv_move rfl) ?_
            refine wl_val (wg rfl rfl hb28) rfl (rv_sneq (r := ([] : Str)) rfl rfl) ?_
            refine wl_val (wg rfl rfl hb28) rfl (rv_move rfl) ?_
            rcases bool_tf ((!(p1_s == ([] : Str)))) with hb30 | hb30
            · have h31 := cond_t hb30 h29
              refine wl_val (wg rfl rfl hb30) rfl (rv_move rfl) ?_
              refine wl_val (wg rfl rfl hb30) rfl (rv_move rfl) ?_
              obtain ⟨x32, hx33, h34⟩ := Option.bind_eq_some_iff.1 h31
              refine wl_val (wg rfl rfl hb30) rfl (rv_ssl_l Try.underlying9 rfl rfl hx33) ?_
              obtain ⟨r35, hx36, h37⟩ := Option.bind_eq_some_iff.1 h34
              refine wl_call (wg rfl rfl hb30) rfl (rt_call (vs := [sv p0_p, sv x32]) co69 rfl) (ih hS27.enter0 hl1 (len_sub hl2 hx33) hx36) ?_
              rintro e41 w39 ⟨K38, rfl, hS40⟩
              refine ⟨_, rfl, ?_⟩
              have hS42 : SH _ _ _ _ _ [] := SH.call0 hS27 hS40
              refine wl_val (wg rfl rfl hb28) rfl (rv_pick_t rfl hb30 rfl) ?_
              refine wl_val wn rfl (rv_pick_f rfl hb28 rfl) ?_
              refine wl_val wn rfl (rv_assign rfl) ?_
              refine wl_nil ?_
              obtain rfl := Option.some.inj h37
              exact qe_mid' ⟨K38, rfl, hS42, (hS25.le.trans hS40.le)⟩ ⟨rfl, trivial⟩
            · have h31 := cond_f hb30 h29
              refine wl_un (ug rfl rfl hb30) rfl ?_
              refine wl_un (ug rfl rfl hb30) rfl ?_
              refine wl_un (ug rfl rfl hb30) rfl ?_
              refine wl_un (ug rfl rfl hb30) rfl ?_
              refine wl_val (wg rfl rfl hb28) rfl (rv_pick_f (v := .bool false) rfl hb30 rfl) ?_
              refine wl_val wn rfl (rv_pick_f rfl hb28 rfl) ?_
              refine wl_val wn rfl (rv_assign rfl) ?_
              refine wl_nil ?_
              obtain rfl := Option.some.inj h31
              exact qe_mid' ⟨K23, rfl, hS27, hS25.le⟩ ⟨rfl, trivial⟩
        · rintro _ w15 ⟨K13, rfl, hS16, hl14⟩
          refine qe_seq ?_
          refine wc_ret ?_
          refine qe_then_ret ?_
          obtain rfl := Option.some.inj h12
          exact qe_ret (vs := [_]) Try.results69 ⟨rfl, trivial⟩ ⟨K13, rfl, hS16⟩
      · have h9 := cond_f hb8 h7
        refine wc_skip ?_
        refine qe_seq ?_
        refine wc_seq ?_
        refine wc_quiet mixed (by kernel_rfl) hS ?_
        refine wq_val wn rfl (fun _ _ => (rv_move rfl)) ?_
        refine wq_val wn rfl (fun _ _ => (rv_sneq (r := ([] : Str)) rfl rfl)) ?_
        refine wq_val wn rfl (fun _ _ => (rv_move rfl)) ?_
        rcases bool_tf ((!(p1_s == ([] : Str)))) with hb43 | hb43
        · have h44 := cond_t hb43 h9
          refine wq_val (wg rfl rfl hb43) rfl (fun _ _ => (rv_move rfl)) ?_
          obtain ⟨x45, hx46, h47⟩ := Option.bind_eq_some_iff.1 h44
          refine wq_val (wg rfl rfl hb43) rfl (fun _ _ => (rv_sidx Try.underlying9 rfl rfl hx46)) ?_
          refine wq_val (wg rfl rfl hb43) rfl (fun _ _ => (rv_beq (b := (63 : UInt8)) rfl rfl)) ?_
          refine wq_val (wg rfl rfl hb43) rfl (fun _ _ => (rv_move rfl)) ?_
          rcases bool_tf ((x45 == (63 : UInt8))) with hb48 | hb48
          · have h49 := cond_t hb48 h47
            refine wq_un (ug rfl rfl hb48) rfl ?_
            refine wq_un (ug rfl rfl hb48) rfl ?_
            refine wq_un (ug rfl rfl hb48) rfl ?_
            refine wq_un (ug rfl rfl hb48) rfl ?_
            refine wq_un (ug rfl rfl hb48) rfl ?_
            refine wq_val (wg rfl rfl hb43) rfl (fun _ _ => (rv_pick_t (v := .bool true) rfl hb48 rfl)) ?_
            refine wq_val wn rfl (fun _ _ => (rv_pick_t rfl hb43 rfl)) ?_
            refine wq_val wn rfl (fun _ _ => (rv_move rfl)) ?_
            refine wq_val (wg rfl rfl rfl) rfl (fun _ _ => (rv_move rfl)) ?_
            obtain ⟨x50, hx51, h52⟩ := Option.bind_eq_some_iff.1 h49
            refine wq_val (wg rfl rfl rfl) rfl (fun _ _ => (rv_ssl_l Try.underlying9 rfl rfl hx51)) ?_
            refine wq_val (wg rfl rfl rfl) rfl (fun _ _ => (rv_move rfl)) ?_
            obtain ⟨x53, hx54, h55⟩ := Option.bind_eq_some_iff.1 h52
            refine wq_val (wg rfl rfl rfl) rfl (fun _ _ => (rv_ssl_l Try.underlying9 rfl rfl hx54)) ?_
            obtain ⟨r56, hx57, h58⟩ := Option.bind_eq_some_iff.1 h55
            refine wq_call (v := .bool r56) (wg rfl rfl rfl) rfl (fun _ => rt_call (vs := [sv x50, sv x53]) co69 rfl) (fun w61 ⟨K59, hS60, hl62⟩ => (ih hS60.enter0 (len_sub hl1 hx51) (len_sub hl2 hx54) hx57).mono fun e w' ⟨K', he, hS'⟩ => ⟨he, K', hS60.call0 hS', hl62.trans hS'.le⟩) ?_
            refine wq_val wn rfl (fun _ _ => (rv_pick_t rfl rfl rfl)) ?_
            refine wq_val wn rfl (fun _ _ => (rv_assign rfl)) ?_
            refine wq_nil ?_
            rintro w64 ⟨K63, hS65, hl66⟩
            refine qe_seq ?_
            refine wc_ret ?_
            obtain rfl := Option.some.inj h58
            exact qe_ret (vs := [_]) Try.results69 ⟨rfl, trivial⟩ ⟨K63, rfl, hS65⟩
          · have h49 := cond_f hb48 h47
            refine wq_val (wg rfl rfl hb48) rfl (fun _ _ => (rv_move rfl)) ?_
            obtain ⟨x67, hx68, h69⟩ := Option.bind_eq_some_iff.1 h49
            refine wq_val (wg rfl rfl hb48) rfl (fun _ _ => (rv_sidx Try.underlying9 rfl rfl hx68)) ?_
            refine wq_val (wg rfl rfl hb48) rfl (fun _ _ => (rv_move rfl)) ?_
            obtain ⟨x70, hx71, h72⟩ := Option.bind_eq_some_iff.1 h69
            refine wq_val (wg rfl rfl hb48) rfl (fun _ _ => (rv_sidx Try.underlying9 rfl rfl hx71)) ?_
            refine wq_val (wg rfl rfl hb48) rfl (fun _ _ => (rv_beq rfl rfl)) ?_
            refine wq_val (wg rfl rfl hb43) rfl (fun _ _ => (rv_pick_f rfl hb48 rfl)) ?_
            refine wq_val wn rfl (fun _ _ => (rv_pick_t rfl hb43 rfl)) ?_
            refine wq_val wn rfl (fun _ _ => (rv_move rfl)) ?_
            rcases bool_tf ((x67 == x70)) with hb73 | hb73
            · have h74 := cond_t hb73 h72
              refine wq_val (wg rfl rfl hb73) rfl (fun _ _ => (rv_move rfl)) ?_
              obtain ⟨x75, hx76, h77⟩ := Option.bind_eq_some_iff.1 h74
              refine wq_val (wg rfl rfl hb73) rfl (fun _ _ => (rv_ssl_l Try.underlying9 rfl rfl hx76)) ?_
              refine wq_val (wg rfl rfl hb73) rfl (fun _ _ => (rv_move rfl)) ?_
              obtain ⟨x78, hx79, h80⟩ := Option.bind_eq_some_iff.1 h77
              refine wq_val (wg rfl rfl hb73) rfl (fun _ _ => (rv_ssl_l Try.underlying9 rfl rfl hx79)) ?_
              obtain ⟨r81, hx82, h83⟩ := Option.bind_eq_some_iff.1 h80
              refine wq_call (v := .bool r81) (wg rfl rfl hb73) rfl (fun _ => rt_call (vs := [sv x75, sv x78]) co69 rfl) (fun w86 ⟨K84, hS85, hl87⟩ => (ih hS85.enter0 (len_sub hl1 hx76) (len_sub hl2 hx79) hx82).mono fun e w' ⟨K', he, hS'⟩ => ⟨he, K', hS85.call0 hS', hl87.trans hS'.le⟩) ?_
              refine wq_val wn rfl (fun _ _ => (rv_pick_t rfl hb73 rfl)) ?_
              refine wq_val wn rfl (fun _ _ => (rv_assign rfl)) ?_
              refine wq_nil ?_
              rintro w89 ⟨K88, hS90, hl91⟩
              refine qe_seq ?_
              refine wc_ret ?_
              obtain rfl := Option.some.inj h83
              exact qe_ret (vs := [_]) Try.results69 ⟨rfl, trivial⟩ ⟨K88, rfl, hS90⟩
            · have h74 := cond_f hb73 h72
              refine wq_un (ug rfl rfl hb73) rfl ?_
              refine wq_un (ug rfl rfl hb73) rfl ?_
              refine wq_un (ug rfl rfl hb73) rfl ?_
              refine wq_un (ug rfl rfl hb73) rfl ?_
              refine wq_un (ug rfl rfl hb73) rfl ?_
              refine wq_val wn rfl (fun _ _ => (rv_pick_f (v := .bool false) rfl hb73 rfl)) ?_
              refine wq_val wn rfl (fun _ _ => (rv_assign rfl)) ?_
              refine wq_nil ?_
              rintro w93 ⟨K92, hS94, hl95⟩
              refine qe_seq ?_
              refine wc_ret ?_
              obtain rfl := Option.some.inj h74
              exact qe_ret (vs := [_]) Try.results69 ⟨rfl, trivial⟩ ⟨K92, rfl, hS94⟩
        · have h44 := cond_f hb43 h9
          refine wq_un (ug rfl rfl hb43) rfl ?_
          refine wq_un (ug rfl rfl hb43) rfl ?_
          refine wq_un (ug rfl rfl hb43) rfl ?_
          refine wq_un (ug rfl rfl hb43) rfl ?_
          refine wq_un (uu rfl rfl) rfl ?_
          refine wq_un (uu rfl rfl) rfl ?_
          refine wq_un (uu rfl rfl) rfl ?_
          refine wq_un (uu rfl rfl) rfl ?_
          refine wq_un (uu rfl rfl) rfl ?_
          refine wq_un (ug rfl rfl hb43) rfl ?_
          refine wq_val wn rfl (fun _ _ => (rv_pick_f (v := .bool false) rfl hb43 rfl)) ?_
          refine wq_val wn rfl (fun _ _ => (rv_move rfl)) ?_
          refine wq_un (ug rfl rfl rfl) rfl ?_
          refine wq_un (ug rfl rfl rfl) rfl ?_
          refine wq_un (ug rfl rfl rfl) rfl ?_
          refine wq_un (ug rfl rfl rfl) rfl ?_
          refine wq_un (ug rfl rfl rfl) rfl ?_
          refine wq_val wn rfl (fun _ _ => (rv_pick_f (v := .bool false) rfl rfl rfl)) ?_
          refine wq_val wn rfl (fun _ _ => (rv_assign rfl)) ?_
          refine wq_nil ?_
          rintro w97 ⟨K96, hS98, hl99⟩
          refine qe_seq ?_
          refine wc_ret ?_
          obtain rfl := Option.some.inj h44
          exact qe_ret (vs := [_]) Try.results69 ⟨rfl, trivial⟩ ⟨K96, rfl, hS98⟩

theorem ok_spec_GlobOf (F : Nat) {w : World} {K : KMap} {a1 : Option Addr} {n2 c3 : Nat} {p0_words : List Str} {p1_p : Str} {r : (List Str)} (hS : SH w K [] w K []) (hs4 : SliceAt tStr K a1 n2 c3 p0_words) (hl5 : p1_p.length ≤ maxLen) (hm : M.spec_GlobOf F p0_words p1_p = some r) :
    Calls Try.prog 25 #[.slice a1 n2 c3, sv p1_p] w fun e w' => ∃ (a_1 : Option Addr) (n_2 c_3 : Nat) (K' : KMap), e = .returned (.slice a_1 n_2 c_3) ∧ SH w K [] w' K' [tail (.slice a_1 n_2 c_3) 9 1] ∧ SliceAt tStr K' a_1 n_2 c_3 r := by
  rw [M.spec_GlobOf] at hm
  refine calls_in Try.func25 rfl Try.ntmps25 rfl ?_
  refine wc_seq ?_
  refine wc_region ?_
  refine wl_val wn rfl (rv_assign (v := .slice none 0 0) rfl) ?_
  refine wl_nil ?_
  refine qe_seq ?_
  refine wc_seq ?_
  refine wc_region ?_
  refine wl_buildSlice0 tStr wn rfl Try.underlying47 tf9 hS ?_
  intro a6 w7 K8 hl9 hs10 hS11
  refine wl_val wn rfl (rv_assign rfl) ?_
  refine wl_nil ?_
  refine qe_seq ?_
  refine wc_seq ?_
  refine wc_seq ?_
  obtain ⟨o12, h13, h14⟩ := Option.bind_eq_some_iff.1 hm
  refine wc_cutg (fun E' w' => ∃ (K15 : KMap), E' = [(0, .slice a1 n2 c3), (1, sv p1_p), (5, .slice a6 0 0), (15, .bool o12)] ∧ SH w K [] w' K15 [tail (.slice a6 0 0) 9 1] ∧ KLe K8 K15) ?_ ?_
  · refine wc_region ?_
    refine wl_val wn rfl (rv_move rfl) ?_
    obtain ⟨r19, hx20, h21⟩ := Option.bind_eq_some_iff.1 h13
    refine wl_call wn rfl (rt_call (vs := [.slice a1 n2 c3]) co67 rfl) ((ok_spec_l4Sorted F) hS11.enter0 (SliceAt.mono hl9 hs4) hx20) ?_
    rintro e25 w23 ⟨K22, rfl, hS24⟩
    refine ⟨_, rfl, ?_⟩
    have hS26 : SH _ _ _ _ _ [_] := SH.call0 hS11 hS24
    refine wl_val wn rfl (rv_not rfl) ?_
    refine wl_val wn rfl (rv_move rfl) ?_
    rcases bool_tf ((!r19)) with hb27 | hb27
    · have h28 := cond_t hb27 h21
      refine wl_un (ug rfl rfl hb27) rfl ?_
      refine wl_un (ug rfl rfl hb27) rfl ?_
      refine wl_un (ug rfl rfl hb27) rfl ?_
      refine wl_val wn rfl (rv_pick_t (v := .bool true) rfl hb27 rfl) ?_
      refine wl_nil ?_
      obtain rfl := Option.some.inj h28
      exact qe_mid' ⟨K22, rfl, hS26, hS24.le⟩ ⟨rfl, rfl, rfl, rfl, trivial⟩
    · have h28 := cond_f hb27 h21
      refine wl_val (wg rfl rfl hb27) rfl (rv_move rfl) ?_
      obtain ⟨r29, hx30, h31⟩ := Option.bind_eq_some_iff.1 h28
      refine wl_call (wg rfl rfl hb27) rfl (rt_call (vs := [sv p1_p]) co68 rfl) ((ok_spec_l5GlobOk F) hS26.enter0 hl5 hx30) ?_
      rintro e35 w33 ⟨K32, rfl, hS34⟩
      refine ⟨_, rfl, ?_⟩
      have hS36 : SH _ _ _ _ _ [_] := SH.call0 hS26 hS34
      refine wl_val (wg rfl rfl hb27) rfl (rv_not rfl) ?_
      refine wl_val wn rfl (rv_pick_f rfl hb27 rfl) ?_
      refine wl_nil ?_
      obtain rfl := Option.some.inj h31
      exact qe_mid' ⟨K32, rfl, hS36, (hS24.le.trans hS34.le)⟩ ⟨rfl, rfl, rfl, rfl, trivial⟩
  · rintro _ w17 ⟨K15, rfl, hS18, hl16⟩
    refine qe_seq ?_
    refine wc_cond rfl (fun hb37 => ?_) (fun hb37 => ?_)
    · have h38 := cond_t hb37 h14
      refine wc_seq ?_
      refine wc_region ?_
      refine wl_val wn rfl (rv_assign (v := .slice none 0 0) rfl) ?_
      refine wl_nil ?_
      refine qe_seq ?_
      refine wc_ret ?_
      refine qe_then_ret ?_
      obtain rfl := Option.some.inj h38
      have hS39 := SH.nil hS18 9 1
      have hS40 : SH _ _ _ _ _ [_] := SH.sublist hS39 (.cons_cons _ (.cons _ .slnil))
      exact qe_ret (vs := [_]) Try.results25 ⟨rfl, trivial⟩ ⟨none, 0, 0, K15, rfl, hS40, (SliceAt.nil _ _)⟩
    · have h38 := cond_f hb37 h14
      refine wc_skip ?_
      refine qe_seq ?_
      refine wc_seq ?_
      refine wc_seq ?_
      refine wc_region ?_
      refine wl_val wn rfl (rv_assign (v := .int .i64 0) rfl) ?_
      refine wl_nil ?_
      refine qe_seq ?_
      obtain ⟨o41, h42, h43⟩ := Option.bind_eq_some_iff.1 h38
      refine wc_cutg (fun E' w' => ∃ (a48 : Option Addr) (n49 c50 : Nat) (K44 : KMap), E' = [(5, .slice a48 n49 c50)] ∧ SH w K [] w' K44 [tail (.slice a48 n49 c50) 9 1] ∧ KLe K15 K44 ∧ SliceAt tStr K44 a48 n49 c50 o41) ?_ ?_
      · refine wc_block ?_
        obtain ⟨r53, h54, h55⟩ := Option.bind_eq_some_iff.1 h42
        refine wc_while' (fun (s52 : (List Str) × Int) E' w' => ∃ (a60 : Option Addr) (n61 c62 : Nat) (K56 : KMap), E' = [(0, .slice a1 n2 c3), (1, sv p1_p), (5, .slice a60 n61 c62), (6, .int .i64 s52.2)] ∧ SH w K [] w' K56 [tail (.slice a60 n61 c62) 9 1] ∧ KLe K15 K56 ∧ SliceAt tStr K56 a60 n61 c62 s52.1 ∧ rng64 s52.2) h54 ⟨a6, 0, 0, K15, rfl, hS18, (KLe.refl _), (SliceAt.mono hl16 hs10), (by decide : rng64 0)⟩ ⟨rfl, rfl, rfl, rfl, trivial⟩ ?_
        rintro s52 _ w58 r65 h66 hx67 ⟨a60, n61, c62, K56, rfl, hS59, hl57, hs63, hr64⟩
        refine wc_seq ?_
        refine wc_seq ?_
        refine wc_region ?_
        refine wl_val wn rfl (rv_move rfl) ?_
        refine wl_val wn rfl (rv_move rfl) ?_
        refine wl_val wn rfl (rv_len (t := tStr) Try.underlying47 rfl (SliceAt.mono ((hl9.trans hl16).trans hl57) hs4)) ?_
        refine wl_val wn rfl (rv_lss rfl rfl) ?_
        refine wl_nil ?_
        refine qe_seq ?_
        refine wc_cond rfl (fun hb68 => ?_) (fun hb68 => ?_)
        · have h69 := cond_t hb68 h66
          refine wc_skip ?_
          refine qe_seq ?_
          refine wc_seq ?_
          refine wc_block ?_
          refine wc_seq ?_
          refine wc_region ?_
          refine wl_val wn rfl (rv_move rfl) ?_
          refine wl_val wn rfl (rv_move rfl) ?_
          refine wl_val wn rfl (rv_move rfl) ?_
          obtain ⟨x70, hx71, h72⟩ := Option.bind_eq_some_iff.1 h69
          refine wl_indexAddr (t := tStr) wn rfl Try.underlying47 tf9 rfl rfl (SliceAt.mono ((hl9.trans hl16).trans hl57) hs4) hx71 ?_
          intro b73 o74 u75 hu76 ha77
          obtain ⟨rfl, hl78⟩ := hu76
          have ha79 : AtK _ b73 o74 [sv x70] := ha77
          refine wl_val wn rfl (rv_load1 tf9 rfl hS59 (ha79 0 _ rfl)) ?_
          obtain ⟨r80, hx81, h82⟩ := Option.bind_eq_some_iff.1 h72
          refine wl_call wn rfl (rt_call (vs := [sv p1_p, sv x70]) co69 rfl) ((ok_spec_l5Glob F) hS59.enter0 hl5 hl78 hx81) ?_
          rintro e86 w84 ⟨K83, rfl, hS85⟩
          refine ⟨_, rfl, ?_⟩
          have hS87 : SH _ _ _ _ _ [_] := SH.call0 hS59 hS85
          refine wl_nil ?_
          refine qe_seq ?_
          refine wc_cond rfl (fun hb88 => ?_) (fun hb88 => ?_)
          · have h89 := cond_t hb88 h82
            refine wc_region ?_
            refine wl_val wn rfl (rv_move rfl) ?_
            refine wl_val wn rfl (rv_move rfl) ?_
            refine wl_val wn rfl (rv_move rfl) ?_
            obtain ⟨x90, hx91, h92⟩ := Option.bind_eq_some_iff.1 h89
            refine wl_indexAddr (t := tStr) wn rfl Try.underlying47 tf9 rfl rfl (SliceAt.mono (((hl9.trans hl16).trans hl57).trans hS85.le) hs4) hx91 ?_
            intro b93 o94 u95 hu96 ha97
            obtain ⟨rfl, hl98⟩ := hu96
            have ha99 : AtK _ b93 o94 [sv x90] := ha97
            refine wl_val wn rfl (rv_load1 tf9 rfl hS87 (ha99 0 _ rfl)) ?_
            refine wl_buildSlice (t := tStr) (n := 1) (pv := [(0, sv x90)]) (cs := [sv x90]) (xs := [x90]) wn rfl Try.underlying47 tf9 rfl rfl rfl (by kernel_rfl) rfl rfl (lit_cons (u := sv x90) (z := x90) ⟨rfl, hl98⟩ lit_nil) hS87 ?_
            intro a100 w101 K102 hl103 hs104 hS105
            have hS106 : SH _ _ _ _ _ [_, _] := SH.front (p := [_]) hS105
            obtain ⟨x107, hx108, h109⟩ := Option.bind_eq_some_iff.1 h92
            refine wl_append (t := tStr) wn rfl Try.underlying47 tf9 rfl rfl rfl rfl rfl (SliceAt.mono (hS85.le.trans hl103) hs63) hs104 hx108 hS106 ?_
            intro a110 n111 c112 w113 K114 hl115 hs116 hS117
            refine wl_val wn rfl (rv_assign rfl) ?_
            refine wl_nil ?_
            refine qe_block ?_
            refine qe_seq ?_
            refine wc_region ?_
            refine wl_val wn rfl (rv_move rfl) ?_
            refine wl_val wn rfl (rv_add rfl rfl) ?_
            refine wl_val wn rfl (rv_assign rfl) ?_
            refine wl_nil ?_
            obtain rfl := Option.some.inj h109
            have hS118 : SH _ _ _ _ _ [_] := SH.sublist hS117 (.cons_cons _ (.cons _ .slnil))
            exact qe_mid' ⟨_, rfl, a110, n111, c112, K114, rfl, hS118, (((hl57.trans hS85.le).trans hl103).trans hl115), hs116, (w64_rng _)⟩ ⟨rfl, rfl, rfl, rfl, trivial⟩
          · have h89 := cond_f hb88 h82
            refine wc_skip ?_
            refine qe_block ?_
            refine qe_seq ?_
            refine wc_region ?_
            refine wl_val wn rfl (rv_move rfl) ?_
            refine wl_val wn rfl (rv_add rfl rfl) ?_
            refine wl_val wn rfl (rv_assign rfl) ?_
            refine wl_nil ?_
            obtain rfl := Option.some.inj h89
            exact qe_mid' ⟨_, rfl, a60, n61, c62, K83, rfl, hS87, (hl57.trans hS85.le), (SliceAt.mono hS85.le hs63), (w64_rng _)⟩ ⟨rfl, rfl, rfl, rfl, trivial⟩
        · have h69 := cond_f hb68 h66
          refine wc_exit ?_
          refine qe_then_exit ?_
          refine qe_then_exit ?_
          obtain rfl := Option.some.inj h69
          have e119 := hx67 _ rfl
          subst e119
          refine qe_block_eq ?_
          obtain rfl := Option.some.inj h55
          exact qe_mid' ⟨a60, n61, c62, K56, rfl, hS59, hl57, hs63⟩ ⟨rfl, trivial⟩
      · rintro _ w46 ⟨a48, n49, c50, K44, rfl, hS47, hl45, hs51⟩
        refine qe_seq ?_
        refine wc_seq ?_
        refine wc_region ?_
        refine wl_val wn rfl (rv_move rfl) ?_
        refine wl_val wn rfl (rv_assign rfl) ?_
        refine wl_nil ?_
        refine qe_seq ?_
        refine wc_ret ?_
        obtain rfl := Option.some.inj h43
        exact qe_ret (vs := [_]) Try.results25 ⟨rfl, trivial⟩ ⟨a48, n49, c50, K44, rfl, hS47, hs51⟩

theorem ok_slices_Equal_Arc (F : Nat) {w : World} {K : KMap} {a1 : Option Addr} {n2 c3 : Nat} {a5 : Option Addr} {n6 c7 : Nat} {p0_s1 : List GArc} {p1_s2 : List GArc} {r : Bool} (hS : SH w K [] w K []) (hs4 : SliceAt tGArc K a1 n2 c3 p0_s1) (hs8 : SliceAt tGArc K a5 n6 c7 p1_s2) (hm : M.slices_Equal_Arc F p0_s1 p1_s2 = some r) :
    Calls Try.prog 130 #[.slice a1 n2 c3, .slice a5 n6 c7] w fun e w' => ∃ (K' : KMap), e = .returned (.bool r) ∧ SH w K [] w' K' [] := by
  rw [M.slices_Equal_Arc] at hm
  refine calls_in Try.func130 rfl Try.ntmps130 rfl ?_
  refine wc_seq ?_
  refine wc_region ?_
  refine wl_val wn rfl (rv_assign (v := .bool false) rfl) ?_
  refine wl_nil ?_
  refine qe_seq ?_
  refine wc_seq ?_
  refine wc_seq ?_
  refine wc_region ?_
  refine wl_val wn rfl (rv_move rfl) ?_
  refine wl_val wn rfl (rv_len (t := tGArc) Try.underlying138 rfl hs4) ?_
  refine wl_val wn rfl (rv_move rfl) ?_
  refine wl_val wn rfl (rv_len (t := tGArc) Try.underlying138 rfl hs8) ?_
  refine wl_val wn rfl (rv_neq rfl rfl) ?_
  refine wl_nil ?_
  refine qe_seq ?_
  refine wc_cond rfl (fun hb9 => ?_) (fun hb9 => ?_)
  · have h10 := cond_t hb9 hm
    refine wc_seq ?_
    refine wc_region ?_
    refine wl_val wn rfl (rv_assign (v := .bool false) rfl) ?_
    refine wl_nil ?_
    refine qe_seq ?_
    refine wc_ret ?_
    refine qe_then_ret ?_
    obtain rfl := Option.some.inj h10
    exact qe_ret (vs := [_]) Try.results130 ⟨rfl, trivial⟩ ⟨K, rfl, hS⟩
  · have h10 := cond_f hb9 hm
    refine wc_skip ?_
    refine qe_seq ?_
    refine wc_seq ?_
    refine wc_seq ?_
    refine wc_region ?_
    refine wl_val wn rfl (rv_move rfl) ?_
    refine wl_val wn rfl (rv_len (t := tGArc) Try.underlying138 rfl hs4) ?_
    refine wl_val wn rfl (rv_move (v := .int .i64 0) rfl) ?_
    refine wl_nil ?_
    refine qe_seq ?_
    obtain ⟨o11, h12, h13⟩ := Option.bind_eq_some_iff.1 h10
    refine wc_cutg (fun E' w' => ∃ (s14 : Unit) (K15 : KMap), o11 = .inl s14 ∧ E' = [] ∧ SH w K [] w' K15 [] ∧ KLe K K15) ?_ ?_
    · refine wc_block ?_
      obtain ⟨r20, h21, h22⟩ := Option.bind_eq_some_iff.1 h12
      refine wc_for' (fun (i23 : Nat) (s19 : Unit) E' w' => ∃ (K24 : KMap), E' = [(0, .slice a1 n2 c3), (1, .slice a5 n6 c7), (12, .int .i64 (p0_s1.length : Int)), (13, .int .i64 ((i23 : Nat) : Int))] ∧ SH w K [] w' K24 [] ∧ KLe K K24) h21 ⟨K, rfl, hS, (KLe.refl _)⟩ ⟨rfl, rfl, rfl, rfl, trivial⟩ ?_ ?_
      · rintro i23 s19 _ w26 r28 hi29 h30 hx31 ⟨K24, rfl, hS27, hl25⟩
        refine wc_seq (wc_region ?_)
        refine wl_val wn rfl (rv_lss rfl rfl) ?_
        refine wl_nil (qe_seq (wc_seq ?_))
        refine wc_cond_t rfl (decide_eq_true (by omega)) (wc_skip (qe_seq (wc_seq ?_)))
        refine wc_block ?_
        refine wc_seq ?_
        refine wc_region ?_
        refine wl_val wn rfl (rv_move rfl) ?_
        refine wl_val wn rfl (rv_assign rfl) ?_
        refine wl_nil ?_
        refine qe_seq ?_
        refine wc_seq ?_
        refine wc_quiet mixed (by kernel_rfl) hS27 ?_
        refine wq_val wn rfl (fun _ _ => (rv_move rfl)) ?_
        refine wq_val wn rfl (fun _ _ => (rv_move rfl)) ?_
        obtain ⟨x32, hx33, h34⟩ := Option.bind_eq_some_iff.1 h30
        refine wq_indexAddr (t := tGArc) wn rfl Try.underlying138 tf142 rfl rfl (SliceAt.mono hl25 hs4) hx33 ?_
        intro b35 o36 u37 hu38 ha39
        obtain ⟨rfl, hr40⟩ := hu38
        have ha41 : AtK _ b35 o36 [iv8 x32.Byte, .int .i64 x32.To] := ha39
        refine wq_val wn rfl (rq_loadS (cs := [iv8 x32.Byte, .int .i64 x32.To]) tf142 rfl ha41 rfl) ?_
        refine wq_val wn rfl (fun _ _ => (rv_move rfl)) ?_
        refine wq_val wn rfl (fun _ _ => (rv_move rfl)) ?_
        obtain ⟨x42, hx43, h44⟩ := Option.bind_eq_some_iff.1 h34
        refine wq_indexAddr (t := tGArc) wn rfl Try.underlying138 tf142 rfl rfl (SliceAt.mono hl25 hs8) hx43 ?_
        intro b45 o46 u47 hu48 ha49
        obtain ⟨rfl, hr50⟩ := hu48
        have ha51 : AtK _ b45 o46 [iv8 x42.Byte, .int .i64 x42.To] := ha49
        refine wq_val wn rfl (rq_loadS (cs := [iv8 x42.Byte, .int .i64 x42.To]) tf142 rfl ha51 rfl) ?_
        refine wq_val wn rfl (fun _ _ => (rv_neS eqg142 rfl rfl (eqs142 x32.Byte x32.To x42.Byte x42.To))) ?_
        refine wq_nil ?_
        rintro w53 ⟨K52, hS54, hl55⟩
        refine qe_seq ?_
        refine wc_cond rfl (fun hb56 => ?_) (fun hb56 => ?_)
        · have h57 := cond_t hb56 h44
          refine wc_seq ?_
          refine wc_region ?_
          refine wl_val wn rfl (rv_assign (v := .bool false) rfl) ?_
          refine wl_nil ?_
          refine qe_seq ?_
          refine wc_ret ?_
          refine qe_block_ret ?_
          refine qe_then_ret ?_
          refine qe_then_ret ?_
          obtain rfl := Option.some.inj h57
          have e58 := hx31 _ rfl
          subst e58
          refine qe_block_ret ?_
          refine qe_then_ret ?_
          obtain rfl := Option.some.inj h22
          refine qe_then_ret ?_
          obtain rfl := Option.some.inj h13
          exact qe_ret (vs := [_]) Try.results130 ⟨rfl, trivial⟩ ⟨K52, rfl, hS54⟩
        · have h57 := cond_f hb56 h44
          refine wc_skip ?_
          refine qe_block ?_
          refine qe_seq (wc_region ?_)
          refine wl_val wn rfl (rv_add_to rfl rfl (w64_succ hi29 (SliceAt.max hs4))) ?_
          refine wl_val wn rfl (rv_move rfl) ?_
          refine wl_nil ?_
          obtain rfl := Option.some.inj h57
          exact qe_mid' ⟨_, rfl, K52, rfl, hS54, (hl25.trans hl55)⟩ ⟨rfl, rfl, rfl, rfl, trivial⟩
      · rintro s19 _ w26 hr59 ⟨K24, rfl, hS27, hl25⟩
        subst hr59
        refine wc_seq (wc_region ?_)
        refine wl_val wn rfl (rv_lss rfl rfl) ?_
        refine wl_nil (qe_seq (wc_seq ?_))
        refine wc_cond_f rfl (decide_eq_false (by omega)) ?_
        refine wc_exit ?_
        refine qe_then_exit ?_
        refine qe_then_exit ?_
        refine qe_block_eq ?_
        obtain rfl := Option.some.inj h22
        exact qe_mid' ⟨_, K24, rfl, rfl, hS27, hl25⟩ trivial
    · rintro _ w17 ⟨s14, K15, rfl, rfl, hS18, hl16⟩
      refine qe_seq ?_
      refine wc_seq ?_
      refine wc_region ?_
      refine wl_val wn rfl (rv_assign (v := .bool true) rfl) ?_
      refine wl_nil ?_
      refine qe_seq ?_
      refine wc_ret ?_
      obtain rfl := Option.some.inj h13
      exact qe_ret (vs := [_]) Try.results130 ⟨rfl, trivial⟩ ⟨K15, rfl, hS18⟩

theorem ok_impl_sameState (F : Nat) {w : World} {K : KMap} {a2 : Option Addr} {n3 c4 : Nat} {a7 : Option Addr} {n8 c9 : Nat} {p0_a : GState} {p1_b : GState} {r : Bool} (hS : SH w K [] w K []) (hr1 : rng64 p0_a.Many) (hs5 : SliceAt tGArc K a2 n3 c4 p0_a.Arcs) (hr6 : rng64 p1_b.Many) (hs10 : SliceAt tGArc K a7 n8 c9 p1_b.Arcs) (hm : M.impl_sameState F p0_a p1_b = some r) :
    Calls Try.prog 107 #[.agg #[.bool p0_a.Final, .int .i64 p0_a.Many, .slice a2 n3 c4], .agg #[.bool p1_b.Final, .int .i64 p1_b.Many, .slice a7 n8 c9]] w fun e w' => ∃ (K' : KMap), e = .returned (.bool r) ∧ SH w K [] w' K' [] := by
  rw [M.impl_sameState] at hm
  refine calls_in Try.func107 rfl Try.ntmps107 rfl ?_
  refine wc_seq ?_
  refine wc_region ?_
  refine wl_box wn rfl rfl hS ?_
  intro g11 w12 hS13
  have hS14 : SH _ _ _ _ _ [obj g11 [.bool p0_a.Final, .int .i64 p0_a.Many, .slice a2 n3 c4] 140] := hS13
  refine wl_box wn rfl rfl hS14 ?_
  intro g15 w16 hS17
  have hS18 : SH _ _ _ _ _ [obj g15 [.bool p1_b.Final, .int .i64 p1_b.Many, .slice a7 n8 c9] 140, _] := hS17
  refine wl_val wn rfl (rv_assign (v := .bool false) rfl) ?_
  refine wl_nil ?_
  refine qe_seq ?_
  refine wc_seq ?_
  refine wc_region ?_
  refine wl_val wn rfl (rv_fieldAddr ff140_0 rfl) ?_
  refine wl_val wn rfl (rv_loadm1 tf4 rfl (.tail _ (.head _)) hS18 rfl) ?_
  refine wl_val wn rfl (rv_fieldAddr ff140_0 rfl) ?_
  refine wl_val wn rfl (rv_loadm1 tf4 rfl (.head _) hS18 rfl) ?_
  refine wl_val wn rfl (rv_booleq Try.underlying4 rfl rfl) ?_
  refine wl_val wn rfl (rv_move rfl) ?_
  rcases bool_tf ((p0_a.Final == p1_b.Final)) with hb19 | hb19
  · have h20 := cond_t hb19 hm
    refine wl_val (wg rfl rfl hb19) rfl (rv_fieldAddr ff140_1 rfl) ?_
    refine wl_val (wg rfl rfl hb19) rfl (rv_loadm1 tf3 rfl (.tail _ (.head _)) hS18 rfl) ?_
    refine wl_val (wg rfl rfl hb19) rfl (rv_fieldAddr ff140_1 rfl) ?_
    refine wl_val (wg rfl rfl hb19) rfl (rv_loadm1 tf3 rfl (.head _) hS18 rfl) ?_
    refine wl_val (wg rfl rfl hb19) rfl (rv_eql rfl rfl) ?_
    refine wl_val wn rfl (rv_pick_t rfl hb19 rfl) ?_
    refine wl_val wn rfl (rv_move rfl) ?_
    rcases bool_tf ((p0_a.Many == p1_b.Many)) with hb21 | hb21
    · have h22 := cond_t hb21 h20
      refine wl_val (wg rfl rfl hb21) rfl (rv_fieldAddr ff140_2 rfl) ?_
      refine wl_val (wg rfl rfl hb21) rfl (rv_loadm1 tf138 rfl (.tail _ (.head _)) hS18 rfl) ?_
      refine wl_val (wg rfl rfl hb21) rfl (rv_fieldAddr ff140_2 rfl) ?_
      refine wl_val (wg rfl rfl hb21) rfl (rv_loadm1 tf138 rfl (.head _) hS18 rfl) ?_
      obtain ⟨r23, hx24, h25⟩ := Option.bind_eq_some_iff.1 h22
      refine wl_call (wg rfl rfl hb21) rfl (rt_call (vs := [.slice a2 n3 c4, .slice a7 n8 c9]) co130 rfl) ((ok_slices_Equal_Arc F) hS18.enter0 hs5 hs10 hx24) ?_
      rintro e29 w27 ⟨K26, rfl, hS28⟩
      refine ⟨_, rfl, ?_⟩
      have hS30 : SH _ _ _ _ _ [_, _] := SH.call0 hS18 hS28
      refine wl_val wn rfl (rv_pick_t rfl hb21 rfl) ?_
      refine wl_val wn rfl (rv_assign rfl) ?_
      refine wl_nil ?_
      refine qe_seq ?_
      refine wc_ret ?_
      obtain rfl := Option.some.inj h25
      have hS31 : SH _ _ _ _ _ [] := SH.sublist hS30 (.cons _ (.cons _ .slnil))
      exact qe_ret (vs := [_]) Try.results107 ⟨rfl, trivial⟩ ⟨K26, rfl, hS31⟩
    · have h22 := cond_f hb21 h20
      refine wl_un (ug rfl rfl hb21) rfl ?_
      refine wl_un (ug rfl rfl hb21) rfl ?_
      refine wl_un (ug rfl rfl hb21) rfl ?_
      refine wl_un (ug rfl rfl hb21) rfl ?_
      refine wl_un (ug rfl rfl hb21) rfl ?_
      refine wl_val wn rfl (rv_pick_f (v := .bool false) rfl hb21 rfl) ?_
      refine wl_val wn rfl (rv_assign rfl) ?_
      refine wl_nil ?_
      refine qe_seq ?_
      refine wc_ret ?_
      obtain rfl := Option.some.inj h22
      have hS32 : SH _ _ _ _ _ [] := SH.sublist hS18 (.cons _ (.cons _ .slnil))
      exact qe_ret (vs := [_]) Try.results107 ⟨rfl, trivial⟩ ⟨K, rfl, hS32⟩
  · have h20 := cond_f hb19 hm
    refine wl_un (ug rfl rfl hb19) rfl ?_
    refine wl_un (ug rfl rfl hb19) rfl ?_
    refine wl_un (ug rfl rfl hb19) rfl ?_
    refine wl_un (ug rfl rfl hb19) rfl ?_
    refine wl_un (ug rfl rfl hb19) rfl ?_
    refine wl_val wn rfl (rv_pick_f (v := .bool false) rfl hb19 rfl) ?_
    refine wl_val wn rfl (rv_move rfl) ?_
    refine wl_un (ug rfl rfl rfl) rfl ?_
    refine wl_un (ug rfl rfl rfl) rfl ?_
    refine wl_un (ug rfl rfl rfl) rfl ?_
    refine wl_un (ug rfl rfl rfl) rfl ?_
    refine wl_un (ug rfl rfl rfl) rfl ?_
    refine wl_val wn rfl (rv_pick_f (v := .bool false) rfl rfl rfl) ?_
    refine wl_val wn rfl (rv_assign rfl) ?_
    refine wl_nil ?_
    refine qe_seq ?_
    refine wc_ret ?_
    obtain rfl := Option.some.inj h20
    have hS33 : SH _ _ _ _ _ [] := SH.sublist hS18 (.cons _ (.cons _ .slnil))
    exact qe_ret (vs := [_]) Try.results107 ⟨rfl, trivial⟩ ⟨K, rfl, hS33⟩

theorem ok_impl_dawg_put (F : Nat) : ∀ {w : World} {K : KMap} {g1 : Nat} {a2 : Option Addr} {n3 c4 : Nat} {a6 : Option Addr} {n7 c8 : Nat} {p0_d : GDawg} {p1_list : List Str} {r : Int × GDawg} (hS : SH w K (List.filterMap Item.g [obj g1 [.slice a2 n3 c4] 104, tail (.slice a2 n3 c4) 140 3]) w K [obj g1 [.slice a2 n3 c4] 104, tail (.slice a2 n3 c4) 140 3]) (hs5 : SliceAt tGState K a2 n3 c4 p0_d.states_) (hs9 : SliceAt tStr K a6 n7 c8 p1_list) (hm : M.impl_dawg_put F p0_d p1_list = some r),
    Calls Try.prog 71 #[.pointer (some ⟨g1, 0, none⟩), .slice a6 n7 c8] w fun e w' => ∃ (a_2 : Option Addr) (n_3 c_4 : Nat) (K' : KMap), e = .returned (.int .i64 r.1) ∧ SH w K (List.filterMap Item.g [obj g1 [.slice a2 n3 c4] 104, tail (.slice a2 n3 c4) 140 3]) w' K' [obj g1 [.slice a_2 n_3 c_4] 104, tail (.slice a_2 n_3 c_4) 140 3] ∧ rng64 r.1 ∧ SliceAt tGState K' a_2 n_3 c_4 r.2.states_ := by
  induction F with
  | zero => intros; rename_i hm; rw [M.impl_dawg_put] at hm; cases hm
  | succ F ih =>
    intro w K g1 a2 n3 c4 a6 n7 c8 p0_d p1_list r hS hs5 hs9 hm
    rw [M.impl_dawg_put] at hm
    refine calls_in Try.func71 rfl Try.ntmps71 rfl ?_
    refine wc_seq ?_
    refine wc_region ?_
    refine wl_val wn rfl (rv_assign (v := .int .i64 0) rfl) ?_
    refine wl_nil ?_
    refine qe_seq ?_
    refine wc_seq ?_
    refine wc_region ?_
    refine wl_val wn rfl (rv_move rfl) ?_
    refine wl_val wn rfl (rv_len (t := tStr) Try.underlying47 rfl hs9) ?_
    refine wl_buildSlice0 tGArc wn rfl Try.underlying138 tf142 hS ?_
    intro a10 w11 K12 hl13 hs14 hS15
    refine wl_val wn rfl (rv_build (cs := #[.bool false, .int .i64 (p1_list.length : Int), .slice a10 0 0]) sp140 tf140 rfl (by kernel_rfl)) ?_
    refine wl_alloc wn rfl tf140 hS15 ?_
    intro g16 w17 hS18
    have hS19 : SH _ _ _ _ _ [obj g16 [.bool false, .int .i64 0, .slice none 0 0] 140, _, _, _] := hS18
    refine wl_store (cs' := [.bool false, .int .i64 (p1_list.length : Int), .slice a10 0 0]) (v := .agg #[.bool false, .int .i64 (p1_list.length : Int), .slice a10 0 0]) wn tf140 rfl rfl rfl (by simp [Value.cells, Value.oneCell']) hS19 rfl rfl ?_
    intro w20 hS21
    refine wl_nil ?_
    refine qe_seq ?_
    refine wc_seq ?_
    refine wc_seq ?_
    obtain ⟨o22, h23, h24⟩ := Option.bind_eq_some_iff.1 hm
    refine wc_cutg (fun E' w' => ∃ (K25 : KMap), E' = [(0, .pointer (some ⟨g1, 0, none⟩)), (1, .slice a6 n7 c8), (5, .pointer (some ⟨g16, 0, none⟩)), (22, .bool o22)] ∧ SH w K (List.filterMap Item.g [obj g1 [.slice a2 n3 c4] 104, tail (.slice a2 n3 c4) 140 3]) w' K25 [obj g1 [.slice a2 n3 c4] 104, tail (.slice a2 n3 c4) 140 3, obj g16 [.bool false, .int .i64 (p1_list.length : Int), .slice a10 0 0] 140, tail (.slice a10 0 0) 142 2] ∧ KLe K12 K25) ?_ ?_
    · refine wc_region ?_
      refine wl_val wn rfl (rv_move rfl) ?_
      refine wl_val wn rfl (rv_len (t := tStr) Try.underlying47 rfl (SliceAt.mono hl13 hs9)) ?_
      refine wl_val wn rfl (rv_gtr rfl rfl) ?_
      refine wl_val wn rfl (rv_move rfl) ?_
      rcases bool_tf (decide ((0 : Int) < (p1_list.length : Int))) with hb29 | hb29
      · have h30 := cond_t hb29 h23
        refine wl_val (wg rfl rfl hb29) rfl (rv_move rfl) ?_
        obtain ⟨x31, hx32, h33⟩ := Option.bind_eq_some_iff.1 h30
        refine wl_indexAddr (t := tStr) (wg rfl rfl hb29) rfl Try.underlying47 tf9 rfl rfl (SliceAt.mono hl13 hs9) hx32 ?_
        intro b34 o35 u36 hu37 ha38
        obtain ⟨rfl, hl39⟩ := hu37
        have ha40 : AtK _ b34 o35 [sv x31] := ha38
        refine wl_val (wg rfl rfl hb29) rfl (rv_load1 tf9 rfl hS21 (ha40 0 _ rfl)) ?_
        refine wl_val (wg rfl rfl hb29) rfl (rv_seql (r := ([] : Str)) rfl rfl) ?_
        refine wl_val wn rfl (rv_pick_t rfl hb29 rfl) ?_
        refine wl_nil ?_
        obtain rfl := Option.some.inj h33
        have hS41 : SH _ _ _ _ _ [_, _, _, _] := SH.front (p := [_]) hS21
        have hS42 : SH _ _ _ _ _ [_, _, _, _] := SH.front (p := [_]) hS41
        have hS43 : SH _ _ _ _ _ [_, _, _, _] := SH.front (p := [_, _, _]) hS42
        have hS44 : SH _ _ _ _ _ [_, _, _, _] := SH.front (p := [_, _, _]) hS43
        exact qe_mid' ⟨K12, rfl, hS44, (KLe.refl _)⟩ ⟨rfl, rfl, rfl, rfl, trivial⟩
      · have h30 := cond_f hb29 h23
        refine wl_un (ug rfl rfl hb29) rfl ?_
        refine wl_un (ug rfl rfl hb29) rfl ?_
        refine wl_un (ug rfl rfl hb29) rfl ?_
        refine wl_un (ug rfl rfl hb29) rfl ?_
        refine wl_val wn rfl (rv_pick_f (v := .bool false) rfl hb29 rfl) ?_
        refine wl_nil ?_
        obtain rfl := Option.some.inj h30
        have hS45 : SH _ _ _ _ _ [_, _, _, _] := SH.front (p := [_]) hS21
        have hS46 : SH _ _ _ _ _ [_, _, _, _] := SH.front (p := [_]) hS45
        have hS47 : SH _ _ _ _ _ [_, _, _, _] := SH.front (p := [_, _, _]) hS46
        have hS48 : SH _ _ _ _ _ [_, _, _, _] := SH.front (p := [_, _, _]) hS47
        exact qe_mid' ⟨K12, rfl, hS48, (KLe.refl _)⟩ ⟨rfl, rfl, rfl, rfl, trivial⟩
    · rintro _ w27 ⟨K25, rfl, hS28, hl26⟩
      refine qe_seq ?_
      obtain ⟨o49, h50, h51⟩ := Option.bind_eq_some_iff.1 h24
      refine wc_cutg (fun E' w' => ∃ (a56 : Option Addr) (n57 c58 : Nat) (a61 : Option Addr) (n62 c63 : Nat) (K52 : KMap), E' = [(0, .pointer (some ⟨g1, 0, none⟩)), (1, .slice a56 n57 c58), (5, .pointer (some ⟨g16, 0, none⟩))] ∧ SH w K (List.filterMap Item.g [obj g1 [.slice a2 n3 c4] 104, tail (.slice a2 n3 c4) 140 3]) w' K52 [obj g1 [.slice a2 n3 c4] 104, tail (.slice a2 n3 c4) 140 3, obj g16 [.bool o49.2.Final, .int .i64 o49.2.Many, .slice a61 n62 c63] 140, tail (.slice a61 n62 c63) 142 2] ∧ KLe K25 K52 ∧ SliceAt tStr K52 a56 n57 c58 o49.1 ∧ rng64 o49.2.Many ∧ SliceAt tGArc K52 a61 n62 c63 o49.2.Arcs) ?_ ?_
      · refine wc_cond rfl (fun hb65 => ?_) (fun hb65 => ?_)
        · have h66 := cond_t hb65 h50
          refine wc_seq ?_
          refine wc_region ?_
          refine wl_val wn rfl (rv_fieldAddr ff140_0 rfl) ?_
          have hS67 : SH _ _ _ _ _ [_, _, _, _] := SH.front (p := [_, _]) hS28
          refine wl_store (cs' := [.bool true, .int .i64 (p1_list.length : Int), .slice a10 0 0]) (v := .bool true) wn tf4 rfl rfl rfl (by simp [Value.cells, Value.oneCell']) hS67 rfl rfl ?_
          intro w68 hS69
          refine wl_nil ?_
          refine qe_seq ?_
          refine wc_region ?_
          refine wl_val wn rfl (rv_move rfl) ?_
          obtain ⟨x70, hx71, h72⟩ := Option.bind_eq_some_iff.1 h66
          refine wl_sl_l (t := tStr) wn rfl Try.underlying47 tf9 rfl rfl (SliceAt.mono (hl13.trans hl26) hs9) hx71 ?_
          intro a73 n74 c75 hs76
          refine wl_val wn rfl (rv_assign rfl) ?_
          refine wl_nil ?_
          obtain rfl := Option.some.inj h72
          have hS77 : SH _ _ _ _ _ [_, _, _, _] := SH.front (p := [_, _, _]) hS69
          have hS78 : SH _ _ _ _ _ [_, _, _, _] := SH.front (p := [_]) hS77
          have hS79 : SH _ _ _ _ _ [_, _, _, _] := SH.front (p := [_, _, _]) hS78
          have hS80 : SH _ _ _ _ _ [_, _, _, _] := SH.front (p := [_, _, _]) hS79
          exact qe_mid' ⟨a73, n74, c75, a10, 0, 0, K25, rfl, hS80, (KLe.refl _), hs76, (rng_nat (SliceAt.max hs9)), (SliceAt.mono hl26 hs14)⟩ ⟨rfl, rfl, rfl, trivial⟩
        · have h66 := cond_f hb65 h50
          refine wc_skip ?_
          obtain rfl := Option.some.inj h66
          exact qe_mid' ⟨a6, n7, c8, a10, 0, 0, K25, rfl, hS28, (KLe.refl _), (SliceAt.mono (hl13.trans hl26) hs9), (rng_nat (SliceAt.max hs9)), (SliceAt.mono hl26 hs14)⟩ ⟨rfl, rfl, rfl, trivial⟩
      · rintro _ w54 ⟨a56, n57, c58, a61, n62, c63, K52, rfl, hS55, hl53, hs59, hr60, hs64⟩
        refine qe_seq ?_
        refine wc_seq ?_
        obtain ⟨o81, h82, h83⟩ := Option.bind_eq_some_iff.1 h51
        refine wc_cutg (fun E' w' => ∃ (a88 : Option Addr) (n89 c90 : Nat) (a93 : Option Addr) (n94 c95 : Nat) (K84 : KMap), E' = [(0, .pointer (some ⟨g1, 0, none⟩)), (5, .pointer (some ⟨g16, 0, none⟩))] ∧ SH w K (List.filterMap Item.g [obj g1 [.slice a2 n3 c4] 104, tail (.slice a2 n3 c4) 140 3]) w' K84 [obj g1 [.slice a88 n89 c90] 104, tail (.slice a88 n89 c90) 140 3, obj g16 [.bool o81.2.Final, .int .i64 o81.2.Many, .slice a93 n94 c95] 140, tail (.slice a93 n94 c95) 142 2] ∧ KLe K52 K84 ∧ SliceAt tGState K84 a88 n89 c90 o81.1.states_ ∧ rng64 o81.2.Many ∧ SliceAt tGArc K84 a93 n94 c95 o81.2.Arcs) ?_ ?_
        · refine wc_block ?_
          obtain ⟨r98, h99, h100⟩ := Option.bind_eq_some_iff.1 h82
          refine wc_while' (fun (s97 : (List Str) × GDawg × GState) E' w' => ∃ (a105 : Option Addr) (n106 c107 : Nat) (a109 : Option Addr) (n110 c111 : Nat) (a114 : Option Addr) (n115 c116 : Nat) (K101 : KMap), E' = [(0, .pointer (some ⟨g1, 0, none⟩)), (1, .slice a105 n106 c107), (5, .pointer (some ⟨g16, 0, none⟩))] ∧ SH w K (List.filterMap Item.g [obj g1 [.slice a2 n3 c4] 104, tail (.slice a2 n3 c4) 140 3]) w' K101 [obj g1 [.slice a109 n110 c111] 104, tail (.slice a109 n110 c111) 140 3, obj g16 [.bool s97.2.2.Final, .int .i64 s97.2.2.Many, .slice a114 n115 c116] 140, tail (.slice a114 n115 c116) 142 2] ∧ KLe K52 K101 ∧ SliceAt tStr K101 a105 n106 c107 s97.1 ∧ SliceAt tGState K101 a109 n110 c111 s97.2.1.states_ ∧ rng64 s97.2.2.Many ∧ SliceAt tGArc K101 a114 n115 c116 s97.2.2.Arcs) h99 ⟨a56, n57, c58, a2, n3, c4, a61, n62, c63, K52, rfl, hS55, (KLe.refl _), hs59, (SliceAt.mono ((hl13.trans hl26).trans hl53) hs5), hr60, hs64⟩ ⟨rfl, rfl, rfl, trivial⟩ ?_
          rintro s97 _ w103 r118 h119 hx120 ⟨a105, n106, c107, a109, n110, c111, a114, n115, c116, K101, rfl, hS104, hl102, hs108, hs112, hr113, hs117⟩
          refine wc_seq ?_
          refine wc_seq ?_
          refine wc_region ?_
          refine wl_val wn rfl (rv_move rfl) ?_
          refine wl_val wn rfl (rv_len (t := tStr) Try.underlying47 rfl hs108) ?_
          refine wl_val wn rfl (rv_gtr rfl rfl) ?_
          refine wl_nil ?_
          refine qe_seq ?_
          refine wc_cond rfl (fun hb121 => ?_) (fun hb121 => ?_)
          · have h122 := cond_t hb121 h119
            refine wc_skip ?_
            refine qe_seq ?_
            refine wc_block ?_
            refine wc_seq ?_
            refine wc_region ?_
            refine wl_val wn rfl (rv_move rfl) ?_
            obtain ⟨x123, hx124, h125⟩ := Option.bind_eq_some_iff.1 h122
            refine wl_indexAddr (t := tStr) wn rfl Try.underlying47 tf9 rfl rfl hs108 hx124 ?_
            intro b126 o127 u128 hu129 ha130
            obtain ⟨rfl, hl131⟩ := hu129
            have ha132 : AtK _ b126 o127 [sv x123] := ha130
            refine wl_val wn rfl (rv_load1 tf9 rfl hS104 (ha132 0 _ rfl)) ?_
            obtain ⟨x133, hx134, h135⟩ := Option.bind_eq_some_iff.1 h125
            refine wl_val wn rfl (rv_sidx Try.underlying9 rfl rfl hx134) ?_
            refine wl_val wn rfl (rv_assign rfl) ?_
            refine wl_nil ?_
            refine qe_seq ?_
            refine wc_seq ?_
            refine wc_region ?_
            refine wl_buildSlice0 tStr wn rfl Try.underlying47 tf9 hS104 ?_
            intro a136 w137 K138 hl139 hs140 hS141
            refine wl_val wn rfl (rv_assign rfl) ?_
            refine wl_nil ?_
            refine qe_seq ?_
            refine wc_seq ?_
            obtain ⟨o142, h143, h144⟩ := Option.bind_eq_some_iff.1 h135
            refine wc_cutg (fun E' w' => ∃ (a149 : Option Addr) (n150 c151 : Nat) (a153 : Option Addr) (n154 c155 : Nat) (K145 : KMap), E' = [(0, .pointer (some ⟨g1, 0, none⟩)), (1, .slice a149 n150 c151), (5, .pointer (some ⟨g16, 0, none⟩)), (6, iv8 x133), (7, .slice a153 n154 c155)] ∧ SH w K (List.filterMap Item.g [obj g1 [.slice a2 n3 c4] 104, tail (.slice a2 n3 c4) 140 3]) w' K145 [obj g1 [.slice a109 n110 c111] 104, tail (.slice a109 n110 c111) 140 3, obj g16 [.bool s97.2.2.Final, .int .i64 s97.2.2.Many, .slice a114 n115 c116] 140, tail (.slice a114 n115 c116) 142 2, tail (.slice a153 n154 c155) 9 1] ∧ KLe K138 K145 ∧ SliceAt tStr K145 a149 n150 c151 o142.1 ∧ SliceAt tStr K145 a153 n154 c155 o142.2) ?_ ?_
            · refine wc_block ?_
              obtain ⟨r158, h159, h160⟩ := Option.bind_eq_some_iff.1 h143
              have hS173 : SH _ _ _ _ _ [_, _, _, _, _] := SH.front (p := [_, _, _, _]) hS141
              have hS174 : SH _ _ _ _ _ [_, _, _, _, _] := SH.front (p := [_, _, _, _]) hS173
              have hS175 : SH _ _ _ _ _ [_, _, _, _, _] := SH.front (p := [_, _, _, _]) hS174
              have hS176 : SH _ _ _ _ _ [_, _, _, _, _] := SH.front (p := [_, _, _, _]) hS175
              refine wc_while' (fun (s157 : (List Str) × (List Str)) E' w' => ∃ (a165 : Option Addr) (n166 c167 : Nat) (a169 : Option Addr) (n170 c171 : Nat) (K161 : KMap), E' = [(0, .pointer (some ⟨g1, 0, none⟩)), (1, .slice a165 n166 c167), (5, .pointer (some ⟨g16, 0, none⟩)), (6, iv8 x133), (7, .slice a169 n170 c171)] ∧ SH w K (List.filterMap Item.g [obj g1 [.slice a2 n3 c4] 104, tail (.slice a2 n3 c4) 140 3]) w' K161 [obj g1 [.slice a109 n110 c111] 104, tail (.slice a109 n110 c111) 140 3, obj g16 [.bool s97.2.2.Final, .int .i64 s97.2.2.Many, .slice a114 n115 c116] 140, tail (.slice a114 n115 c116) 142 2, tail (.slice a169 n170 c171) 9 1] ∧ KLe K138 K161 ∧ SliceAt tStr K161 a165 n166 c167 s157.1 ∧ SliceAt tStr K161 a169 n170 c171 s157.2) h159 ⟨a105, n106, c107, a136, 0, 0, K138, rfl, hS176, (KLe.refl _), (SliceAt.mono hl139 hs108), hs140⟩ ⟨rfl, rfl, rfl, rfl, rfl, trivial⟩ ?_
              rintro s157 _ w163 r177 h178 hx179 ⟨a165, n166, c167, a169, n170, c171, K161, rfl, hS164, hl162, hs168, hs172⟩
              refine wc_seq ?_
              refine wc_seq ?_
              obtain ⟨o180, h181, h182⟩ := Option.bind_eq_some_iff.1 h178
              refine wc_cutg (fun E' w' => ∃ (K183 : KMap), E' = [(0, .pointer (some ⟨g1, 0, none⟩)), (1, .slice a165 n166 c167), (5, .pointer (some ⟨g16, 0, none⟩)), (6, iv8 x133), (7, .slice a169 n170 c171), (44, .bool o180)] ∧ SH w K (List.filterMap Item.g [obj g1 [.slice a2 n3 c4] 104, tail (.slice a2 n3 c4) 140 3]) w' K183 [obj g1 [.slice a109 n110 c111] 104, tail (.slice a109 n110 c111) 140 3, obj g16 [.bool s97.2.2.Final, .int .i64 s97.2.2.Many, .slice a114 n115 c116] 140, tail (.slice a114 n115 c116) 142 2, tail (.slice a169 n170 c171) 9 1] ∧ KLe K161 K183) ?_ ?_
              · refine wc_region ?_
                refine wl_val wn rfl (rv_move rfl) ?_
                refine wl_val wn rfl (rv_len (t := tStr) Try.underlying47 rfl hs168) ?_
                refine wl_val wn rfl (rv_gtr rfl rfl) ?_
                refine wl_val wn rfl (rv_move rfl) ?_
                rcases bool_tf (decide ((0 : Int) < (s157.1.length : Int))) with hb187 | hb187
                · have h188 := cond_t hb187 h181
                  refine wl_val (wg rfl rfl hb187) rfl (rv_move rfl) ?_
                  obtain ⟨x189, hx190, h191⟩ := Option.bind_eq_some_iff.1 h188
                  refine wl_indexAddr (t := tStr) (wg rfl rfl hb187) rfl Try.underlying47 tf9 rfl rfl hs168 hx190 ?_
                  intro b192 o193 u194 hu195 ha196
                  obtain ⟨rfl, hl197⟩ := hu195
                  have ha198 : AtK _ b192 o193 [sv x189] := ha196
                  refine wl_val (wg rfl rfl hb187) rfl (rv_load1 tf9 rfl hS164 (ha198 0 _ rfl)) ?_
                  obtain ⟨x199, hx200, h201⟩ := Option.bind_eq_some_iff.1 h191
                  refine wl_val (wg rfl rfl hb187) rfl (rv_sidx Try.underlying9 rfl rfl hx200) ?_
                  refine wl_val (wg rfl rfl hb187) rfl (rv_move rfl) ?_
                  refine wl_val (wg rfl rfl hb187) rfl (rv_beq rfl rfl) ?_
                  refine wl_val wn rfl (rv_pick_t rfl hb187 rfl) ?_
                  refine wl_nil ?_
                  obtain rfl := Option.some.inj h201
                  exact qe_mid' ⟨K161, rfl, hS164, (KLe.refl _)⟩ ⟨rfl, rfl, rfl, rfl, rfl, rfl, trivial⟩
                · have h188 := cond_f hb187 h181
                  refine wl_un (ug rfl rfl hb187) rfl ?_
                  refine wl_un (ug rfl rfl hb187) rfl ?_
                  refine wl_un (ug rfl rfl hb187) rfl ?_
                  refine wl_un (ug rfl rfl hb187) rfl ?_
                  refine wl_un (ug rfl rfl hb187) rfl ?_
                  refine wl_un (ug rfl rfl hb187) rfl ?_
                  refine wl_val wn rfl (rv_pick_f (v := .bool false) rfl hb187 rfl) ?_
                  refine wl_nil ?_
                  obtain rfl := Option.some.inj h188
                  exact qe_mid' ⟨K161, rfl, hS164, (KLe.refl _)⟩ ⟨rfl, rfl, rfl, rfl, rfl, rfl, trivial⟩
              · rintro _ w185 ⟨K183, rfl, hS186, hl184⟩
                refine qe_seq ?_
                refine wc_cond rfl (fun hb202 => ?_) (fun hb202 => ?_)
                · have h203 := cond_t hb202 h182
                  refine wc_skip ?_
                  refine qe_seq ?_
                  refine wc_block ?_
                  refine wc_seq ?_
                  refine wc_region ?_
                  refine wl_val wn rfl (rv_move rfl) ?_
                  refine wl_val wn rfl (rv_move rfl) ?_
                  obtain ⟨x204, hx205, h206⟩ := Option.bind_eq_some_iff.1 h203
                  refine wl_indexAddr (t := tStr) wn rfl Try.underlying47 tf9 rfl rfl (SliceAt.mono hl184 hs168) hx205 ?_
                  intro b207 o208 u209 hu210 ha211
                  obtain ⟨rfl, hl212⟩ := hu210
                  have ha213 : AtK _ b207 o208 [sv x204] := ha211
                  refine wl_val wn rfl (rv_load1 tf9 rfl hS186 (ha213 0 _ rfl)) ?_
                  obtain ⟨x214, hx215, h216⟩ := Option.bind_eq_some_iff.1 h206
                  refine wl_val wn rfl (rv_ssl_l Try.underlying9 rfl rfl hx215) ?_
                  refine wl_buildSlice (t := tStr) (n := 1) (pv := [(0, sv x214)]) (cs := [sv x214]) (xs := [x214]) wn rfl Try.underlying47 tf9 rfl rfl rfl (by kernel_rfl) rfl rfl (lit_cons (u := sv x214) (z := x214) ⟨rfl, (len_sub hl212 hx215)⟩ lit_nil) hS186 ?_
                  intro a217 w218 K219 hl220 hs221 hS222
                  have hS223 : SH _ _ _ _ _ [_, _, _, _, _, _] := SH.front (p := [_, _, _, _, _]) hS222
                  obtain ⟨x224, hx225, h226⟩ := Option.bind_eq_some_iff.1 h216
                  refine wl_append (t := tStr) wn rfl Try.underlying47 tf9 rfl rfl rfl rfl rfl (SliceAt.mono (hl184.trans hl220) hs172) hs221 hx225 hS223 ?_
                  intro a227 n228 c229 w230 K231 hl232 hs233 hS234
                  refine wl_val wn rfl (rv_assign rfl) ?_
                  refine wl_nil ?_
                  refine qe_seq ?_
                  refine wc_region ?_
                  refine wl_val wn rfl (rv_move rfl) ?_
                  obtain ⟨x235, hx236, h237⟩ := Option.bind_eq_some_iff.1 h226
                  refine wl_sl_l (t := tStr) wn rfl Try.underlying47 tf9 rfl rfl (SliceAt.mono ((hl184.trans hl220).trans hl232) hs168) hx236 ?_
                  intro a238 n239 c240 hs241
                  refine wl_val wn rfl (rv_assign rfl) ?_
                  refine wl_nil ?_
                  refine qe_block ?_
                  obtain rfl := Option.some.inj h237
                  have hS242 : SH _ _ _ _ _ [_, _, _, _, _, _] := SH.front (p := [_, _, _, _, _]) hS234
                  have hS243 : SH _ _ _ _ _ [_, _, _, _, _, _] := SH.front (p := [_, _, _, _, _]) hS242
                  have hS244 : SH _ _ _ _ _ [_, _, _, _, _, _] := SH.front (p := [_, _, _, _, _]) hS243
                  have hS245 : SH _ _ _ _ _ [_, _, _, _, _, _] := SH.front (p := [_, _, _, _, _]) hS244
                  have hS246 : SH _ _ _ _ _ [_, _, _, _, _] := SH.sublist hS245 (.cons_cons _ (.cons_cons _ (.cons_cons _ (.cons_cons _ (.cons_cons _ (.cons _ .slnil))))))
                  exact qe_mid' ⟨_, rfl, a238, n239, c240, a227, n228, c229, K231, rfl, hS246, (((hl162.trans hl184).trans hl220).trans hl232), hs241, hs233⟩ ⟨rfl, rfl, rfl, rfl, rfl, trivial⟩
                · have h203 := cond_f hb202 h182
                  refine wc_exit ?_
                  refine qe_then_exit ?_
                  refine qe_then_exit ?_
                  obtain rfl := Option.some.inj h203
                  have e247 := hx179 _ rfl
                  subst e247
                  refine qe_block_eq ?_
                  obtain rfl := Option.some.inj h160
                  exact qe_mid' ⟨a165, n166, c167, a169, n170, c171, K183, rfl, hS186, (hl162.trans hl184), (SliceAt.mono hl184 hs168), (SliceAt.mono hl184 hs172)⟩ ⟨rfl, rfl, rfl, rfl, rfl, trivial⟩
            · rintro _ w147 ⟨a149, n150, c151, a153, n154, c155, K145, rfl, hS148, hl146, hs152, hs156⟩
              refine qe_seq ?_
              refine wc_held (fun w' => Holds K145 w') (fun w' => HasObj g16 [.bool s97.2.2.Final, .int .i64 s97.2.2.Many, .slice a114 n115 c116] w') 10 [(1, 8), (1, 9), (1, 10), (8, 9), (8, 10), (9, 10)] mixed ?_
              have hS249 := SH.drew hS148
              refine wg_val (i := 0) (listed' := #[true, false, false, false, false, false, false, false, false, false, false]) (fun _ => True) rfl (by kernel_rfl) (pk_block (pk_then (pk_block (pk_then (pk_then pk_body))))) (by kernel_rfl) rfl (by kernel_rfl) (by kernel_rfl) rfl (.inl fun _ _ => trivial) ⟨(hS249.hasK (KLe.refl _)), (fun _ => hS249.hasObj (.tail _ (.tail _ (.head _)))), by decide⟩ wn rfl (fun _ _ => (rv_fieldAddr ff140_2 rfl)) ?_
              refine wg_val (i := 1) (listed' := #[true, true, false, false, false, false, false, false, false, false, false]) (HasObj g16 [.bool s97.2.2.Final, .int .i64 s97.2.2.Many, .slice a114 n115 c116]) rfl (by kernel_rfl) (pk_block (pk_then (pk_block (pk_then (pk_then pk_body))))) (by kernel_rfl) rfl (by kernel_rfl) (by kernel_rfl) rfl (.inr ⟨rfl, fun _ _ h => h⟩) ⟨(hS249.hasK (KLe.refl _)), (fun _ => hS249.hasObj (.tail _ (.tail _ (.head _)))), by decide⟩ wn rfl (fun _ h => rh_loadm1 tf138 rfl rfl h) ?_
              refine wg_val (i := 2) (listed' := #[true, true, true, false, false, false, false, false, false, false, false]) (fun _ => True) rfl (by kernel_rfl) (pk_block (pk_then (pk_block (pk_then (pk_then pk_body))))) (by kernel_rfl) rfl (by kernel_rfl) (by kernel_rfl) rfl (.inl fun _ _ => trivial) ⟨(hS249.hasK (KLe.refl _)), (fun _ => hS249.hasObj (.tail _ (.tail _ (.head _)))), by decide⟩ wn rfl (fun _ _ => (rv_move rfl)) ?_
              refine wg_val (i := 3) (listed' := #[true, true, true, true, false, false, false, false, false, false, false]) (fun _ => True) rfl (by kernel_rfl) (pk_block (pk_then (pk_block (pk_then (pk_then pk_body))))) (by kernel_rfl) rfl (by kernel_rfl) (by kernel_rfl) rfl (.inl fun _ _ => trivial) ⟨(hS249.hasK (KLe.refl _)), (fun _ => hS249.hasObj (.tail _ (.tail _ (.head _)))), by decide⟩ wn rfl (fun _ _ => (rv_move rfl)) ?_
              refine wg_val (i := 4) (listed' := #[true, true, true, true, true, false, false, false, false, false, false]) (fun _ => True) rfl (by kernel_rfl) (pk_block (pk_then (pk_block (pk_then (pk_then pk_body))))) (by kernel_rfl) rfl (by kernel_rfl) (by kernel_rfl) rfl (.inl fun _ _ => trivial) ⟨(hS249.hasK (KLe.refl _)), (fun _ => hS249.hasObj (.tail _ (.tail _ (.head _)))), by decide⟩ wn rfl (fun _ _ => (rv_move rfl)) ?_
              refine wg_one (i := 5) (by kernel_rfl) rfl ?_
              obtain ⟨r251, hx252, h253⟩ := Option.bind_eq_some_iff.1 h144
              have hS254 : SH _ _ _ _ _ [_, _, _, _, _] := SH.front (p := [_]) hS249
              have hS255 : SH _ _ _ _ _ [_, _, _, _, _] := SH.front (p := [_]) hS254
              refine wl_call wn rfl (rt_call (vs := [.pointer (some ⟨g1, 0, none⟩), .slice a153 n154 c155]) co71 rfl) (ih (SH.enter (Lin := [_, _]) hS255) (SliceAt.mono (hl139.trans hl146) hs112) hs156 hx252) ?_
              rintro e264 w257 ⟨a260, n261, c262, K256, rfl, hS258, hr259, hs263⟩
              refine ⟨_, rfl, ?_⟩
              have hS265 : SH _ _ _ _ _ [_, _, _, _, _] := SH.call (Lin := [_, _]) hS255 hS258
              refine wl_nil (qe_held (listed' := #[true, true, true, true, true, true, false, false, false, false, false]) rfl ⟨(hS265.hasK hS258.le), (fun _ => hS265.hasObj (.tail _ (.tail _ (.head _)))), by decide⟩ ?_)
              refine wg_val (i := 6) (listed' := #[true, true, true, true, true, true, true, false, false, false, false]) (fun _ => True) rfl (by kernel_rfl) (pk_block (pk_then (pk_block (pk_then (pk_then pk_body))))) (by kernel_rfl) rfl (by kernel_rfl) (by kernel_rfl) rfl (.inl fun _ _ => trivial) ⟨(hS265.hasK hS258.le), (fun _ => hS265.hasObj (.tail _ (.tail _ (.head _)))), by decide⟩ wn rfl (fun _ _ => (rv_build (cs := #[iv8 x133, .int .i64 r251.1]) sp142 tf142 rfl (by kernel_rfl))) ?_
              refine wg_one (i := 7) (by kernel_rfl) rfl ?_
              refine wl_buildSlice (t := tGArc) (n := 1) (pv := [(0, .agg #[iv8 x133, .int .i64 r251.1])]) (cs := [iv8 x133, .int .i64 r251.1]) (xs := [(GArc.mk x133 r251.1)]) wn rfl Try.underlying138 tf142 rfl rfl rfl (by kernel_rfl) rfl rfl (lit_cons (u := .agg #[iv8 x133, .int .i64 r251.1]) (z := (GArc.mk x133 r251.1)) ⟨rfl, hr259⟩ lit_nil) hS265 ?_
              intro a266 w267 K268 hl269 hs270 hS271
              refine wl_nil (qe_held (listed' := #[true, true, true, true, true, true, true, true, false, false, false]) rfl ⟨(hS271.hasK (hS258.le.trans hl269)), (fun _ => hS271.hasObj (.tail _ (.tail _ (.tail _ (.head _))))), by decide⟩ ?_)
              refine wg_one (i := 8) (by kernel_rfl) rfl ?_
              have hS272 : SH _ _ _ _ _ [_, _, _, _, _, _] := SH.front (p := [_, _, _, _]) hS271
              obtain ⟨x273, hx274, h275⟩ := Option.bind_eq_some_iff.1 h253
              refine wl_append (t := tGArc) wn rfl Try.underlying138 tf142 rfl rfl rfl rfl rfl (SliceAt.mono (((hl139.trans hl146).trans hS258.le).trans hl269) hs117) hs270 hx274 hS272 ?_
              intro a276 n277 c278 w279 K280 hl281 hs282 hS283
              refine wl_nil (qe_held (listed' := #[true, true, true, true, true, true, true, true, true, false, false]) rfl ⟨(hS283.hasK ((hS258.le.trans hl269).trans hl281)), (fun _ => hS283.hasObj (.tail _ (.tail _ (.tail _ (.tail _ (.head _)))))), by decide⟩ ?_)
              refine wg_val (i := 9) (listed' := #[true, true, true, true, true, true, true, true, true, true, false]) (fun _ => True) rfl (by kernel_rfl) (pk_block (pk_then (pk_block (pk_then (pk_then pk_body))))) (by kernel_rfl) rfl (by kernel_rfl) (by kernel_rfl) rfl (.inl fun _ _ => trivial) ⟨(hS283.hasK ((hS258.le.trans hl269).trans hl281)), (fun _ => hS283.hasObj (.tail _ (.tail _ (.tail _ (.tail _ (.head _)))))), by decide⟩ wn rfl (fun _ _ => (rv_fieldAddr ff140_2 rfl)) ?_
              refine wg_one (i := 10) (by kernel_rfl) rfl ?_
              have hS284 : SH _ _ _ _ _ [_, _, _, _, _, _] := SH.front (p := [_, _, _, _]) hS283
              refine wl_store (cs' := [.bool s97.2.2.Final, .int .i64 s97.2.2.Many, .slice a276 n277 c278]) (v := .slice a276 n277 c278) wn tf138 rfl rfl rfl (by simp [Value.cells, Value.oneCell']) hS284 rfl rfl ?_
              intro w285 hS286
              refine wl_nil (qe_held (listed' := #[true, true, true, true, true, true, true, true, true, true, true]) rfl ⟨(hS286.hasK ((hS258.le.trans hl269).trans hl281)), (fun h => by cases h), by decide⟩ ?_)
              refine wg_done (by kernel_rfl) ?_
              refine qe_block ?_
              obtain rfl := Option.some.inj h275
              have hS287 : SH _ _ _ _ _ [_, _, _, _, _, _] := SH.front (p := [_]) hS286
              have hS288 : SH _ _ _ _ _ [_, _, _, _, _, _] := SH.front (p := [_]) hS287
              have hS289 : SH _ _ _ _ _ [_, _, _, _, _, _] := SH.front (p := [_, _, _, _]) hS288
              have hS290 : SH _ _ _ _ _ [_, _, _, _, _, _] := SH.front (p := [_, _, _, _]) hS289
              have hS291 : SH _ _ _ _ _ [_, _, _, _] := SH.sublist hS290 (.cons_cons _ (.cons_cons _ (.cons_cons _ (.cons_cons _ (.cons _ (.cons _ .slnil))))))
              exact qe_mid' ⟨_, rfl, a149, n150, c151, a260, n261, c262, a276, n277, c278, K280, rfl, hS291, (((((hl102.trans hl139).trans hl146).trans hS258.le).trans hl269).trans hl281), (SliceAt.mono ((hS258.le.trans hl269).trans hl281) hs152), (SliceAt.mono (hl269.trans hl281) hs263), hr113, hs282⟩ ⟨rfl, rfl, rfl, trivial⟩
          · have h122 := cond_f hb121 h119
            refine wc_exit ?_
            refine qe_then_exit ?_
            refine qe_then_exit ?_
            obtain rfl := Option.some.inj h122
            have e292 := hx120 _ rfl
            subst e292
            refine qe_block_eq ?_
            obtain rfl := Option.some.inj h100
            exact qe_mid' ⟨a109, n110, c111, a114, n115, c116, K101, rfl, hS104, hl102, hs112, hr113, hs117⟩ ⟨rfl, rfl, trivial⟩
        · rintro _ w86 ⟨a88, n89, c90, a93, n94, c95, K84, rfl, hS87, hl85, hs91, hr92, hs96⟩
          refine qe_seq ?_
          refine wc_seq ?_
          refine wc_seq ?_
          refine wc_region ?_
          refine wl_val wn rfl (rv_move rfl) ?_
          refine wl_val wn rfl (rv_nilCheck rfl) ?_
          refine wl_val wn rfl (rv_fieldAddr ff104_0 rfl) ?_
          refine wl_val wn rfl (rv_loadm1 tf54 rfl (.head _) hS87 rfl) ?_
          refine wl_val wn rfl (rv_len (t := tGState) Try.underlying54 rfl hs91) ?_
          refine wl_val wn rfl (rv_move (v := .int .i64 0) rfl) ?_
          refine wl_nil ?_
          refine qe_seq ?_
          obtain ⟨o293, h294, h295⟩ := Option.bind_eq_some_iff.1 h83
          refine wc_cutg (fun E' w' => ∃ (s296 : Unit) (K297 : KMap), o293 = .inl s296 ∧ E' = [(0, .pointer (some ⟨g1, 0, none⟩)), (5, .pointer (some ⟨g16, 0, none⟩))] ∧ SH w K (List.filterMap Item.g [obj g1 [.slice a2 n3 c4] 104, tail (.slice a2 n3 c4) 140 3]) w' K297 [obj g1 [.slice a88 n89 c90] 104, tail (.slice a88 n89 c90) 140 3, obj g16 [.bool o81.2.Final, .int .i64 o81.2.Many, .slice a93 n94 c95] 140, tail (.slice a93 n94 c95) 142 2] ∧ KLe K84 K297) ?_ ?_
          · refine wc_block ?_
            obtain ⟨r302, h303, h304⟩ := Option.bind_eq_some_iff.1 h294
            refine wc_for' (fun (i305 : Nat) (s301 : Unit) E' w' => ∃ (K306 : KMap), E' = [(0, .pointer (some ⟨g1, 0, none⟩)), (5, .pointer (some ⟨g16, 0, none⟩)), (67, .slice a88 n89 c90), (68, .int .i64 (o81.1.states_.length : Int)), (69, .int .i64 ((i305 : Nat) : Int))] ∧ SH w K (List.filterMap Item.g [obj g1 [.slice a2 n3 c4] 104, tail (.slice a2 n3 c4) 140 3]) w' K306 [obj g1 [.slice a88 n89 c90] 104, tail (.slice a88 n89 c90) 140 3, obj g16 [.bool o81.2.Final, .int .i64 o81.2.Many, .slice a93 n94 c95] 140, tail (.slice a93 n94 c95) 142 2] ∧ KLe K84 K306) h303 ⟨K84, rfl, hS87, (KLe.refl _)⟩ ⟨rfl, rfl, rfl, rfl, rfl, trivial⟩ ?_ ?_
            · rintro i305 s301 _ w308 r310 hi311 h312 hx313 ⟨K306, rfl, hS309, hl307⟩
              refine wc_seq (wc_region ?_)
              refine wl_val wn rfl (rv_lss rfl rfl) ?_
              refine wl_nil (qe_seq (wc_seq ?_))
              refine wc_cond_t rfl (decide_eq_true (by omega)) (wc_skip (qe_seq (wc_seq ?_)))
              refine wc_block ?_
              refine wc_seq ?_
              refine wc_region ?_
              refine wl_val wn rfl (rv_move rfl) ?_
              obtain ⟨x314, hx315, h316⟩ := Option.bind_eq_some_iff.1 h312
              refine wl_indexAddr (t := tGState) wn rfl Try.underlying54 tf140 rfl rfl (SliceAt.mono hl307 hs91) hx315 ?_
              intro b317 o318 u319 hu320 ha321
              obtain ⟨a323, n324, c325, rfl, hr322, hs326⟩ := hu320
              have ha327 : AtK _ b317 o318 [.bool x314.Final, .int .i64 x314.Many, .slice a323 n324 c325] := ha321
              refine wl_val wn rfl (rv_loadS (cs := [.bool x314.Final, .int .i64 x314.Many, .slice a323 n324 c325]) tf140 rfl hS309 ha327 rfl) ?_
              refine wl_alloc wn rfl tf140 hS309 ?_
              intro g328 w329 hS330
              have hS331 : SH _ _ _ _ _ [obj g328 [.bool false, .int .i64 0, .slice none 0 0] 140, _, _, _, _] := hS330
              refine wl_val wn rfl (rv_assign rfl) ?_
              refine wl_store (cs' := [.bool x314.Final, .int .i64 x314.Many, .slice a323 n324 c325]) (v := .agg #[.bool x314.Final, .int .i64 x314.Many, .slice a323 n324 c325]) wn tf140 rfl rfl rfl (by simp [Value.cells, Value.oneCell']) hS331 rfl rfl ?_
              intro w332 hS333
              refine wl_nil ?_
              refine qe_seq ?_
              refine wc_seq ?_
              refine wc_region ?_
              refine wl_val wn rfl (rv_loadmS (ds := [.bool x314.Final, .int .i64 x314.Many, .slice a323 n324 c325]) tf140 rfl (.head _) hS333 rfl rfl) ?_
              refine wl_val wn rfl (rv_loadmS (ds := [.bool o81.2.Final, .int .i64 o81.2.Many, .slice a93 n94 c95]) tf140 rfl (.tail _ (.tail _ (.tail _ (.head _)))) hS333 rfl rfl) ?_
              obtain ⟨r334, hx335, h336⟩ := Option.bind_eq_some_iff.1 h316
              refine wl_call wn rfl (rt_call (vs := [.agg #[.bool x314.Final, .int .i64 x314.Many, .slice a323 n324 c325], .agg #[.bool o81.2.Final, .int .i64 o81.2.Many, .slice a93 n94 c95]]) co107 rfl) ((ok_impl_sameState F) hS333.enter0 hr322 hs326 hr92 (SliceAt.mono hl307 hs96) hx335) ?_
              rintro e340 w338 ⟨K337, rfl, hS339⟩
              refine ⟨_, rfl, ?_⟩
              have hS341 : SH _ _ _ _ _ [_, _, _, _, _] := SH.call0 hS333 hS339
              refine wl_nil ?_
              refine qe_seq ?_
              refine wc_cond rfl (fun hb342 => ?_) (fun hb342 => ?_)
              · have h343 := cond_t hb342 h336
                refine wc_seq ?_
                refine wc_region ?_
                refine wl_val wn rfl (rv_move rfl) ?_
                refine wl_val wn rfl (rv_assign rfl) ?_
                refine wl_nil ?_
                refine qe_seq ?_
                refine wc_ret ?_
                refine qe_block_ret ?_
                refine qe_then_ret ?_
                refine qe_then_ret ?_
                obtain rfl := Option.some.inj h343
                have e344 := hx313 _ rfl
                subst e344
                refine qe_block_ret ?_
                refine qe_then_ret ?_
                obtain rfl := Option.some.inj h304
                refine qe_then_ret ?_
                obtain rfl := Option.some.inj h295
                have hS345 : SH _ _ _ _ _ [_, _] := SH.sublist hS341 (.cons _ (.cons_cons _ (.cons_cons _ (.cons _ (.cons _ .slnil)))))
                exact qe_ret (vs := [_]) Try.results71 ⟨rfl, trivial⟩ ⟨a88, n89, c90, K337, rfl, hS345, (rng_idx hi311 (SliceAt.max hs91)), (SliceAt.mono (hl307.trans hS339.le) hs91)⟩
              · have h343 := cond_f hb342 h336
                refine wc_skip ?_
                refine qe_block ?_
                refine qe_seq (wc_region ?_)
                refine wl_val wn rfl (rv_add_to rfl rfl (w64_succ hi311 (SliceAt.max hs91))) ?_
                refine wl_val wn rfl (rv_move rfl) ?_
                refine wl_nil ?_
                obtain rfl := Option.some.inj h343
                have hS346 : SH _ _ _ _ _ [_, _, _, _] := SH.sublist hS341 (.cons _ (.cons_cons _ (.cons_cons _ (.cons_cons _ (.cons_cons _ .slnil)))))
                exact qe_mid' ⟨_, rfl, K337, rfl, hS346, (hl307.trans hS339.le)⟩ ⟨rfl, rfl, rfl, rfl, rfl, trivial⟩
            · rintro s301 _ w308 hr347 ⟨K306, rfl, hS309, hl307⟩
              subst hr347
              refine wc_seq (wc_region ?_)
              refine wl_val wn rfl (rv_lss rfl rfl) ?_
              refine wl_nil (qe_seq (wc_seq ?_))
              refine wc_cond_f rfl (decide_eq_false (by omega)) ?_
              refine wc_exit ?_
              refine qe_then_exit ?_
              refine qe_then_exit ?_
              refine qe_block_eq ?_
              obtain rfl := Option.some.inj h304
              exact qe_mid' ⟨_, K306, rfl, rfl, hS309, hl307⟩ ⟨rfl, rfl, trivial⟩
          · rintro _ w299 ⟨s296, K297, rfl, rfl, hS300, hl298⟩
            refine qe_seq ?_
            refine wc_seq ?_
            refine wc_held (fun w' => Holds K297 w' ∧ HasObj g16 [.bool o81.2.Final, .int .i64 o81.2.Many, .slice a93 n94 c95] w') (fun w' => HasObj g1 [.slice a88 n89 c90] w') 10 [(4, 7), (4, 8), (4, 9), (4, 10), (7, 8), (7, 9), (7, 10), (8, 9), (9, 10)] mixed ?_
            have hS350 := SH.drew hS300
            refine wg_val (i := 0) (listed' := #[true, false, false, false, false, false, false, false, false, false, false]) (fun _ => True) rfl (by kernel_rfl) (pk_then pk_body) (by kernel_rfl) rfl (by kernel_rfl) (by kernel_rfl) rfl (.inl fun _ _ => trivial) ⟨⟨hS350.hasK (KLe.refl _), hS350.hasObj (.tail _ (.tail _ (.head _)))⟩, (fun _ => hS350.hasObj (.head _)), by decide⟩ wn rfl (fun _ _ => (rv_move rfl)) ?_
            refine wg_val (i := 1) (listed' := #[true, true, false, false, false, false, false, false, false, false, false]) (fun _ => True) rfl (by kernel_rfl) (pk_then pk_body) (by kernel_rfl) rfl (by kernel_rfl) (by kernel_rfl) rfl (.inl fun _ _ => trivial) ⟨⟨hS350.hasK (KLe.refl _), hS350.hasObj (.tail _ (.tail _ (.head _)))⟩, (fun _ => hS350.hasObj (.head _)), by decide⟩ wn rfl (fun _ _ => (rv_move rfl)) ?_
            refine wg_val (i := 2) (listed' := #[true, true, true, false, false, false, false, false, false, false, false]) (fun _ => True) rfl (by kernel_rfl) (pk_then pk_body) (by kernel_rfl) rfl (by kernel_rfl) (by kernel_rfl) rfl (.inl fun _ _ => trivial) ⟨⟨hS350.hasK (KLe.refl _), hS350.hasObj (.tail _ (.tail _ (.head _)))⟩, (fun _ => hS350.hasObj (.head _)), by decide⟩ wn rfl (fun _ _ => (rv_nilCheck rfl)) ?_
            refine wg_val (i := 3) (listed' := #[true, true, true, true, false, false, false, false, false, false, false]) (fun _ => True) rfl (by kernel_rfl) (pk_then pk_body) (by kernel_rfl) rfl (by kernel_rfl) (by kernel_rfl) rfl (.inl fun _ _ => trivial) ⟨⟨hS350.hasK (KLe.refl _), hS350.hasObj (.tail _ (.tail _ (.head _)))⟩, (fun _ => hS350.hasObj (.head _)), by decide⟩ wn rfl (fun _ _ => (rv_fieldAddr ff104_0 rfl)) ?_
            refine wg_val (i := 4) (listed' := #[true, true, true, true, true, false, false, false, false, false, false]) (HasObj g1 [.slice a88 n89 c90]) rfl (by kernel_rfl) (pk_then pk_body) (by kernel_rfl) rfl (by kernel_rfl) (by kernel_rfl) rfl (.inr ⟨rfl, fun _ _ h => h⟩) ⟨⟨hS350.hasK (KLe.refl _), hS350.hasObj (.tail _ (.tail _ (.head _)))⟩, (fun _ => hS350.hasObj (.head _)), by decide⟩ wn rfl (fun _ h => rh_loadm1 tf54 rfl rfl h) ?_
            refine wg_val (i := 5) (listed' := #[true, true, true, true, true, true, false, false, false, false, false]) (HasObj g16 [.bool o81.2.Final, .int .i64 o81.2.Many, .slice a93 n94 c95]) rfl (by kernel_rfl) (pk_then pk_body) (by kernel_rfl) rfl (by kernel_rfl) (by kernel_rfl) rfl (.inl fun _ h => h.2) ⟨⟨hS350.hasK (KLe.refl _), hS350.hasObj (.tail _ (.tail _ (.head _)))⟩, (fun _ => hS350.hasObj (.head _)), by decide⟩ wn rfl (fun _ h => rh_loadmS (ds := [.bool o81.2.Final, .int .i64 o81.2.Many, .slice a93 n94 c95]) tf140 rfl rfl rfl h) ?_
            refine wg_one (i := 6) (by kernel_rfl) rfl ?_
            refine wl_buildSlice (t := tGState) (n := 1) (pv := [(0, .agg #[.bool o81.2.Final, .int .i64 o81.2.Many, .slice a93 n94 c95])]) (cs := [.bool o81.2.Final, .int .i64 o81.2.Many, .slice a93 n94 c95]) (xs := [o81.2]) wn rfl Try.underlying54 tf140 rfl rfl rfl (by kernel_rfl) rfl rfl (lit_cons (u := .agg #[.bool o81.2.Final, .int .i64 o81.2.Many, .slice a93 n94 c95]) (z := o81.2) ⟨a93, n94, c95, rfl, hr92, (SliceAt.mono hl298 hs96)⟩ lit_nil) hS350 ?_
            intro a352 w353 K354 hl355 hs356 hS357
            refine wl_nil (qe_held (listed' := #[true, true, true, true, true, true, true, false, false, false, false]) rfl ⟨⟨hS357.hasK hl355, hS357.hasObj (.tail _ (.tail _ (.tail _ (.head _))))⟩, (fun _ => hS357.hasObj (.tail _ (.head _))), by decide⟩ ?_)
            refine wg_one (i := 7) (by kernel_rfl) rfl ?_
            have hS358 : SH _ _ _ _ _ [_, _, _, _, _] := SH.front (p := [_, _]) hS357
            obtain ⟨x359, hx360, h361⟩ := Option.bind_eq_some_iff.1 h295
            refine wl_append (t := tGState) wn rfl Try.underlying54 tf140 rfl rfl rfl rfl rfl (SliceAt.mono (hl298.trans hl355) hs91) hs356 hx360 hS358 ?_
            intro a362 n363 c364 w365 K366 hl367 hs368 hS369
            refine wl_nil (qe_held (listed' := #[true, true, true, true, true, true, true, true, false, false, false]) rfl ⟨⟨hS369.hasK (hl355.trans hl367), hS369.hasObj (.tail _ (.tail _ (.tail _ (.head _))))⟩, (fun _ => hS369.hasObj (.tail _ (.tail _ (.head _)))), by decide⟩ ?_)
            refine wg_val (i := 8) (listed' := #[true, true, true, true, true, true, true, true, true, false, false]) (fun _ => True) rfl (by kernel_rfl) (pk_then pk_body) (by kernel_rfl) rfl (by kernel_rfl) (by kernel_rfl) rfl (.inl fun _ _ => trivial) ⟨⟨hS369.hasK (hl355.trans hl367), hS369.hasObj (.tail _ (.tail _ (.tail _ (.head _))))⟩, (fun _ => hS369.hasObj (.tail _ (.tail _ (.head _)))), by decide⟩ wn rfl (fun _ _ => (rv_nilCheck rfl)) ?_
            refine wg_val (i := 9) (listed' := #[true, true, true, true, true, true, true, true, true, true, false]) (fun _ => True) rfl (by kernel_rfl) (pk_then pk_body) (by kernel_rfl) rfl (by kernel_rfl) (by kernel_rfl) rfl (.inl fun _ _ => trivial) ⟨⟨hS369.hasK (hl355.trans hl367), hS369.hasObj (.tail _ (.tail _ (.tail _ (.head _))))⟩, (fun _ => hS369.hasObj (.tail _ (.tail _ (.head _)))), by decide⟩ wn rfl (fun _ _ => (rv_fieldAddr ff104_0 rfl)) ?_
            refine wg_one (i := 10) (by kernel_rfl) rfl ?_
            have hS370 : SH _ _ _ _ _ [_, _, _, _, _] := SH.front (p := [_, _]) hS369
            refine wl_store (cs' := [.slice a362 n363 c364]) (v := .slice a362 n363 c364) wn tf54 rfl rfl rfl (by simp [Value.cells, Value.oneCell']) hS370 rfl rfl ?_
            intro w371 hS372
            refine wl_nil (qe_held (listed' := #[true, true, true, true, true, true, true, true, true, true, true]) rfl ⟨⟨hS372.hasK (hl355.trans hl367), hS372.hasObj (.tail _ (.tail _ (.tail _ (.head _))))⟩, (fun h => by cases h), by decide⟩ ?_)
            refine wg_done (by kernel_rfl) ?_
            refine qe_seq ?_
            refine wc_seq ?_
            refine wc_region ?_
            refine wl_val wn rfl (rv_move rfl) ?_
            refine wl_val wn rfl (rv_nilCheck rfl) ?_
            refine wl_val wn rfl (rv_fieldAddr ff104_0 rfl) ?_
            refine wl_val wn rfl (rv_loadm1 tf54 rfl (.head _) hS372 rfl) ?_
            refine wl_val wn rfl (rv_len (t := tGState) Try.underlying54 rfl hs368) ?_
            refine wl_val wn rfl (rv_sub rfl rfl) ?_
            refine wl_val wn rfl (rv_assign rfl) ?_
            refine wl_nil ?_
            refine qe_seq ?_
            refine wc_ret ?_
            obtain rfl := Option.some.inj h361
            have hS373 : SH _ _ _ _ _ [_, _] := SH.sublist hS372 (.cons_cons _ (.cons_cons _ (.cons _ (.cons _ (.cons _ .slnil)))))
            exact qe_ret (vs := [_]) Try.results71 ⟨rfl, trivial⟩ ⟨a362, n363, c364, K366, rfl, hS373, (w64_rng _), hs368⟩

theorem ok_impl_DawgOf (F : Nat) {w : World} {K : KMap} {a1 : Option Addr} {n2 c3 : Nat} {p0_words : List Str} {r : (List GState)} (hS : SH w K [] w K []) (hs4 : SliceAt tStr K a1 n2 c3 p0_words) (hm : M.impl_DawgOf F p0_words = some r) :
    Calls Try.prog 27 #[.slice a1 n2 c3] w fun e w' => ∃ (a_1 : Option Addr) (n_2 c_3 : Nat) (K' : KMap), e = .returned (.slice a_1 n_2 c_3) ∧ SH w K [] w' K' [tail (.slice a_1 n_2 c_3) 140 3] ∧ SliceAt tGState K' a_1 n_2 c_3 r := by
  rw [M.impl_DawgOf] at hm
  refine calls_in Try.func27 rfl Try.ntmps27 rfl ?_
  refine wc_seq ?_
  refine wc_region ?_
  refine wl_val wn rfl (rv_assign (v := .slice none 0 0) rfl) ?_
  refine wl_nil ?_
  refine qe_seq ?_
  refine wc_seq ?_
  refine wc_seq ?_
  refine wc_region ?_
  refine wl_val wn rfl (rv_move rfl) ?_
  obtain ⟨r5, hx6, h7⟩ := Option.bind_eq_some_iff.1 hm
  refine wl_call wn rfl (rt_call (vs := [.slice a1 n2 c3]) co26 rfl) ((ok_impl_WordsUp F) hS.enter0 hs4 hx6) ?_
  rintro e11 w9 ⟨K8, rfl, hS10⟩
  refine ⟨_, rfl, ?_⟩
  have hS12 : SH _ _ _ _ _ [] := SH.call0 hS hS10
  refine wl_val wn rfl (rv_not rfl) ?_
  refine wl_nil ?_
  refine qe_seq ?_
  refine wc_cond rfl (fun hb13 => ?_) (fun hb13 => ?_)
  · have h14 := cond_t hb13 h7
    refine wc_seq ?_
    refine wc_region ?_
    refine wl_buildSlice0 tGState wn rfl Try.underlying54 tf140 hS12 ?_
    intro a15 w16 K17 hl18 hs19 hS20
    refine wl_val wn rfl (rv_assign rfl) ?_
    refine wl_nil ?_
    refine qe_seq ?_
    refine wc_ret ?_
    refine qe_then_ret ?_
    obtain rfl := Option.some.inj h14
    exact qe_ret (vs := [_]) Try.results27 ⟨rfl, trivial⟩ ⟨a15, 0, 0, K17, rfl, hS20, hs19⟩
  · have h14 := cond_f hb13 h7
    refine wc_skip ?_
    refine qe_seq ?_
    refine wc_seq ?_
    refine wc_region ?_
    refine wl_buildSlice0 tGState wn rfl Try.underlying54 tf140 hS12 ?_
    intro a21 w22 K23 hl24 hs25 hS26
    refine wl_val wn rfl (rv_build (cs := #[.slice a21 0 0]) sp104 tf104 rfl (by kernel_rfl)) ?_
    refine wl_box wn rfl rfl hS26 ?_
    intro g27 w28 hS29
    have hS30 : SH _ _ _ _ _ [obj g27 [.slice a21 0 0] 104, _] := hS29
    refine wl_val wn rfl (rv_assign rfl) ?_
    refine wl_nil ?_
    refine qe_seq ?_
    refine wc_seq ?_
    refine wc_region ?_
    refine wl_val wn rfl (rv_move rfl) ?_
    refine wl_val wn rfl (rv_move rfl) ?_
    obtain ⟨r31, hx32, h33⟩ := Option.bind_eq_some_iff.1 h14
    have hS34 : SH _ _ _ _ _ [_, _] := SH.front (p := [_]) hS30
    have hS35 : SH _ _ _ _ _ [_, _] := SH.front (p := [_]) hS34
    refine wl_call wn rfl (rt_call (vs := [.pointer (some ⟨g27, 0, none⟩), .slice a1 n2 c3]) co71 rfl) ((ok_impl_dawg_put F) (SH.enter (Lin := [_, _]) hS35) hs25 (SliceAt.mono (hS10.le.trans hl24) hs4) hx32) ?_
    rintro e44 w37 ⟨a40, n41, c42, K36, rfl, hS38, hr39, hs43⟩
    refine ⟨_, rfl, ?_⟩
    have hS45 : SH _ _ _ _ _ [_, _] := SH.call (Lin := [_, _]) hS35 hS38
    refine wl_nil ?_
    refine qe_seq ?_
    refine wc_seq ?_
    refine wc_region ?_
    refine wl_val wn rfl (rv_move rfl) ?_
    refine wl_val wn rfl (rv_nilCheck rfl) ?_
    refine wl_val wn rfl (rv_fieldAddr ff104_0 rfl) ?_
    refine wl_val wn rfl (rv_loadm1 tf54 rfl (.head _) hS45 rfl) ?_
    refine wl_val wn rfl (rv_assign rfl) ?_
    refine wl_nil ?_
    refine qe_seq ?_
    refine wc_ret ?_
    obtain rfl := Option.some.inj h33
    have hS46 : SH _ _ _ _ _ [_] := SH.sublist hS45 (.cons _ (.cons_cons _ .slnil))
    exact qe_ret (vs := [_]) Try.results27 ⟨rfl, trivial⟩ ⟨a40, n41, c42, K36, rfl, hS46, hs43⟩

theorem ok_impl_NearFar (F : Nat) {w : World} {K : KMap} {p0_a : Str} {p1_b : Str} {r : Int} (hS : SH w K [] w K []) (hl1 : p0_a.length ≤ maxLen) (hl2 : p1_b.length ≤ maxLen) (hm : M.impl_NearFar F p0_a p1_b = some r) :
    Calls Try.prog 73 #[sv p0_a, sv p1_b] w fun e w' => ∃ (K' : KMap), e = .returned (.int .i64 r) ∧ SH w K [] w' K' [] ∧ rng64 r := by
  rw [M.impl_NearFar] at hm
  refine calls_in Try.func73 rfl Try.ntmps73 rfl ?_
  refine wc_seq ?_
  refine wc_region ?_
  refine wl_val wn rfl (rv_assign (v := .int .i64 0) rfl) ?_
  refine wl_nil ?_
  refine qe_seq ?_
  refine wc_seq ?_
  refine wc_seq ?_
  obtain ⟨o3, h4, h5⟩ := Option.bind_eq_some_iff.1 hm
  refine wc_cutg (fun E' w' => ∃ (K6 : KMap), E' = [(0, sv p0_a), (1, sv p1_b), (18, .bool o3)] ∧ SH w K [] w' K6 [] ∧ KLe K K6) ?_ ?_
  · refine wc_region ?_
    refine wl_val wn rfl (rv_move rfl) ?_
    obtain ⟨r10, hx11, h12⟩ := Option.bind_eq_some_iff.1 h4
    refine wl_call wn rfl (rt_call (vs := [sv p0_a]) co52 rfl) ((ok_impl_WordOk F) hS.enter0 hl1 hx11) ?_
    rintro e16 w14 ⟨K13, rfl, hS15⟩
    refine ⟨_, rfl, ?_⟩
    have hS17 : SH _ _ _ _ _ [] := SH.call0 hS hS15
    refine wl_val wn rfl (rv_not rfl) ?_
    refine wl_val wn rfl (rv_move rfl) ?_
    rcases bool_tf ((!r10)) with hb18 | hb18
    · have h19 := cond_t hb18 h12
      refine wl_un (ug rfl rfl hb18) rfl ?_
      refine wl_un (ug rfl rfl hb18) rfl ?_
      refine wl_un (ug rfl rfl hb18) rfl ?_
      refine wl_val wn rfl (rv_pick_t (v := .bool true) rfl hb18 rfl) ?_
      refine wl_nil ?_
      obtain rfl := Option.some.inj h19
      exact qe_mid' ⟨K13, rfl, hS17, hS15.le⟩ ⟨rfl, rfl, rfl, trivial⟩
    · have h19 := cond_f hb18 h12
      refine wl_val (wg rfl rfl hb18) rfl (rv_move rfl) ?_
      obtain ⟨r20, hx21, h22⟩ := Option.bind_eq_some_iff.1 h19
      refine wl_call (wg rfl rfl hb18) rfl (rt_call (vs := [sv p1_b]) co52 rfl) ((ok_impl_WordOk F) hS17.enter0 hl2 hx21) ?_
      rintro e26 w24 ⟨K23, rfl, hS25⟩
      refine ⟨_, rfl, ?_⟩
      have hS27 : SH _ _ _ _ _ [] := SH.call0 hS17 hS25
      refine wl_val (wg rfl rfl hb18) rfl (rv_not rfl) ?_
      refine wl_val wn rfl (rv_pick_f rfl hb18 rfl) ?_
      refine wl_nil ?_
      obtain rfl := Option.some.inj h22
      exact qe_mid' ⟨K23, rfl, hS27, (hS15.le.trans hS25.le)⟩ ⟨rfl, rfl, rfl, trivial⟩
  · rintro _ w8 ⟨K6, rfl, hS9, hl7⟩
    refine qe_seq ?_
    refine wc_cond rfl (fun hb28 => ?_) (fun hb28 => ?_)
    · have h29 := cond_t hb28 h5
      refine wc_seq ?_
      refine wc_region ?_
      refine wl_val wn rfl (rv_assign (v := .int .i64 (-1)) rfl) ?_
      refine wl_nil ?_
      refine qe_seq ?_
      refine wc_ret ?_
      refine qe_then_ret ?_
      obtain rfl := Option.some.inj h29
      exact qe_ret (vs := [_]) Try.results73 ⟨rfl, trivial⟩ ⟨K6, rfl, hS9, (by decide : rng64 (-1))⟩
    · have h29 := cond_f hb28 h5
      refine wc_skip ?_
      refine qe_seq ?_
      refine wc_seq ?_
      refine wc_region ?_
      refine wl_val wn rfl (rv_move rfl) ?_
      refine wl_val wn rfl (rv_slen Try.underlying9 rfl) ?_
      refine wl_val wn rfl (rv_add rfl rfl) ?_
      obtain ⟨x30, hx31, h32⟩ := Option.bind_eq_some_iff.1 h29
      refine wl_make (t := tInt) wn rfl Try.underlying120 tf3 rfl rfl rfl hx31 ⟨rfl, (by decide : rng64 0)⟩ hS9 ?_
      intro g33 cs34 w35 hmx38 hrow36 hS37
      obtain ⟨m39, hm40⟩ : ∃ m, m = x30.length := ⟨_, rfl⟩
      rw [← hm40] at hmx38
      rw [← hm40]
      refine wl_val wn rfl (rv_assign rfl) ?_
      refine wl_nil ?_
      refine qe_seq ?_
      refine wc_seq ?_
      refine wc_seq ?_
      refine wc_region ?_
      refine wl_val wn rfl (rv_move rfl) ?_
      refine wl_val wn rfl (rv_lenRow Try.underlying120 rfl hm40) ?_
      refine wl_val wn rfl (rv_move (v := .int .i64 0) rfl) ?_
      refine wl_nil ?_
      refine qe_seq ?_
      obtain ⟨o41, h42, h43⟩ := Option.bind_eq_some_iff.1 h32
      refine wc_cutg (fun E' w' => ∃ (cs48 : List Value) (K44 : KMap), E' = [(0, sv p0_a), (1, sv p1_b), (5, .slice (some ⟨g33, 0, none⟩) m39 m39)] ∧ SH w K [] w' K44 [obj g33 cs48 3] ∧ KLe K6 K44 ∧ RowAt true tInt K44 cs48 o41 ∧ m39 = o41.length) ?_ ?_
      · refine wc_block ?_
        obtain ⟨r52, h53, h54⟩ := Option.bind_eq_some_iff.1 h42
        refine wc_forE' (fun (i55 : Nat) (s51 : (List Int)) E' w' => ∃ (cs60 : List Value) (K56 : KMap), E' = [(0, sv p0_a), (1, sv p1_b), (5, .slice (some ⟨g33, 0, none⟩) m39 m39), (24, .int .i64 (x30.length : Int)), (25, .int .i64 ((i55 : Nat) : Int))] ∧ SH w K [] w' K56 [obj g33 cs60 3] ∧ KLe K6 K56 ∧ RowAt true tInt K56 cs60 s51 ∧ m39 = s51.length) h53 ⟨cs34, K6, rfl, hS37, (KLe.refl _), hrow36, hm40⟩ ⟨rfl, rfl, rfl, rfl, rfl, trivial⟩ ?_ ?_
        · rintro i55 s51 _ w58 r63 hi64 h65 ⟨cs60, K56, rfl, hS59, hl57, hrow61, hm62⟩
          refine wc_seq (wc_region ?_)
          refine wl_val wn rfl (rv_lss rfl rfl) ?_
          refine wl_nil (qe_seq (wc_seq ?_))
          refine wc_cond_t rfl (decide_eq_true (by omega)) (wc_skip (qe_seq (wc_seq ?_)))
          refine wc_block ?_
          refine wc_seq ?_
          refine wc_region ?_
          refine wl_val wn rfl (rv_move rfl) ?_
          refine wl_val wn rfl (rv_assign rfl) ?_
          refine wl_nil ?_
          refine qe_seq ?_
          refine wc_region ?_
          refine wl_val wn rfl (rv_move rfl) ?_
          refine wl_val wn rfl (rv_move rfl) ?_
          refine wl_val wn rfl (rv_move rfl) ?_
          obtain ⟨x67, hx68, h69⟩ := Option.bind_eq_some_iff.1 h65
          obtain ⟨u70, hu71, hk72⟩ := RowAt.at hrow61 hx68
          obtain ⟨rfl, hr74⟩ := hu71
          have hk73 : ∀ (j : Nat) (d : Value), [.int .i64 x67][j]? = some d → cs60[((i55 : Nat) : Int).toNat * tInt.size + j]? = some d := hk72
          refine wl_val wn rfl (rv_indexRow (t := tInt) Try.underlying120 tf3 rfl rfl hm62 hx68) ?_
          refine wl_storeRow (t := tInt) (v := .int .i64 ((i55 : Nat) : Int)) (e := ((i55 : Nat) : Int)) wn tf3 rfl rfl ⟨rfl, (rng_idx hi64 (row_max hm40 hmx38))⟩ hS59 hrow61 hx68 ?_
          intro cs75 w76 hrow77 hS78
          have hm79 := hm62.trans (List.length_set (i := ((i55 : Nat) : Int).toNat) (a := ((i55 : Nat) : Int))).symm
          refine wl_nil ?_
          refine qe_block ?_
          refine qe_seq (wc_region ?_)
          refine wl_val wn rfl (rv_add_to rfl rfl (w64_succ hi64 (row_max hm40 hmx38))) ?_
          refine wl_val wn rfl (rv_move rfl) ?_
          refine wl_nil ?_
          obtain rfl := Option.some.inj h69
          exact qe_mid' ⟨cs75, K56, rfl, hS78, hl57, hrow77, hm79⟩ ⟨rfl, rfl, rfl, rfl, rfl, trivial⟩
        · rintro s51 _ w58 hr80 ⟨cs60, K56, rfl, hS59, hl57, hrow61, hm62⟩
          subst hr80
          refine wc_seq (wc_region ?_)
          refine wl_val wn rfl (rv_lss rfl rfl) ?_
          refine wl_nil (qe_seq (wc_seq ?_))
          refine wc_cond_f rfl (decide_eq_false (by omega)) ?_
          refine wc_exit ?_
          refine qe_then_exit ?_
          refine qe_then_exit ?_
          refine qe_block_eq ?_
          obtain rfl := Option.some.inj h54
          exact qe_mid' ⟨cs60, K56, rfl, hS59, hl57, hrow61, hm62⟩ ⟨rfl, rfl, rfl, trivial⟩
      · rintro _ w46 ⟨cs48, K44, rfl, hS47, hl45, hrow49, hm50⟩
        refine qe_seq ?_
        refine wc_seq ?_
        refine wc_seq ?_
        refine wc_region ?_
        refine wl_val wn rfl (rv_assign (v := .int .i64 1) rfl) ?_
        refine wl_nil ?_
        refine qe_seq ?_
        obtain ⟨o81, h82, h83⟩ := Option.bind_eq_some_iff.1 h43
        refine wc_cutg (fun E' w' => ∃ (cs88 : List Value) (K84 : KMap), E' = [(1, sv p1_b), (5, .slice (some ⟨g33, 0, none⟩) m39 m39)] ∧ SH w K [] w' K84 [obj g33 cs88 3] ∧ KLe K44 K84 ∧ RowAt true tInt K84 cs88 o81 ∧ m39 = o81.length) ?_ ?_
        · refine wc_block ?_
          obtain ⟨r92, h93, h94⟩ := Option.bind_eq_some_iff.1 h82
          refine wc_while' (fun (s91 : Int × (List Int)) E' w' => ∃ (cs100 : List Value) (K95 : KMap), E' = [(0, sv p0_a), (1, sv p1_b), (5, .slice (some ⟨g33, 0, none⟩) m39 m39), (7, .int .i64 s91.1)] ∧ SH w K [] w' K95 [obj g33 cs100 3] ∧ KLe K44 K95 ∧ rng64 s91.1 ∧ RowAt true tInt K95 cs100 s91.2 ∧ m39 = s91.2.length) h93 ⟨cs48, K44, rfl, hS47, (KLe.refl _), (by decide : rng64 1), hrow49, hm50⟩ ⟨rfl, rfl, rfl, rfl, trivial⟩ ?_
          rintro s91 _ w97 r103 h104 hx105 ⟨cs100, K95, rfl, hS98, hl96, hr99, hrow101, hm102⟩
          refine wc_seq ?_
          refine wc_seq ?_
          refine wc_region ?_
          refine wl_val wn rfl (rv_move rfl) ?_
          refine wl_val wn rfl (rv_move rfl) ?_
          refine wl_val wn rfl (rv_slen Try.underlying9 rfl) ?_
          refine wl_val wn rfl (rv_leq rfl rfl) ?_
          refine wl_nil ?_
          refine qe_seq ?_
          refine wc_cond rfl (fun hb106 => ?_) (fun hb106 => ?_)
          · have h107 := cond_t hb106 h104
            refine wc_skip ?_
            refine qe_seq ?_
            refine wc_seq ?_
            refine wc_block ?_
            refine wc_seq ?_
            refine wc_region ?_
            refine wl_val wn rfl (rv_move rfl) ?_
            obtain ⟨x108, hx109, h110⟩ := Option.bind_eq_some_iff.1 h107
            obtain ⟨u111, hu112, hk113⟩ := RowAt.at hrow101 hx109
            obtain ⟨rfl, hr115⟩ := hu112
            have hk114 : ∀ (j : Nat) (d : Value), [.int .i64 x108][j]? = some d → cs100[(0 : Int).toNat * tInt.size + j]? = some d := hk113
            refine wl_val wn rfl (rv_indexRow (t := tInt) Try.underlying120 tf3 rfl rfl hm102 hx109) ?_
            refine wl_val wn rfl (rh_loadR1 tf3 rfl rfl (hk114 0 _ rfl) (hS98.hasObj (.head _))) ?_
            refine wl_val wn rfl (rv_assign rfl) ?_
            refine wl_nil ?_
            refine qe_seq ?_
            refine wc_seq ?_
            refine wc_region ?_
            refine wl_val wn rfl (rv_move rfl) ?_
            refine wl_val wn rfl (rv_move rfl) ?_
            obtain ⟨x116, hx117, h118⟩ := Option.bind_eq_some_iff.1 h110
            obtain ⟨u119, hu120, hk121⟩ := RowAt.at hrow101 hx117
            obtain ⟨rfl, hr123⟩ := hu120
            have hk122 : ∀ (j : Nat) (d : Value), [.int .i64 x116][j]? = some d → cs100[(0 : Int).toNat * tInt.size + j]? = some d := hk121
            refine wl_val wn rfl (rv_indexRow (t := tInt) Try.underlying120 tf3 rfl rfl hm102 hx117) ?_
            refine wl_storeRow (t := tInt) (v := .int .i64 s91.1) (e := s91.1) wn tf3 rfl rfl ⟨rfl, hr99⟩ hS98 hrow101 hx117 ?_
            intro cs124 w125 hrow126 hS127
            have hm128 := hm102.trans (List.length_set (i := (0 : Int).toNat) (a := s91.1)).symm
            refine wl_nil ?_
            refine qe_seq ?_
            refine wc_seq ?_
            refine wc_region ?_
            refine wl_val wn rfl (rv_assign (v := .int .i64 1) rfl) ?_
            refine wl_nil ?_
            refine qe_seq ?_
            obtain ⟨o129, h130, h131⟩ := Option.bind_eq_some_iff.1 h118
            refine wc_cutg (fun E' w' => ∃ (cs136 : List Value) (K132 : KMap), E' = [(0, sv p0_a), (1, sv p1_b), (5, .slice (some ⟨g33, 0, none⟩) m39 m39), (7, .int .i64 s91.1)] ∧ SH w K [] w' K132 [obj g33 cs136 3] ∧ KLe K95 K132 ∧ RowAt true tInt K132 cs136 o129 ∧ m39 = o129.length) ?_ ?_
            · refine wc_block ?_
              obtain ⟨r140, h141, h142⟩ := Option.bind_eq_some_iff.1 h130
              refine wc_while' (fun (s139 : Int × Int × (List Int)) E' w' => ∃ (cs149 : List Value) (K143 : KMap), E' = [(0, sv p0_a), (1, sv p1_b), (5, .slice (some ⟨g33, 0, none⟩) m39 m39), (7, .int .i64 s91.1), (8, .int .i64 s139.1), (9, .int .i64 s139.2.1)] ∧ SH w K [] w' K143 [obj g33 cs149 3] ∧ KLe K95 K143 ∧ rng64 s139.1 ∧ rng64 s139.2.1 ∧ RowAt true tInt K143 cs149 s139.2.2 ∧ m39 = s139.2.2.length) h141 ⟨cs124, K95, rfl, hS127, (KLe.refl _), hr115, (by decide : rng64 1), hrow126, hm128⟩ ⟨rfl, rfl, rfl, rfl, rfl, rfl, trivial⟩ ?_
              rintro s139 _ w145 r152 h153 hx154 ⟨cs149, K143, rfl, hS146, hl144, hr147, hr148, hrow150, hm151⟩
              refine wc_seq ?_
              refine wc_seq ?_
              refine wc_region ?_
              refine wl_val wn rfl (rv_move rfl) ?_
              refine wl_val wn rfl (rv_move rfl) ?_
              refine wl_val wn rfl (rv_slen Try.underlying9 rfl) ?_
              refine wl_val wn rfl (rv_leq rfl rfl) ?_
              refine wl_nil ?_
              refine qe_seq ?_
              refine wc_cond rfl (fun hb155 => ?_) (fun hb155 => ?_)
              · have h156 := cond_t hb155 h153
                refine wc_skip ?_
                refine qe_seq ?_
                refine wc_seq ?_
                refine wc_block ?_
                refine wc_seq ?_
                refine wc_region ?_
                refine wl_val wn rfl (rv_move rfl) ?_
                refine wl_val wn rfl (rv_assign rfl) ?_
                refine wl_nil ?_
                refine qe_seq ?_
                refine wc_seq ?_
                refine wc_seq ?_
                refine wc_quiet mixed (by kernel_rfl) hS146 ?_
                refine wq_val wn rfl (fun _ _ => (rv_move rfl)) ?_
                refine wq_val wn rfl (fun _ _ => (rv_move rfl)) ?_
                refine wq_val wn rfl (fun _ _ => (rv_sub rfl rfl)) ?_
                obtain ⟨x157, hx158, h159⟩ := Option.bind_eq_some_iff.1 h156
                refine wq_val wn rfl (fun _ _ => (rv_sidx Try.underlying9 rfl rfl hx158)) ?_
                refine wq_val wn rfl (fun _ _ => (rv_move rfl)) ?_
                refine wq_val wn rfl (fun _ _ => (rv_move rfl)) ?_
                refine wq_val wn rfl (fun _ _ => (rv_sub rfl rfl)) ?_
                obtain ⟨x160, hx161, h162⟩ := Option.bind_eq_some_iff.1 h159
                refine wq_val wn rfl (fun _ _ => (rv_sidx Try.underlying9 rfl rfl hx161)) ?_
                refine wq_val wn rfl (fun _ _ => (rv_bne rfl rfl)) ?_
                refine wq_nil ?_
                rintro w164 ⟨K163, hS165, hl166⟩
                refine qe_seq ?_
                obtain ⟨o167, h168, h169⟩ := Option.bind_eq_some_iff.1 h162
                refine wc_cutg (fun E' w' => ∃ (K170 : KMap), E' = [(0, sv p0_a), (1, sv p1_b), (5, .slice (some ⟨g33, 0, none⟩) m39 m39), (7, .int .i64 s91.1), (9, .int .i64 s139.2.1), (10, .int .i64 o167)] ∧ SH w K [] w' K170 [obj g33 cs149 3] ∧ KLe K163 K170 ∧ rng64 o167) ?_ ?_
                · refine wc_cond rfl (fun hb175 => ?_) (fun hb175 => ?_)
                  · have h176 := cond_t hb175 h168
                    refine wc_region ?_
                    refine wl_val wn rfl (rv_move rfl) ?_
                    refine wl_val wn rfl (rv_add rfl rfl) ?_
                    refine wl_val wn rfl (rv_assign rfl) ?_
                    refine wl_nil ?_
                    obtain rfl := Option.some.inj h176
                    exact qe_mid' ⟨K163, rfl, hS165, (KLe.refl _), (w64_rng _)⟩ ⟨rfl, rfl, rfl, rfl, rfl, rfl, trivial⟩
                  · have h176 := cond_f hb175 h168
                    refine wc_skip ?_
                    obtain rfl := Option.some.inj h176
                    exact qe_mid' ⟨K163, rfl, hS165, (KLe.refl _), hr147⟩ ⟨rfl, rfl, rfl, rfl, rfl, rfl, trivial⟩
                · rintro _ w172 ⟨K170, rfl, hS173, hl171, hr174⟩
                  refine qe_seq ?_
                  refine wc_seq ?_
                  refine wc_region ?_
                  refine wl_val wn rfl (rv_move rfl) ?_
                  refine wl_val wn rfl (rv_move rfl) ?_
                  obtain ⟨x177, hx178, h179⟩ := Option.bind_eq_some_iff.1 h169
                  obtain ⟨u180, hu181, hk182⟩ := RowAt.at (RowAt.mono (hl166.trans hl171) hrow150) hx178
                  obtain ⟨rfl, hr184⟩ := hu181
                  have hk183 : ∀ (j : Nat) (d : Value), [.int .i64 x177][j]? = some d → cs149[s139.2.1.toNat * tInt.size + j]? = some d := hk182
                  refine wl_val wn rfl (rv_indexRow (t := tInt) Try.underlying120 tf3 rfl rfl hm151 hx178) ?_
                  refine wl_val wn rfl (rh_loadR1 tf3 rfl rfl (hk183 0 _ rfl) (hS173.hasObj (.head _))) ?_
                  refine wl_val wn rfl (rv_assign rfl) ?_
                  refine wl_nil ?_
                  refine qe_seq ?_
                  refine wc_held (fun w' => Holds K170 w') (fun w' => HasObj g33 cs149 w') 16 [(6, 7), (6, 15), (6, 16), (7, 14), (7, 15), (7, 16), (12, 13), (12, 15), (12, 16), (13, 14), (13, 15), (13, 16), (14, 15), (14, 16), (15, 16)] mixed ?_
                  have hS186 := SH.drew hS173
                  refine wg_val (i := 0) (listed' := #[true, false, false, false, false, false, false, false, false, false, false, false, false, false, false, false, false]) (fun _ => True) rfl (by kernel_rfl) (pk_block (pk_then (pk_then (pk_block (pk_then (pk_block (pk_then (pk_then (pk_block (pk_then (pk_then pk_body))))))))))) (by kernel_rfl) rfl (by kernel_rfl) (by kernel_rfl) rfl (.inl fun _ _ => trivial) ⟨(hS186.hasK (KLe.refl _)), (fun _ => hS186.hasObj (.head _)), by decide⟩ wn rfl (fun _ _ => (rv_move rfl)) ?_
                  refine wg_val (i := 1) (listed' := #[true, true, false, false, false, false, false, false, false, false, false, false, false, false, false, false, false]) (fun _ => True) rfl (by kernel_rfl) (pk_block (pk_then (pk_then (pk_block (pk_then (pk_block (pk_then (pk_then (pk_block (pk_then (pk_then pk_body))))))))))) (by kernel_rfl) rfl (by kernel_rfl) (by kernel_rfl) rfl (.inl fun _ _ => trivial) ⟨(hS186.hasK (KLe.refl _)), (fun _ => hS186.hasObj (.head _)), by decide⟩ wn rfl (fun _ _ => (rv_move rfl)) ?_
                  refine wg_val (i := 2) (listed' := #[true, true, true, false, false, false, false, false, false, false, false, false, false, false, false, false, false]) (fun _ => True) rfl (by kernel_rfl) (pk_block (pk_then (pk_then (pk_block (pk_then (pk_block (pk_then (pk_then (pk_block (pk_then (pk_then pk_body))))))))))) (by kernel_rfl) rfl (by kernel_rfl) (by kernel_rfl) rfl (.inl fun _ _ => trivial) ⟨(hS186.hasK (KLe.refl _)), (fun _ => hS186.hasObj (.head _)), by decide⟩ wn rfl (fun _ _ => (rv_move rfl)) ?_
                  refine wg_val (i := 3) (listed' := #[true, true, true, true, false, false, false, false, false, false, false, false, false, false, false, false, false]) (fun _ => True) rfl (by kernel_rfl) (pk_block (pk_then (pk_then (pk_block (pk_then (pk_block (pk_then (pk_then (pk_block (pk_then (pk_then pk_body))))))))))) (by kernel_rfl) rfl (by kernel_rfl) (by kernel_rfl) rfl (.inl fun _ _ => trivial) ⟨(hS186.hasK (KLe.refl _)), (fun _ => hS186.hasObj (.head _)), by decide⟩ wn rfl (fun _ _ => (rv_move rfl)) ?_
                  refine wg_val (i := 4) (listed' := #[true, true, true, true, true, false, false, false, false, false, false, false, false, false, false, false, false]) (fun _ => True) rfl (by kernel_rfl) (pk_block (pk_then (pk_then (pk_block (pk_then (pk_block (pk_then (pk_then (pk_block (pk_then (pk_then pk_body))))))))))) (by kernel_rfl) rfl (by kernel_rfl) (by kernel_rfl) rfl (.inl fun _ _ => trivial) ⟨(hS186.hasK (KLe.refl _)), (fun _ => hS186.hasObj (.head _)), by decide⟩ wn rfl (fun _ _ => (rv_move rfl)) ?_
                  obtain ⟨x188, hx189, h190⟩ := Option.bind_eq_some_iff.1 h179
                  obtain ⟨u191, hu192, hk193⟩ := RowAt.at (RowAt.mono (hl166.trans hl171) hrow150) hx189
                  obtain ⟨rfl, hr195⟩ := hu192
                  have hk194 : ∀ (j : Nat) (d : Value), [.int .i64 x188][j]? = some d → cs149[s139.2.1.toNat * tInt.size + j]? = some d := hk193
                  refine wg_val (i := 5) (listed' := #[true, true, true, true, true, true, false, false, false, false, false, false, false, false, false, false, false]) (fun _ => True) rfl (by kernel_rfl) (pk_block (pk_then (pk_then (pk_block (pk_then (pk_block (pk_then (pk_then (pk_block (pk_then (pk_then pk_body))))))))))) (by kernel_rfl) rfl (by kernel_rfl) (by kernel_rfl) rfl (.inl fun _ _ => trivial) ⟨(hS186.hasK (KLe.refl _)), (fun _ => hS186.hasObj (.head _)), by decide⟩ wn rfl (fun _ _ => (rv_indexRow (t := tInt) Try.underlying120 tf3 rfl rfl hm151 hx189)) ?_
                  refine wg_val (i := 6) (listed' := #[true, true, true, true, true, true, true, false, false, false, false, false, false, false, false, false, false]) (HasObj g33 cs149) rfl (by kernel_rfl) (pk_block (pk_then (pk_then (pk_block (pk_then (pk_block (pk_then (pk_then (pk_block (pk_then (pk_then pk_body))))))))))) (by kernel_rfl) rfl (by kernel_rfl) (by kernel_rfl) rfl (.inr ⟨rfl, fun _ _ h => h⟩) ⟨(hS186.hasK (KLe.refl _)), (fun _ => hS186.hasObj (.head _)), by decide⟩ wn rfl (fun _ h => (rh_loadR1 tf3 rfl rfl (hk194 0 _ rfl) h)) ?_
                  refine wg_val (i := 7) (listed' := #[true, true, true, true, true, true, true, true, false, false, false, false, false, false, false, false, false]) (fun _ => True) rfl (by kernel_rfl) (pk_block (pk_then (pk_then (pk_block (pk_then (pk_block (pk_then (pk_then (pk_block (pk_then (pk_then pk_body))))))))))) (by kernel_rfl) rfl (by kernel_rfl) (by kernel_rfl) rfl (.inl fun _ _ => trivial) ⟨(hS186.hasK (KLe.refl _)), (fun _ => hS186.hasObj (.head _)), by decide⟩ wn rfl (fun _ _ => (rv_add rfl rfl)) ?_
                  refine wg_val (i := 8) (listed' := #[true, true, true, true, true, true, true, true, true, false, false, false, false, false, false, false, false]) (fun _ => True) rfl (by kernel_rfl) (pk_block (pk_then (pk_then (pk_block (pk_then (pk_block (pk_then (pk_then (pk_block (pk_then (pk_then pk_body))))))))))) (by kernel_rfl) rfl (by kernel_rfl) (by kernel_rfl) rfl (.inl fun _ _ => trivial) ⟨(hS186.hasK (KLe.refl _)), (fun _ => hS186.hasObj (.head _)), by decide⟩ wn rfl (fun _ _ => (rv_move rfl)) ?_
                  refine wg_val (i := 9) (listed' := #[true, true, true, true, true, true, true, true, true, true, false, false, false, false, false, false, false]) (fun _ => True) rfl (by kernel_rfl) (pk_block (pk_then (pk_then (pk_block (pk_then (pk_block (pk_then (pk_then (pk_block (pk_then (pk_then pk_body))))))))))) (by kernel_rfl) rfl (by kernel_rfl) (by kernel_rfl) rfl (.inl fun _ _ => trivial) ⟨(hS186.hasK (KLe.refl _)), (fun _ => hS186.hasObj (.head _)), by decide⟩ wn rfl (fun _ _ => (rv_move rfl)) ?_
                  refine wg_val (i := 10) (listed' := #[true, true, true, true, true, true, true, true, true, true, true, false, false, false, false, false, false]) (fun _ => True) rfl (by kernel_rfl) (pk_block (pk_then (pk_then (pk_block (pk_then (pk_block (pk_then (pk_then (pk_block (pk_then (pk_then pk_body))))))))))) (by kernel_rfl) rfl (by kernel_rfl) (by kernel_rfl) rfl (.inl fun _ _ => trivial) ⟨(hS186.hasK (KLe.refl _)), (fun _ => hS186.hasObj (.head _)), by decide⟩ wn rfl (fun _ _ => (rv_sub rfl rfl)) ?_
                  obtain ⟨x196, hx197, h198⟩ := Option.bind_eq_some_iff.1 h190
                  obtain ⟨u199, hu200, hk201⟩ := RowAt.at (RowAt.mono (hl166.trans hl171) hrow150) hx197
                  obtain ⟨rfl, hr203⟩ := hu200
                  have hk202 : ∀ (j : Nat) (d : Value), [.int .i64 x196][j]? = some d → cs149[(w64 (s139.2.1 - (1 : Int))).toNat * tInt.size + j]? = some d := hk201
                  refine wg_val (i := 11) (listed' := #[true, true, true, true, true, true, true, true, true, true, true, true, false, false, false, false, false]) (fun _ => True) rfl (by kernel_rfl) (pk_block (pk_then (pk_then (pk_block (pk_then (pk_block (pk_then (pk_then (pk_block (pk_then (pk_then pk_body))))))))))) (by kernel_rfl) rfl (by kernel_rfl) (by kernel_rfl) rfl (.inl fun _ _ => trivial) ⟨(hS186.hasK (KLe.refl _)), (fun _ => hS186.hasObj (.head _)), by decide⟩ wn rfl (fun _ _ => (rv_indexRow (t := tInt) Try.underlying120 tf3 rfl rfl hm151 hx197)) ?_
                  refine wg_val (i := 12) (listed' := #[true, true, true, true, true, true, true, true, true, true, true, true, true, false, false, false, false]) (HasObj g33 cs149) rfl (by kernel_rfl) (pk_block (pk_then (pk_then (pk_block (pk_then (pk_block (pk_then (pk_then (pk_block (pk_then (pk_then pk_body))))))))))) (by kernel_rfl) rfl (by kernel_rfl) (by kernel_rfl) rfl (.inr ⟨rfl, fun _ _ h => h⟩) ⟨(hS186.hasK (KLe.refl _)), (fun _ => hS186.hasObj (.head _)), by decide⟩ wn rfl (fun _ h => (rh_loadR1 tf3 rfl rfl (hk202 0 _ rfl) h)) ?_
                  refine wg_val (i := 13) (listed' := #[true, true, true, true, true, true, true, true, true, true, true, true, true, true, false, false, false]) (fun _ => True) rfl (by kernel_rfl) (pk_block (pk_then (pk_then (pk_block (pk_then (pk_block (pk_then (pk_then (pk_block (pk_then (pk_then pk_body))))))))))) (by kernel_rfl) rfl (by kernel_rfl) (by kernel_rfl) rfl (.inl fun _ _ => trivial) ⟨(hS186.hasK (KLe.refl _)), (fun _ => hS186.hasObj (.head _)), by decide⟩ wn rfl (fun _ _ => (rv_add rfl rfl)) ?_
                  refine wg_val (i := 14) (listed' := #[true, true, true, true, true, true, true, true, true, true, true, true, true, true, true, false, false]) (fun _ => True) rfl (by kernel_rfl) (pk_block (pk_then (pk_then (pk_block (pk_then (pk_block (pk_then (pk_then (pk_block (pk_then (pk_then pk_body))))))))))) (by kernel_rfl) rfl (by kernel_rfl) (by kernel_rfl) rfl (.inl fun _ _ => trivial) ⟨(hS186.hasK (KLe.refl _)), (fun _ => hS186.hasObj (.head _)), by decide⟩ wn rfl (fun _ _ => (rv_min3 rfl rfl rfl)) ?_
                  obtain ⟨x204, hx205, h206⟩ := Option.bind_eq_some_iff.1 h198
                  obtain ⟨u207, hu208, hk209⟩ := RowAt.at (RowAt.mono (hl166.trans hl171) hrow150) hx205
                  obtain ⟨rfl, hr211⟩ := hu208
                  have hk210 : ∀ (j : Nat) (d : Value), [.int .i64 x204][j]? = some d → cs149[s139.2.1.toNat * tInt.size + j]? = some d := hk209
                  refine wg_val (i := 15) (listed' := #[true, true, true, true, true, true, true, true, true, true, true, true, true, true, true, true, false]) (fun _ => True) rfl (by kernel_rfl) (pk_block (pk_then (pk_then (pk_block (pk_then (pk_block (pk_then (pk_then (pk_block (pk_then (pk_then pk_body))))))))))) (by kernel_rfl) rfl (by kernel_rfl) (by kernel_rfl) rfl (.inl fun _ _ => trivial) ⟨(hS186.hasK (KLe.refl _)), (fun _ => hS186.hasObj (.head _)), by decide⟩ wn rfl (fun _ _ => (rv_indexRow (t := tInt) Try.underlying120 tf3 rfl rfl hm151 hx205)) ?_
                  refine wg_one (i := 16) (by kernel_rfl) rfl ?_
                  refine wl_storeRow (t := tInt) (v := .int .i64 (if (w64 (x196 + (1 : Int))) < (if (w64 (x188 + (1 : Int))) < o167 then (w64 (x188 + (1 : Int))) else o167) then (w64 (x196 + (1 : Int))) else (if (w64 (x188 + (1 : Int))) < o167 then (w64 (x188 + (1 : Int))) else o167))) (e := (if (w64 (x196 + (1 : Int))) < (if (w64 (x188 + (1 : Int))) < o167 then (w64 (x188 + (1 : Int))) else o167) then (w64 (x196 + (1 : Int))) else (if (w64 (x188 + (1 : Int))) < o167 then (w64 (x188 + (1 : Int))) else o167))) wn tf3 rfl rfl ⟨rfl, (rng_min (rng_min hr174 (w64_rng _)) (w64_rng _))⟩ hS186 (RowAt.mono (hl166.trans hl171) hrow150) hx205 ?_
                  intro cs212 w213 hrow214 hS215
                  have hm216 := hm151.trans (List.length_set (i := s139.2.1.toNat) (a := (if (w64 (x196 + (1 : Int))) < (if (w64 (x188 + (1 : Int))) < o167 then (w64 (x188 + (1 : Int))) else o167) then (w64 (x196 + (1 : Int))) else (if (w64 (x188 + (1 : Int))) < o167 then (w64 (x188 + (1 : Int))) else o167)))).symm
                  refine wl_nil (qe_held (listed' := #[true, true, true, true, true, true, true, true, true, true, true, true, true, true, true, true, true]) rfl ⟨(hS215.hasK (KLe.refl _)), (fun h => by cases h), by decide⟩ ?_)
                  refine wg_done (by kernel_rfl) ?_
                  refine qe_block ?_
                  refine qe_seq ?_
                  refine wc_region ?_
                  refine wl_val wn rfl (rv_move rfl) ?_
                  refine wl_val wn rfl (rv_add rfl rfl) ?_
                  refine wl_val wn rfl (rv_assign rfl) ?_
                  refine wl_nil ?_
                  obtain rfl := Option.some.inj h206
                  exact qe_mid' ⟨_, rfl, cs212, K170, rfl, hS215, ((hl144.trans hl166).trans hl171), hr184, (w64_rng _), hrow214, hm216⟩ ⟨rfl, rfl, rfl, rfl, rfl, rfl, trivial⟩
              · have h156 := cond_f hb155 h153
                refine wc_exit ?_
                refine qe_then_exit ?_
                refine qe_then_exit ?_
                obtain rfl := Option.some.inj h156
                have e217 := hx154 _ rfl
                subst e217
                refine qe_block_eq ?_
                obtain rfl := Option.some.inj h142
                exact qe_mid' ⟨cs149, K143, rfl, hS146, hl144, hrow150, hm151⟩ ⟨rfl, rfl, rfl, rfl, trivial⟩
            · rintro _ w134 ⟨cs136, K132, rfl, hS135, hl133, hrow137, hm138⟩
              refine qe_block ?_
              refine qe_seq ?_
              refine wc_region ?_
              refine wl_val wn rfl (rv_move rfl) ?_
              refine wl_val wn rfl (rv_add rfl rfl) ?_
              refine wl_val wn rfl (rv_assign rfl) ?_
              refine wl_nil ?_
              obtain rfl := Option.some.inj h131
              exact qe_mid' ⟨_, rfl, cs136, K132, rfl, hS135, (hl96.trans hl133), (w64_rng _), hrow137, hm138⟩ ⟨rfl, rfl, rfl, rfl, trivial⟩
          · have h107 := cond_f hb106 h104
            refine wc_exit ?_
            refine qe_then_exit ?_
            refine qe_then_exit ?_
            obtain rfl := Option.some.inj h107
            have e218 := hx105 _ rfl
            subst e218
            refine qe_block_eq ?_
            obtain rfl := Option.some.inj h94
            exact qe_mid' ⟨cs100, K95, rfl, hS98, hl96, hrow101, hm102⟩ ⟨rfl, rfl, trivial⟩
        · rintro _ w86 ⟨cs88, K84, rfl, hS87, hl85, hrow89, hm90⟩
          refine qe_seq ?_
          refine wc_seq ?_
          refine wc_region ?_
          refine wl_val wn rfl (rv_move rfl) ?_
          refine wl_val wn rfl (rv_move rfl) ?_
          refine wl_val wn rfl (rv_slen Try.underlying9 rfl) ?_
          obtain ⟨x219, hx220, h221⟩ := Option.bind_eq_some_iff.1 h83
          obtain ⟨u222, hu223, hk224⟩ := RowAt.at hrow89 hx220
          obtain ⟨rfl, hr226⟩ := hu223
          have hk225 : ∀ (j : Nat) (d : Value), [.int .i64 x219][j]? = some d → cs88[(p1_b.length : Int).toNat * tInt.size + j]? = some d := hk224
          refine wl_val wn rfl (rv_indexRow (t := tInt) Try.underlying120 tf3 rfl rfl hm90 hx220) ?_
          refine wl_val wn rfl (rh_loadR1 tf3 rfl rfl (hk225 0 _ rfl) (hS87.hasObj (.head _))) ?_
          refine wl_val wn rfl (rv_assign rfl) ?_
          refine wl_nil ?_
          refine qe_seq ?_
          refine wc_ret ?_
          obtain rfl := Option.some.inj h221
          have hS227 : SH _ _ _ _ _ [] := SH.sublist hS87 (.cons _ .slnil)
          exact qe_ret (vs := [_]) Try.results73 ⟨rfl, trivial⟩ ⟨K84, rfl, hS227, hr226⟩

theorem ok_impl_NearOf (F : Nat) {w : World} {K : KMap} {a1 : Option Addr} {n2 c3 : Nat} {p0_words : List Str} {p1_s : Str} {p2_far : Int} {r : (List Str)} (hS : SH w K [] w K []) (hs4 : SliceAt tStr K a1 n2 c3 p0_words) (hl5 : p1_s.length ≤ maxLen) (hr6 : rng64 p2_far) (hm : M.impl_NearOf F p0_words p1_s p2_far = some r) :
    Calls Try.prog 28 #[.slice a1 n2 c3, sv p1_s, .int .i64 p2_far] w fun e w' => ∃ (a_1 : Option Addr) (n_2 c_3 : Nat) (K' : KMap), e = .returned (.slice a_1 n_2 c_3) ∧ SH w K [] w' K' [tail (.slice a_1 n_2 c_3) 9 1] ∧ SliceAt tStr K' a_1 n_2 c_3 r := by
  rw [M.impl_NearOf] at hm
  refine calls_in Try.func28 rfl Try.ntmps28 rfl ?_
  refine wc_seq ?_
  refine wc_region ?_
  refine wl_val wn rfl (rv_assign (v := .slice none 0 0) rfl) ?_
  refine wl_nil ?_
  refine qe_seq ?_
  refine wc_seq ?_
  refine wc_region ?_
  refine wl_buildSlice0 tStr wn rfl Try.underlying47 tf9 hS ?_
  intro a7 w8 K9 hl10 hs11 hS12
  refine wl_val wn rfl (rv_assign rfl) ?_
  refine wl_nil ?_
  refine qe_seq ?_
  refine wc_seq ?_
  refine wc_seq ?_
  obtain ⟨o13, h14, h15⟩ := Option.bind_eq_some_iff.1 hm
  refine wc_cutg (fun E' w' => ∃ (K16 : KMap), E' = [(0, .slice a1 n2 c3), (1, sv p1_s), (2, .int .i64 p2_far), (7, .slice a7 0 0), (23, .bool o13)] ∧ SH w K [] w' K16 [tail (.slice a7 0 0) 9 1] ∧ KLe K9 K16) ?_ ?_
  · refine wc_region ?_
    refine wl_val wn rfl (rv_move rfl) ?_
    obtain ⟨r20, hx21, h22⟩ := Option.bind_eq_some_iff.1 h14
    refine wl_call wn rfl (rt_call (vs := [.slice a1 n2 c3]) co26 rfl) ((ok_impl_WordsUp F) hS12.enter0 (SliceAt.mono hl10 hs4) hx21) ?_
    rintro e26 w24 ⟨K23, rfl, hS25⟩
    refine ⟨_, rfl, ?_⟩
    have hS27 : SH _ _ _ _ _ [_] := SH.call0 hS12 hS25
    refine wl_val wn rfl (rv_not rfl) ?_
    refine wl_val wn rfl (rv_move rfl) ?_
    rcases bool_tf ((!r20)) with hb28 | hb28
    · have h29 := cond_t hb28 h22
      refine wl_un (ug rfl rfl hb28) rfl ?_
      refine wl_un (ug rfl rfl hb28) rfl ?_
      refine wl_un (ug rfl rfl hb28) rfl ?_
      refine wl_val wn rfl (rv_pick_t (v := .bool true) rfl hb28 rfl) ?_
      refine wl_val wn rfl (rv_move rfl) ?_
      refine wl_un (ug rfl rfl rfl) rfl ?_
      refine wl_un (ug rfl rfl rfl) rfl ?_
      refine wl_un (ug rfl rfl rfl) rfl ?_
      refine wl_val wn rfl (rv_pick_t (v := .bool true) rfl rfl rfl) ?_
      refine wl_nil ?_
      obtain rfl := Option.some.inj h29
      exact qe_mid' ⟨K23, rfl, hS27, hS25.le⟩ ⟨rfl, rfl, rfl, rfl, rfl, trivial⟩
    · have h29 := cond_f hb28 h22
      refine wl_val (wg rfl rfl hb28) rfl (rv_move rfl) ?_
      obtain ⟨r30, hx31, h32⟩ := Option.bind_eq_some_iff.1 h29
      refine wl_call (wg rfl rfl hb28) rfl (rt_call (vs := [sv p1_s]) co52 rfl) ((ok_impl_WordOk F) hS27.enter0 hl5 hx31) ?_
      rintro e36 w34 ⟨K33, rfl, hS35⟩
      refine ⟨_, rfl, ?_⟩
      have hS37 : SH _ _ _ _ _ [_] := SH.call0 hS27 hS35
      refine wl_val (wg rfl rfl hb28) rfl (rv_not rfl) ?_
      refine wl_val wn rfl (rv_pick_f rfl hb28 rfl) ?_
      refine wl_val wn rfl (rv_move rfl) ?_
      rcases bool_tf ((!r30)) with hb38 | hb38
      · have h39 := cond_t hb38 h32
        refine wl_un (ug rfl rfl hb38) rfl ?_
        refine wl_un (ug rfl rfl hb38) rfl ?_
        refine wl_un (ug rfl rfl hb38) rfl ?_
        refine wl_val wn rfl (rv_pick_t (v := .bool true) rfl hb38 rfl) ?_
        refine wl_nil ?_
        obtain rfl := Option.some.inj h39
        exact qe_mid' ⟨K33, rfl, hS37, (hS25.le.trans hS35.le)⟩ ⟨rfl, rfl, rfl, rfl, rfl, trivial⟩
      · have h39 := cond_f hb38 h32
        refine wl_val (wg rfl rfl hb38) rfl (rv_move rfl) ?_
        obtain ⟨r40, hx41, h42⟩ := Option.bind_eq_some_iff.1 h39
        refine wl_call (wg rfl rfl hb38) rfl (rt_call (vs := [.int .i64 p2_far, .int .i64 0, .int .i64 2]) co72 rfl) ((ok_impl_within F) hS37.enter0 hr6 (by decide : rng64 0) (by decide : rng64 2) hx41) ?_
        rintro e46 w44 ⟨K43, rfl, hS45⟩
        refine ⟨_, rfl, ?_⟩
        have hS47 : SH _ _ _ _ _ [_] := SH.call0 hS37 hS45
        refine wl_val (wg rfl rfl hb38) rfl (rv_not rfl) ?_
        refine wl_val wn rfl (rv_pick_f rfl hb38 rfl) ?_
        refine wl_nil ?_
        obtain rfl := Option.some.inj h42
        exact qe_mid' ⟨K43, rfl, hS47, ((hS25.le.trans hS35.le).trans hS45.le)⟩ ⟨rfl, rfl, rfl, rfl, rfl, trivial⟩
  · rintro _ w18 ⟨K16, rfl, hS19, hl17⟩
    refine qe_seq ?_
    refine wc_cond rfl (fun hb48 => ?_) (fun hb48 => ?_)
    · have h49 := cond_t hb48 h15
      refine wc_seq ?_
      refine wc_region ?_
      refine wl_val wn rfl (rv_move rfl) ?_
      refine wl_val wn rfl (rv_assign rfl) ?_
      refine wl_nil ?_
      refine qe_seq ?_
      refine wc_ret ?_
      refine qe_then_ret ?_
      obtain rfl := Option.some.inj h49
      exact qe_ret (vs := [_]) Try.results28 ⟨rfl, trivial⟩ ⟨a7, 0, 0, K16, rfl, hS19, (SliceAt.mono hl17 hs11)⟩
    · have h49 := cond_f hb48 h15
      refine wc_skip ?_
      refine qe_seq ?_
      refine wc_seq ?_
      refine wc_seq ?_
      refine wc_region ?_
      refine wl_val wn rfl (rv_move rfl) ?_
      refine wl_val wn rfl (rv_len (t := tStr) Try.underlying47 rfl (SliceAt.mono (hl10.trans hl17) hs4)) ?_
      refine wl_val wn rfl (rv_move (v := .int .i64 0) rfl) ?_
      refine wl_nil ?_
      refine qe_seq ?_
      obtain ⟨o50, h51, h52⟩ := Option.bind_eq_some_iff.1 h49
      refine wc_cutg (fun E' w' => ∃ (a57 : Option Addr) (n58 c59 : Nat) (K53 : KMap), E' = [(7, .slice a57 n58 c59)] ∧ SH w K [] w' K53 [tail (.slice a57 n58 c59) 9 1] ∧ KLe K16 K53 ∧ SliceAt tStr K53 a57 n58 c59 o50) ?_ ?_
      · refine wc_block ?_
        obtain ⟨r62, h63, h64⟩ := Option.bind_eq_some_iff.1 h51
        refine wc_forE' (fun (i65 : Nat) (s61 : (List Str)) E' w' => ∃ (a70 : Option Addr) (n71 c72 : Nat) (K66 : KMap), E' = [(1, sv p1_s), (2, .int .i64 p2_far), (7, .slice a70 n71 c72), (25, .slice a1 n2 c3), (26, .int .i64 (p0_words.length : Int)), (27, .int .i64 ((i65 : Nat) : Int))] ∧ SH w K [] w' K66 [tail (.slice a70 n71 c72) 9 1] ∧ KLe K16 K66 ∧ SliceAt tStr K66 a70 n71 c72 s61) h63 ⟨a7, 0, 0, K16, rfl, hS19, (KLe.refl _), (SliceAt.mono hl17 hs11)⟩ ⟨rfl, rfl, rfl, rfl, rfl, rfl, trivial⟩ ?_ ?_
        · rintro i65 s61 _ w68 r74 hi75 h76 ⟨a70, n71, c72, K66, rfl, hS69, hl67, hs73⟩
          refine wc_seq (wc_region ?_)
          refine wl_val wn rfl (rv_lss rfl rfl) ?_
          refine wl_nil (qe_seq (wc_seq ?_))
          refine wc_cond_t rfl (decide_eq_true (by omega)) (wc_skip (qe_seq (wc_seq ?_)))
          refine wc_block ?_
          refine wc_seq ?_
          refine wc_region ?_
          obtain ⟨x78, hx79, h80⟩ := Option.bind_eq_some_iff.1 h76
          refine wl_indexAddr (t := tStr) wn rfl Try.underlying47 tf9 rfl rfl (SliceAt.mono ((hl10.trans hl17).trans hl67) hs4) hx79 ?_
          intro b81 o82 u83 hu84 ha85
          obtain ⟨rfl, hl86⟩ := hu84
          have ha87 : AtK _ b81 o82 [sv x78] := ha85
          refine wl_val wn rfl (rv_load1 tf9 rfl hS69 (ha87 0 _ rfl)) ?_
          refine wl_val wn rfl (rv_assign rfl) ?_
          refine wl_nil ?_
          refine qe_seq ?_
          refine wc_seq ?_
          refine wc_region ?_
          refine wl_val wn rfl (rv_move rfl) ?_
          refine wl_val wn rfl (rv_move rfl) ?_
          obtain ⟨r88, hx89, h90⟩ := Option.bind_eq_some_iff.1 h80
          refine wl_call wn rfl (rt_call (vs := [sv x78, sv p1_s]) co73 rfl) ((ok_impl_NearFar F) hS69.enter0 hl86 hl5 hx89) ?_
          rintro e95 w92 ⟨K91, rfl, hS93, hr94⟩
          refine ⟨_, rfl, ?_⟩
          have hS96 : SH _ _ _ _ _ [_] := SH.call0 hS69 hS93
          refine wl_val wn rfl (rv_move rfl) ?_
          refine wl_val wn rfl (rv_leq rfl rfl) ?_
          refine wl_nil ?_
          refine qe_seq ?_
          refine wc_cond rfl (fun hb97 => ?_) (fun hb97 => ?_)
          · have h98 := cond_t hb97 h90
            refine wc_region ?_
            refine wl_val wn rfl (rv_move rfl) ?_
            refine wl_val wn rfl (rv_move rfl) ?_
            refine wl_buildSlice (t := tStr) (n := 1) (pv := [(0, sv x78)]) (cs := [sv x78]) (xs := [x78]) wn rfl Try.underlying47 tf9 rfl rfl rfl (by kernel_rfl) rfl rfl (lit_cons (u := sv x78) (z := x78) ⟨rfl, hl86⟩ lit_nil) hS96 ?_
            intro a99 w100 K101 hl102 hs103 hS104
            have hS105 : SH _ _ _ _ _ [_, _] := SH.front (p := [_]) hS104
            obtain ⟨x106, hx107, h108⟩ := Option.bind_eq_some_iff.1 h98
            refine wl_append (t := tStr) wn rfl Try.underlying47 tf9 rfl rfl rfl rfl rfl (SliceAt.mono (hS93.le.trans hl102) hs73) hs103 hx107 hS105 ?_
            intro a109 n110 c111 w112 K113 hl114 hs115 hS116
            refine wl_val wn rfl (rv_assign rfl) ?_
            refine wl_nil ?_
            refine qe_block ?_
            refine qe_seq (wc_region ?_)
            refine wl_val wn rfl (rv_add_to rfl rfl (w64_succ hi75 (SliceAt.max (SliceAt.mono (hl10.trans hl17) hs4)))) ?_
            refine wl_val wn rfl (rv_move rfl) ?_
            refine wl_nil ?_
            obtain rfl := Option.some.inj h108
            have hS117 : SH _ _ _ _ _ [_] := SH.sublist hS116 (.cons_cons _ (.cons _ .slnil))
            exact qe_mid' ⟨a109, n110, c111, K113, rfl, hS117, (((hl67.trans hS93.le).trans hl102).trans hl114), hs115⟩ ⟨rfl, rfl, rfl, rfl, rfl, rfl, trivial⟩
          · have h98 := cond_f hb97 h90
            refine wc_skip ?_
            refine qe_block ?_
            refine qe_seq (wc_region ?_)
            refine wl_val wn rfl (rv_add_to rfl rfl (w64_succ hi75 (SliceAt.max (SliceAt.mono (hl10.trans hl17) hs4)))) ?_
            refine wl_val wn rfl (rv_move rfl) ?_
            refine wl_nil ?_
            obtain rfl := Option.some.inj h98
            exact qe_mid' ⟨a70, n71, c72, K91, rfl, hS96, (hl67.trans hS93.le), (SliceAt.mono hS93.le hs73)⟩ ⟨rfl, rfl, rfl, rfl, rfl, rfl, trivial⟩
        · rintro s61 _ w68 hr118 ⟨a70, n71, c72, K66, rfl, hS69, hl67, hs73⟩
          subst hr118
          refine wc_seq (wc_region ?_)
          refine wl_val wn rfl (rv_lss rfl rfl) ?_
          refine wl_nil (qe_seq (wc_seq ?_))
          refine wc_cond_f rfl (decide_eq_false (by omega)) ?_
          refine wc_exit ?_
          refine qe_then_exit ?_
          refine qe_then_exit ?_
          refine qe_block_eq ?_
          obtain rfl := Option.some.inj h64
          exact qe_mid' ⟨a70, n71, c72, K66, rfl, hS69, hl67, hs73⟩ ⟨rfl, trivial⟩
      · rintro _ w55 ⟨a57, n58, c59, K53, rfl, hS56, hl54, hs60⟩
        refine qe_seq ?_
        refine wc_seq ?_
        refine wc_region ?_
        refine wl_val wn rfl (rv_move rfl) ?_
        refine wl_val wn rfl (rv_assign rfl) ?_
        refine wl_nil ?_
        refine qe_seq ?_
        refine wc_ret ?_
        obtain rfl := Option.some.inj h52
        exact qe_ret (vs := [_]) Try.results28 ⟨rfl, trivial⟩ ⟨a57, n58, c59, K53, rfl, hS56, hs60⟩
end Go.Proofs.Ytajfhpaokbgmeaa
