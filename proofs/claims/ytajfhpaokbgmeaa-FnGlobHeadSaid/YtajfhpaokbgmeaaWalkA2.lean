/-
  Walks of the functions. Printed by gen.py.
-/
import Derived.Test.YtajfhpaokbgmeaaWalkA1
set_option linter.unusedVariables false
namespace Go.Proofs.Ytajfhpaokbgmeaa
open Go Go.Fk Go.RowKit

theorem ok_impl_GlobHas (F : Nat) {w : World} {K : KMap} {p0_p : Str} {p1_s : Str} {r : Bool} (hS : SH w K [] w K []) (hl1 : p0_p.length ≤ maxLen) (hl2 : p1_s.length ≤ maxLen) (hm : M.impl_GlobHas F p0_p p1_s = some r) :
    Calls Try.prog 66 #[sv p0_p, sv p1_s] w fun e w' => ∃ (K' : KMap), e = .returned (.bool r) ∧ SH w K [] w' K' [] := by
  rw [M.impl_GlobHas] at hm
  refine calls_in Try.func66 rfl Try.ntmps66 rfl ?_
  refine wc_seq ?_
  refine wc_region ?_
  refine wl_val wn rfl (rv_assign (v := .bool false) rfl) ?_
  refine wl_nil ?_
  refine qe_seq ?_
  refine wc_seq ?_
  refine wc_region ?_
  refine wl_val wn rfl (rv_move rfl) ?_
  obtain ⟨r3, hx4, h5⟩ := Option.bind_eq_some_iff.1 hm
  refine wl_call wn rfl (rt_call (vs := [sv p0_p]) co65 rfl) ((ok_impl_GlobOk F) hS.enter0 hl1 hx4) ?_
  rintro e9 w7 ⟨K6, rfl, hS8⟩
  refine ⟨_, rfl, ?_⟩
  have hS10 : SH _ _ _ _ _ [] := SH.call0 hS hS8
  refine wl_val wn rfl (rv_move rfl) ?_
  rcases bool_tf (r3) with hb11 | hb11
  · have h12 := cond_t hb11 h5
    refine wl_val (wg rfl rfl hb11) rfl (rv_move rfl) ?_
    obtain ⟨r13, hx14, h15⟩ := Option.bind_eq_some_iff.1 h12
    refine wl_call (wg rfl rfl hb11) rfl (rt_call (vs := [sv p1_s]) co52 rfl) ((ok_impl_WordOk F) hS10.enter0 hl2 hx14) ?_
    rintro e19 w17 ⟨K16, rfl, hS18⟩
    refine ⟨_, rfl, ?_⟩
    have hS20 : SH _ _ _ _ _ [] := SH.call0 hS10 hS18
    refine wl_val wn rfl (rv_pick_t rfl hb11 rfl) ?_
    refine wl_val wn rfl (rv_move rfl) ?_
    rcases bool_tf (r13) with hb21 | hb21
    · have h22 := cond_t hb21 h15
      refine wl_val (wg rfl rfl hb21) rfl (rv_move rfl) ?_
      refine wl_val (wg rfl rfl hb21) rfl (rv_move rfl) ?_
      obtain ⟨r23, hx24, h25⟩ := Option.bind_eq_some_iff.1 h22
      refine wl_call (wg rfl rfl hb21) rfl (rt_call (vs := [sv p0_p, sv p1_s]) co106 rfl) ((ok_impl_globHas F) hS20.enter0 hl1 hl2 hx24) ?_
      rintro e29 w27 ⟨K26, rfl, hS28⟩
      refine ⟨_, rfl, ?_⟩
      have hS30 : SH _ _ _ _ _ [] := SH.call0 hS20 hS28
      refine wl_val wn rfl (rv_pick_t rfl hb21 rfl) ?_
      refine wl_val wn rfl (rv_assign rfl) ?_
      refine wl_nil ?_
      refine qe_seq ?_
      refine wc_ret ?_
      obtain rfl := Option.some.inj h25
      exact qe_ret (vs := [_]) Try.results66 ⟨rfl, trivial⟩ ⟨K26, rfl, hS30⟩
    · have h22 := cond_f hb21 h15
      refine wl_un (ug rfl rfl hb21) rfl ?_
      refine wl_un (ug rfl rfl hb21) rfl ?_
      refine wl_un (ug rfl rfl hb21) rfl ?_
      refine wl_val wn rfl (rv_pick_f (v := .bool false) rfl hb21 rfl) ?_
      refine wl_val wn rfl (rv_assign rfl) ?_
      refine wl_nil ?_
      refine qe_seq ?_
      refine wc_ret ?_
      obtain rfl := Option.some.inj h22
      exact qe_ret (vs := [_]) Try.results66 ⟨rfl, trivial⟩ ⟨K16, rfl, hS20⟩
  · have h12 := cond_f hb11 h5
    refine wl_un (ug rfl rfl hb11) rfl ?_
    refine wl_un (ug rfl rfl hb11) rfl ?_
    refine wl_val wn rfl (rv_pick_f (v := .bool false) rfl hb11 rfl) ?_
    refine wl_val wn rfl (rv_move rfl) ?_
    refine wl_un (ug rfl rfl rfl) rfl ?_
    refine wl_un (ug rfl rfl rfl) rfl ?_
    refine wl_un (ug rfl rfl rfl) rfl ?_
    refine wl_val wn rfl (rv_pick_f (v := .bool false) rfl rfl rfl) ?_
    refine wl_val wn rfl (rv_assign rfl) ?_
    refine wl_nil ?_
    refine qe_seq ?_
    refine wc_ret ?_
    obtain rfl := Option.some.inj h12
    exact qe_ret (vs := [_]) Try.results66 ⟨rfl, trivial⟩ ⟨K6, rfl, hS10⟩

theorem ok_impl_GlobOf (F : Nat) {w : World} {K : KMap} {a1 : Option Addr} {n2 c3 : Nat} {p0_words : List Str} {p1_p : Str} {r : (List Str)} (hS : SH w K [] w K []) (hs4 : SliceAt tStr K a1 n2 c3 p0_words) (hl5 : p1_p.length ≤ maxLen) (hm : M.impl_GlobOf F p0_words p1_p = some r) :
    Calls Try.prog 23 #[.slice a1 n2 c3, sv p1_p] w fun e w' => ∃ (a_1 : Option Addr) (n_2 c_3 : Nat) (K' : KMap), e = .returned (.slice a_1 n_2 c_3) ∧ SH w K [] w' K' [tail (.slice a_1 n_2 c_3) 9 1] ∧ SliceAt tStr K' a_1 n_2 c_3 r := by
  rw [M.impl_GlobOf] at hm
  refine calls_in Try.func23 rfl Try.ntmps23 rfl ?_
  refine wc_seq ?_
  refine wc_region ?_
  refine wl_val wn rfl (rv_assign (v := .slice none 0 0) rfl) ?_
  refine wl_nil ?_
  refine qe_seq ?_
  refine wc_seq ?_
  refine wc_region ?_
  refine wl_buildSlice0 tStr wn rfl Try.underlying47 tf9 hS ?_
  intro a6 w7 K8 hl9 hs10 hS11
  refine wl_val wn rfl (rv_assign rfl) ?_
  refine wl_nil ?_
  refine qe_seq ?_
  refine wc_seq ?_
  refine wc_seq ?_
  obtain ⟨o12, h13, h14⟩ := Option.bind_eq_some_iff.1 hm
  refine wc_cutg (fun E' w' => ∃ (K15 : KMap), E' = [(0, .slice a1 n2 c3), (1, sv p1_p), (5, .slice a6 0 0), (16, .bool o12)] ∧ SH w K [] w' K15 [tail (.slice a6 0 0) 9 1] ∧ KLe K8 K15) ?_ ?_
  · refine wc_region ?_
    refine wl_val wn rfl (rv_move rfl) ?_
    obtain ⟨r19, hx20, h21⟩ := Option.bind_eq_some_iff.1 h13
    refine wl_call wn rfl (rt_call (vs := [.slice a1 n2 c3]) co26 rfl) ((ok_impl_WordsUp F) hS11.enter0 (SliceAt.mono hl9 hs4) hx20) ?_
    rintro e25 w23 ⟨K22, rfl, hS24⟩
    refine ⟨_, rfl, ?_⟩
    have hS26 : SH _ _ _ _ _ [_] := SH.call0 hS11 hS24
    refine wl_val wn rfl (rv_not rfl) ?_
    refine wl_val wn rfl (rv_move rfl) ?_
    rcases bool_tf ((!r19)) with hb27 | hb27
    · have h28 := cond_t hb27 h21
      refine wl_un (ug rfl rfl hb27) rfl ?_
      refine wl_un (ug rfl rfl hb27) rfl ?_
      refine wl_un (ug rfl rfl hb27) rfl ?_
      refine wl_val wn rfl (rv_pick_t (v := .bool true) rfl hb27 rfl) ?_
      refine wl_nil ?_
      obtain rfl := Option.some.inj h28
      exact qe_mid' ⟨K22, rfl, hS26, hS24.le⟩ ⟨rfl, rfl, rfl, rfl, trivial⟩
    · have h28 := cond_f hb27 h21
      refine wl_val (wg rfl rfl hb27) rfl (rv_move rfl) ?_
      obtain ⟨r29, hx30, h31⟩ := Option.bind_eq_some_iff.1 h28
      refine wl_call (wg rfl rfl hb27) rfl (rt_call (vs := [sv p1_p]) co65 rfl) ((ok_impl_GlobOk F) hS26.enter0 hl5 hx30) ?_
      rintro e35 w33 ⟨K32, rfl, hS34⟩
      refine ⟨_, rfl, ?_⟩
      have hS36 : SH _ _ _ _ _ [_] := SH.call0 hS26 hS34
      refine wl_val (wg rfl rfl hb27) rfl (rv_not rfl) ?_
      refine wl_val wn rfl (rv_pick_f rfl hb27 rfl) ?_
      refine wl_nil ?_
      obtain rfl := Option.some.inj h31
      exact qe_mid' ⟨K32, rfl, hS36, (hS24.le.trans hS34.le)⟩ ⟨rfl, rfl, rfl, rfl, trivial⟩
  · rintro _ w17 ⟨K15, rfl, hS18, hl16⟩
    refine qe_seq ?_
    refine wc_cond rfl (fun hb37 => ?_) (fun hb37 => ?_)
    · have h38 := cond_t hb37 h14
      refine wc_seq ?_
      refine wc_region ?_
      refine wl_val wn rfl (rv_move rfl) ?_
      refine wl_val wn rfl (rv_assign rfl) ?_
      refine wl_nil ?_
      refine qe_seq ?_
      refine wc_ret ?_
      refine qe_then_ret ?_
      obtain rfl := Option.some.inj h38
      exact qe_ret (vs := [_]) Try.results23 ⟨rfl, trivial⟩ ⟨a6, 0, 0, K15, rfl, hS18, (SliceAt.mono hl16 hs10)⟩
    · have h38 := cond_f hb37 h14
      refine wc_skip ?_
      refine qe_seq ?_
      refine wc_seq ?_
      refine wc_seq ?_
      refine wc_region ?_
      refine wl_val wn rfl (rv_move rfl) ?_
      refine wl_val wn rfl (rv_len (t := tStr) Try.underlying47 rfl (SliceAt.mono (hl9.trans hl16) hs4)) ?_
      refine wl_val wn rfl (rv_move (v := .int .i64 0) rfl) ?_
      refine wl_nil ?_
      refine qe_seq ?_
      obtain ⟨o39, h40, h41⟩ := Option.bind_eq_some_iff.1 h38
      refine wc_cutg (fun E' w' => ∃ (a46 : Option Addr) (n47 c48 : Nat) (K42 : KMap), E' = [(5, .slice a46 n47 c48)] ∧ SH w K [] w' K42 [tail (.slice a46 n47 c48) 9 1] ∧ KLe K15 K42 ∧ SliceAt tStr K42 a46 n47 c48 o39) ?_ ?_
      · refine wc_block ?_
        obtain ⟨r51, h52, h53⟩ := Option.bind_eq_some_iff.1 h40
        refine wc_forE' (fun (i54 : Nat) (s50 : (List Str)) E' w' => ∃ (a59 : Option Addr) (n60 c61 : Nat) (K55 : KMap), E' = [(1, sv p1_p), (5, .slice a59 n60 c61), (18, .slice a1 n2 c3), (19, .int .i64 (p0_words.length : Int)), (20, .int .i64 ((i54 : Nat) : Int))] ∧ SH w K [] w' K55 [tail (.slice a59 n60 c61) 9 1] ∧ KLe K15 K55 ∧ SliceAt tStr K55 a59 n60 c61 s50) h52 ⟨a6, 0, 0, K15, rfl, hS18, (KLe.refl _), (SliceAt.mono hl16 hs10)⟩ ⟨rfl, rfl, rfl, rfl, rfl, trivial⟩ ?_ ?_
        · rintro i54 s50 _ w57 r63 hi64 h65 ⟨a59, n60, c61, K55, rfl, hS58, hl56, hs62⟩
          refine wc_seq (wc_region ?_)
          refine wl_val wn rfl (rv_lss rfl rfl) ?_
          refine wl_nil (qe_seq (wc_seq ?_))
          refine wc_cond_t rfl (decide_eq_true (by omega)) (wc_skip (qe_seq (wc_seq ?_)))
          refine wc_block ?_
          refine wc_seq ?_
          refine wc_region ?_
          obtain ⟨x67, hx68, h69⟩ := Option.bind_eq_some_iff.1 h65
          refine wl_indexAddr (t := tStr) wn rfl Try.underlying47 tf9 rfl rfl (SliceAt.mono ((hl9.trans hl16).trans hl56) hs4) hx68 ?_
          intro b70 o71 u72 hu73 ha74
          obtain ⟨rfl, hl75⟩ := hu73
          have ha76 : AtK _ b70 o71 [sv x67] := ha74
          refine wl_val wn rfl (rv_load1 tf9 rfl hS58 (ha76 0 _ rfl)) ?_
          refine wl_val wn rfl (rv_assign rfl) ?_
          refine wl_nil ?_
          refine qe_seq ?_
          refine wc_seq ?_
          refine wc_region ?_
          refine wl_val wn rfl (rv_move rfl) ?_
          refine wl_val wn rfl (rv_move rfl) ?_
          obtain ⟨r77, hx78, h79⟩ := Option.bind_eq_some_iff.1 h69
          refine wl_call wn rfl (rt_call (vs := [sv p1_p, sv x67]) co66 rfl) ((ok_impl_GlobHas F) hS58.enter0 hl5 hl75 hx78) ?_
          rintro e83 w81 ⟨K80, rfl, hS82⟩
          refine ⟨_, rfl, ?_⟩
          have hS84 : SH _ _ _ _ _ [_] := SH.call0 hS58 hS82
          refine wl_nil ?_
          refine qe_seq ?_
          refine wc_cond rfl (fun hb85 => ?_) (fun hb85 => ?_)
          · have h86 := cond_t hb85 h79
            refine wc_region ?_
            refine wl_val wn rfl (rv_move rfl) ?_
            refine wl_val wn rfl (rv_move rfl) ?_
            refine wl_buildSlice (t := tStr) (n := 1) (pv := [(0, sv x67)]) (cs := [sv x67]) (xs := [x67]) wn rfl Try.underlying47 tf9 rfl rfl rfl (by kernel_rfl) rfl rfl (lit_cons (u := sv x67) (z := x67) ⟨rfl, hl75⟩ lit_nil) hS84 ?_
            intro a87 w88 K89 hl90 hs91 hS92
            have hS93 : SH _ _ _ _ _ [_, _] := SH.front (p := [_]) hS92
            obtain ⟨x94, hx95, h96⟩ := Option.bind_eq_some_iff.1 h86
            refine wl_append (t := tStr) wn rfl Try.underlying47 tf9 rfl rfl rfl rfl rfl (SliceAt.mono (hS82.le.trans hl90) hs62) hs91 hx95 hS93 ?_
            intro a97 n98 c99 w100 K101 hl102 hs103 hS104
            refine wl_val wn rfl (rv_assign rfl) ?_
            refine wl_nil ?_
            refine qe_block ?_
            refine qe_seq (wc_region ?_)
            refine wl_val wn rfl (rv_add_to rfl rfl (w64_succ hi64 (SliceAt.max (SliceAt.mono (hl9.trans hl16) hs4)))) ?_
            refine wl_val wn rfl (rv_move rfl) ?_
            refine wl_nil ?_
            obtain rfl := Option.some.inj h96
            have hS105 : SH _ _ _ _ _ [_] := SH.sublist hS104 (.cons_cons _ (.cons _ .slnil))
            exact qe_mid' ⟨a97, n98, c99, K101, rfl, hS105, (((hl56.trans hS82.le).trans hl90).trans hl102), hs103⟩ ⟨rfl, rfl, rfl, rfl, rfl, trivial⟩
          · have h86 := cond_f hb85 h79
            refine wc_skip ?_
            refine qe_block ?_
            refine qe_seq (wc_region ?_)
            refine wl_val wn rfl (rv_add_to rfl rfl (w64_succ hi64 (SliceAt.max (SliceAt.mono (hl9.trans hl16) hs4)))) ?_
            refine wl_val wn rfl (rv_move rfl) ?_
            refine wl_nil ?_
            obtain rfl := Option.some.inj h86
            exact qe_mid' ⟨a59, n60, c61, K80, rfl, hS84, (hl56.trans hS82.le), (SliceAt.mono hS82.le hs62)⟩ ⟨rfl, rfl, rfl, rfl, rfl, trivial⟩
        · rintro s50 _ w57 hr106 ⟨a59, n60, c61, K55, rfl, hS58, hl56, hs62⟩
          subst hr106
          refine wc_seq (wc_region ?_)
          refine wl_val wn rfl (rv_lss rfl rfl) ?_
          refine wl_nil (qe_seq (wc_seq ?_))
          refine wc_cond_f rfl (decide_eq_false (by omega)) ?_
          refine wc_exit ?_
          refine qe_then_exit ?_
          refine qe_then_exit ?_
          refine qe_block_eq ?_
          obtain rfl := Option.some.inj h53
          exact qe_mid' ⟨a59, n60, c61, K55, rfl, hS58, hl56, hs62⟩ ⟨rfl, trivial⟩
      · rintro _ w44 ⟨a46, n47, c48, K42, rfl, hS45, hl43, hs49⟩
        refine qe_seq ?_
        refine wc_seq ?_
        refine wc_region ?_
        refine wl_val wn rfl (rv_move rfl) ?_
        refine wl_val wn rfl (rv_assign rfl) ?_
        refine wl_nil ?_
        refine qe_seq ?_
        refine wc_ret ?_
        obtain rfl := Option.some.inj h41
        exact qe_ret (vs := [_]) Try.results23 ⟨rfl, trivial⟩ ⟨a46, n47, c48, K42, rfl, hS45, hs49⟩

theorem ok_laws_foTexts (F : Nat) {w : World} {K : KMap} {a1 : Option Addr} {n2 c3 : Nat} {a5 : Option Addr} {n6 c7 : Nat} {p0_a : List Str} {p1_b : List Str} {r : Bool} (hS : SH w K [] w K []) (hs4 : SliceAt tStr K a1 n2 c3 p0_a) (hs8 : SliceAt tStr K a5 n6 c7 p1_b) (hm : M.laws_foTexts F p0_a p1_b = some r) :
    Calls Try.prog 24 #[.slice a1 n2 c3, .slice a5 n6 c7] w fun e w' => ∃ (K' : KMap), e = .returned (.bool r) ∧ SH w K [] w' K' [] := by
  rw [M.laws_foTexts] at hm
  refine calls_in Try.func24 rfl Try.ntmps24 rfl ?_
  refine wc_seq ?_
  refine wc_region ?_
  refine wl_val wn rfl (rv_assign (v := .bool false) rfl) ?_
  refine wl_nil ?_
  refine qe_seq ?_
  refine wc_seq ?_
  refine wc_seq ?_
  refine wc_region ?_
  refine wl_val wn rfl (rv_move rfl) ?_
  refine wl_val wn rfl (rv_len (t := tStr) Try.underlying47 rfl hs4) ?_
  refine wl_val wn rfl (rv_move rfl) ?_
  refine wl_val wn rfl (rv_len (t := tStr) Try.underlying47 rfl hs8) ?_
  refine wl_val wn rfl (rv_neq rfl rfl) ?_
  refine wl_nil ?_
  refine qe_seq ?_
  refine wc_cond rfl (fun hb9 => ?_) (fun hb9 => ?_)
  · have h10 := cond_t hb9 hm
    refine wc_seq ?_
    refine wc_region ?_
    refine wl_val wn rfl (rv_assign (v := .bool false) rfl) ?_
    refine wl_nil ?_
    refine qe_seq ?_
    refine wc_ret ?_
    refine qe_then_ret ?_
    obtain rfl := Option.some.inj h10
    exact qe_ret (vs := [_]) Try.results24 ⟨rfl, trivial⟩ ⟨K, rfl, hS⟩
  · have h10 := cond_f hb9 hm
    refine wc_skip ?_
    refine qe_seq ?_
    refine wc_seq ?_
    refine wc_seq ?_
    refine wc_region ?_
    refine wl_val wn rfl (rv_assign (v := .int .i64 0) rfl) ?_
    refine wl_nil ?_
    refine qe_seq ?_
    obtain ⟨o11, h12, h13⟩ := Option.bind_eq_some_iff.1 h10
    refine wc_cutg (fun E' w' => ∃ (s14 : Unit) (K15 : KMap), o11 = .inl s14 ∧ E' = [] ∧ SH w K [] w' K15 [] ∧ KLe K K15) ?_ ?_
    · refine wc_block ?_
      obtain ⟨r20, h21, h22⟩ := Option.bind_eq_some_iff.1 h12
      refine wc_while' (fun (s19 : Int) E' w' => ∃ (K23 : KMap), E' = [(0, .slice a1 n2 c3), (1, .slice a5 n6 c7), (5, .int .i64 s19)] ∧ SH w K [] w' K23 [] ∧ KLe K K23 ∧ rng64 s19) h21 ⟨K, rfl, hS, (KLe.refl _), (by decide : rng64 0)⟩ ⟨rfl, rfl, rfl, trivial⟩ ?_
      rintro s19 _ w25 r28 h29 hx30 ⟨K23, rfl, hS26, hl24, hr27⟩
      refine wc_seq ?_
      refine wc_seq ?_
      refine wc_region ?_
      refine wl_val wn rfl (rv_move rfl) ?_
      refine wl_val wn rfl (rv_move rfl) ?_
      refine wl_val wn rfl (rv_len (t := tStr) Try.underlying47 rfl (SliceAt.mono hl24 hs4)) ?_
      refine wl_val wn rfl (rv_lss rfl rfl) ?_
      refine wl_nil ?_
      refine qe_seq ?_
      refine wc_cond rfl (fun hb31 => ?_) (fun hb31 => ?_)
      · have h32 := cond_t hb31 h29
        refine wc_skip ?_
        refine qe_seq ?_
        refine wc_seq ?_
        refine wc_block ?_
        refine wc_seq ?_
        refine wc_quiet mixed (by kernel_rfl) hS26 ?_
        refine wq_val wn rfl (fun _ _ => (rv_move rfl)) ?_
        refine wq_val wn rfl (fun _ _ => (rv_move rfl)) ?_
        obtain ⟨x33, hx34, h35⟩ := Option.bind_eq_some_iff.1 h32
        refine wq_indexAddr (t := tStr) wn rfl Try.underlying47 tf9 rfl rfl (SliceAt.mono hl24 hs4) hx34 ?_
        intro b36 o37 u38 hu39 ha40
        obtain ⟨rfl, hl41⟩ := hu39
        have ha42 : AtK _ b36 o37 [sv x33] := ha40
        refine wq_val wn rfl (rq_load1 tf9 rfl (ha42 0 _ rfl)) ?_
        refine wq_val wn rfl (fun _ _ => (rv_move rfl)) ?_
        refine wq_val wn rfl (fun _ _ => (rv_move rfl)) ?_
        obtain ⟨x43, hx44, h45⟩ := Option.bind_eq_some_iff.1 h35
        refine wq_indexAddr (t := tStr) wn rfl Try.underlying47 tf9 rfl rfl (SliceAt.mono hl24 hs8) hx44 ?_
        intro b46 o47 u48 hu49 ha50
        obtain ⟨rfl, hl51⟩ := hu49
        have ha52 : AtK _ b46 o47 [sv x43] := ha50
        refine wq_val wn rfl (rq_load1 tf9 rfl (ha52 0 _ rfl)) ?_
        refine wq_val wn rfl (fun _ _ => (rv_sneq rfl rfl)) ?_
        refine wq_nil ?_
        rintro w54 ⟨K53, hS55, hl56⟩
        refine qe_seq ?_
        refine wc_cond rfl (fun hb57 => ?_) (fun hb57 => ?_)
        · have h58 := cond_t hb57 h45
          refine wc_seq ?_
          refine wc_region ?_
          refine wl_val wn rfl (rv_assign (v := .bool false) rfl) ?_
          refine wl_nil ?_
          refine qe_seq ?_
          refine wc_ret ?_
          refine qe_block_ret ?_
          refine qe_then_ret ?_
          refine qe_then_ret ?_
          obtain rfl := Option.some.inj h58
          have e59 := hx30 _ rfl
          subst e59
          refine qe_block_ret ?_
          refine qe_then_ret ?_
          obtain rfl := Option.some.inj h22
          refine qe_then_ret ?_
          obtain rfl := Option.some.inj h13
          exact qe_ret (vs := [_]) Try.results24 ⟨rfl, trivial⟩ ⟨K53, rfl, hS55⟩
        · have h58 := cond_f hb57 h45
          refine wc_skip ?_
          refine qe_block ?_
          refine qe_seq ?_
          refine wc_region ?_
          refine wl_val wn rfl (rv_move rfl) ?_
          refine wl_val wn rfl (rv_add rfl rfl) ?_
          refine wl_val wn rfl (rv_assign rfl) ?_
          refine wl_nil ?_
          obtain rfl := Option.some.inj h58
          exact qe_mid' ⟨_, rfl, K53, rfl, hS55, (hl24.trans hl56), (w64_rng _)⟩ ⟨rfl, rfl, rfl, trivial⟩
      · have h32 := cond_f hb31 h29
        refine wc_exit ?_
        refine qe_then_exit ?_
        refine qe_then_exit ?_
        obtain rfl := Option.some.inj h32
        have e60 := hx30 _ rfl
        subst e60
        refine qe_block_eq ?_
        obtain rfl := Option.some.inj h22
        exact qe_mid' ⟨_, K23, rfl, rfl, hS26, hl24⟩ trivial
    · rintro _ w17 ⟨s14, K15, rfl, rfl, hS18, hl16⟩
      refine qe_seq ?_
      refine wc_seq ?_
      refine wc_region ?_
      refine wl_val wn rfl (rv_assign (v := .bool true) rfl) ?_
      refine wl_nil ?_
      refine qe_seq ?_
      refine wc_ret ?_
      obtain rfl := Option.some.inj h13
      exact qe_ret (vs := [_]) Try.results24 ⟨rfl, trivial⟩ ⟨K15, rfl, hS18⟩

theorem ok_spec_l1In (F : Nat) {w : World} {K : KMap} {p0_n : Int} {p1_low : Int} {p2_high : Int} {r : Bool} (hS : SH w K [] w K []) (hr1 : rng64 p0_n) (hr2 : rng64 p1_low) (hr3 : rng64 p2_high) (hm : M.spec_l1In F p0_n p1_low p2_high = some r) :
    Calls Try.prog 60 #[.int .i64 p0_n, .int .i64 p1_low, .int .i64 p2_high] w fun e w' => ∃ (K' : KMap), e = .returned (.bool r) ∧ SH w K [] w' K' [] := by
  rw [M.spec_l1In] at hm
  refine calls_in Try.func60 rfl Try.ntmps60 rfl ?_
  refine wc_seq ?_
  refine wc_region ?_
  refine wl_val wn rfl (rv_assign (v := .bool false) rfl) ?_
  refine wl_nil ?_
  refine qe_seq ?_
  refine wc_seq ?_
  refine wc_region ?_
  refine wl_val wn rfl (rv_move rfl) ?_
  refine wl_val wn rfl (rv_move rfl) ?_
  refine wl_val wn rfl (rv_geq rfl rfl) ?_
  refine wl_val wn rfl (rv_move rfl) ?_
  rcases bool_tf (decide (p1_low ≤ p0_n)) with hb4 | hb4
  · have h5 := cond_t hb4 hm
    refine wl_val (wg rfl rfl hb4) rfl (rv_move rfl) ?_
    refine wl_val (wg rfl rfl hb4) rfl (rv_move rfl) ?_
    refine wl_val (wg rfl rfl hb4) rfl (rv_leq rfl rfl) ?_
    refine wl_val wn rfl (rv_pick_t rfl hb4 rfl) ?_
    refine wl_val wn rfl (rv_assign rfl) ?_
    refine wl_nil ?_
    refine qe_seq ?_
    refine wc_ret ?_
    obtain rfl := Option.some.inj h5
    exact qe_ret (vs := [_]) Try.results60 ⟨rfl, trivial⟩ ⟨K, rfl, hS⟩
  · have h5 := cond_f hb4 hm
    refine wl_un (ug rfl rfl hb4) rfl ?_
    refine wl_un (ug rfl rfl hb4) rfl ?_
    refine wl_un (ug rfl rfl hb4) rfl ?_
    refine wl_val wn rfl (rv_pick_f (v := .bool false) rfl hb4 rfl) ?_
    refine wl_val wn rfl (rv_assign rfl) ?_
    refine wl_nil ?_
    refine qe_seq ?_
    refine wc_ret ?_
    obtain rfl := Option.some.inj h5
    exact qe_ret (vs := [_]) Try.results60 ⟨rfl, trivial⟩ ⟨K, rfl, hS⟩

theorem ok_spec_l1Fold (F : Nat) {w : World} {K : KMap} {p0_b : UInt8} {r : UInt8} (hS : SH w K [] w K []) (hm : M.spec_l1Fold F p0_b = some r) :
    Calls Try.prog 125 #[iv8 p0_b] w fun e w' => ∃ (K' : KMap), e = .returned (iv8 r) ∧ SH w K [] w' K' [] := by
  rw [M.spec_l1Fold] at hm
  refine calls_in Try.func125 rfl Try.ntmps125 rfl ?_
  refine wc_seq ?_
  refine wc_region ?_
  refine wl_val wn rfl (rv_assign (v := iv8 0) rfl) ?_
  refine wl_nil ?_
  refine qe_seq ?_
  refine wc_seq ?_
  refine wc_block ?_
  refine wc_seq ?_
  obtain ⟨o1, h2, h3⟩ := Option.bind_eq_some_iff.1 hm
  refine wc_cutg (fun E' w' => ∃ (K4 : KMap), E' = [(0, iv8 p0_b), (3, .bool o1)] ∧ SH w K [] w' K4 [] ∧ KLe K K4) ?_ ?_
  · refine wc_region ?_
    refine wl_val wn rfl (rv_move rfl) ?_
    refine wl_val wn rfl (rv_bge (b := (65 : UInt8)) rfl rfl) ?_
    refine wl_val wn rfl (rv_move rfl) ?_
    rcases bool_tf (decide ((65 : UInt8) ≤ p0_b)) with hb8 | hb8
    · have h9 := cond_t hb8 h2
      refine wl_val (wg rfl rfl hb8) rfl (rv_move rfl) ?_
      refine wl_val (wg rfl rfl hb8) rfl (rv_ble (b := (90 : UInt8)) rfl rfl) ?_
      refine wl_val wn rfl (rv_pick_t rfl hb8 rfl) ?_
      refine wl_val wn rfl (rv_assign rfl) ?_
      refine wl_nil ?_
      obtain rfl := Option.some.inj h9
      exact qe_mid' ⟨K, rfl, hS, (KLe.refl _)⟩ ⟨rfl, rfl, trivial⟩
    · have h9 := cond_f hb8 h2
      refine wl_un (ug rfl rfl hb8) rfl ?_
      refine wl_un (ug rfl rfl hb8) rfl ?_
      refine wl_val wn rfl (rv_pick_f (v := .bool false) rfl hb8 rfl) ?_
      refine wl_val wn rfl (rv_assign rfl) ?_
      refine wl_nil ?_
      obtain rfl := Option.some.inj h9
      exact qe_mid' ⟨K, rfl, hS, (KLe.refl _)⟩ ⟨rfl, rfl, trivial⟩
  · rintro _ w6 ⟨K4, rfl, hS7, hl5⟩
    refine qe_seq ?_
    refine wc_cond rfl (fun hb10 => ?_) (fun hb10 => ?_)
    · have h11 := cond_t hb10 h3
      refine wc_seq ?_
      refine wc_region ?_
      refine wl_val wn rfl (rv_move rfl) ?_
      refine wl_val wn rfl (rv_badd (b := (32 : UInt8)) rfl rfl) ?_
      refine wl_val wn rfl (rv_assign rfl) ?_
      refine wl_nil ?_
      refine qe_seq ?_
      refine wc_ret ?_
      refine qe_block_ret ?_
      refine qe_then_ret ?_
      obtain rfl := Option.some.inj h11
      exact qe_ret (vs := [_]) Try.results125 ⟨rfl, trivial⟩ ⟨K4, rfl, hS7⟩
    · have h11 := cond_f hb10 h3
      refine wc_seq ?_
      obtain ⟨o12, h13, h14⟩ := Option.bind_eq_some_iff.1 h11
      refine wc_cutg (fun E' w' => ∃ (K15 : KMap), E' = [(0, iv8 p0_b), (12, .bool o12)] ∧ SH w K [] w' K15 [] ∧ KLe K4 K15) ?_ ?_
      · refine wc_region ?_
        refine wl_val wn rfl (rv_move rfl) ?_
        refine wl_val wn rfl (rv_bge (b := (97 : UInt8)) rfl rfl) ?_
        refine wl_val wn rfl (rv_move rfl) ?_
        rcases bool_tf (decide ((97 : UInt8) ≤ p0_b)) with hb19 | hb19
        · have h20 := cond_t hb19 h13
          refine wl_val (wg rfl rfl hb19) rfl (rv_move rfl) ?_
          refine wl_val (wg rfl rfl hb19) rfl (rv_ble (b := (122 : UInt8)) rfl rfl) ?_
          refine wl_val wn rfl (rv_pick_t rfl hb19 rfl) ?_
          refine wl_val wn rfl (rv_move rfl) ?_
          rcases bool_tf (decide (p0_b ≤ (122 : UInt8))) with hb21 | hb21
          · have h22 := cond_t hb21 h20
            refine wl_un (ug rfl rfl hb21) rfl ?_
            refine wl_un (ug rfl rfl hb21) rfl ?_
            refine wl_un (ug rfl rfl hb21) rfl ?_
            refine wl_un (uu rfl rfl) rfl ?_
            refine wl_un (uu rfl rfl) rfl ?_
            refine wl_un (ug rfl rfl hb21) rfl ?_
            refine wl_val wn rfl (rv_pick_t (v := .bool true) rfl hb21 rfl) ?_
            refine wl_val wn rfl (rv_assign rfl) ?_
            refine wl_nil ?_
            obtain rfl := Option.some.inj h22
            exact qe_mid' ⟨K4, rfl, hS7, (KLe.refl _)⟩ ⟨rfl, rfl, trivial⟩
          · have h22 := cond_f hb21 h20
            refine wl_val (wg rfl rfl hb21) rfl (rv_move rfl) ?_
            refine wl_val (wg rfl rfl hb21) rfl (rv_bge (b := (48 : UInt8)) rfl rfl) ?_
            refine wl_val (wg rfl rfl hb21) rfl (rv_move rfl) ?_
            rcases bool_tf (decide ((48 : UInt8) ≤ p0_b)) with hb23 | hb23
            · have h24 := cond_t hb23 h22
              refine wl_val (wg rfl rfl hb23) rfl (rv_move rfl) ?_
              refine wl_val (wg rfl rfl hb23) rfl (rv_ble (b := (57 : UInt8)) rfl rfl) ?_
              refine wl_val (wg rfl rfl hb21) rfl (rv_pick_t rfl hb23 rfl) ?_
              refine wl_val wn rfl (rv_pick_f rfl hb21 rfl) ?_
              refine wl_val wn rfl (rv_assign rfl) ?_
              refine wl_nil ?_
              obtain rfl := Option.some.inj h24
              exact qe_mid' ⟨K4, rfl, hS7, (KLe.refl _)⟩ ⟨rfl, rfl, trivial⟩
            · have h24 := cond_f hb23 h22
              refine wl_un (ug rfl rfl hb23) rfl ?_
              refine wl_un (ug rfl rfl hb23) rfl ?_
              refine wl_val (wg rfl rfl hb21) rfl (rv_pick_f (v := .bool false) rfl hb23 rfl) ?_
              refine wl_val wn rfl (rv_pick_f rfl hb21 rfl) ?_
              refine wl_val wn rfl (rv_assign rfl) ?_
              refine wl_nil ?_
              obtain rfl := Option.some.inj h24
              exact qe_mid' ⟨K4, rfl, hS7, (KLe.refl _)⟩ ⟨rfl, rfl, trivial⟩
        · have h20 := cond_f hb19 h13
          refine wl_un (ug rfl rfl hb19) rfl ?_
          refine wl_un (ug rfl rfl hb19) rfl ?_
          refine wl_val wn rfl (rv_pick_f (v := .bool false) rfl hb19 rfl) ?_
          refine wl_val wn rfl (rv_move rfl) ?_
          refine wl_val (wg rfl rfl rfl) rfl (rv_move rfl) ?_
          refine wl_val (wg rfl rfl rfl) rfl (rv_bge (b := (48 : UInt8)) rfl rfl) ?_
          refine wl_val (wg rfl rfl rfl) rfl (rv_move rfl) ?_
          rcases bool_tf (decide ((48 : UInt8) ≤ p0_b)) with hb25 | hb25
          · have h26 := cond_t hb25 h20
            refine wl_val (wg rfl rfl hb25) rfl (rv_move rfl) ?_
            refine wl_val (wg rfl rfl hb25) rfl (rv_ble (b := (57 : UInt8)) rfl rfl) ?_
            refine wl_val (wg rfl rfl rfl) rfl (rv_pick_t rfl hb25 rfl) ?_
            refine wl_val wn rfl (rv_pick_f rfl rfl rfl) ?_
            refine wl_val wn rfl (rv_assign rfl) ?_
            refine wl_nil ?_
            obtain rfl := Option.some.inj h26
            exact qe_mid' ⟨K4, rfl, hS7, (KLe.refl _)⟩ ⟨rfl, rfl, trivial⟩
          · have h26 := cond_f hb25 h20
            refine wl_un (ug rfl rfl hb25) rfl ?_
            refine wl_un (ug rfl rfl hb25) rfl ?_
            refine wl_val (wg rfl rfl rfl) rfl (rv_pick_f (v := .bool false) rfl hb25 rfl) ?_
            refine wl_val wn rfl (rv_pick_f rfl rfl rfl) ?_
            refine wl_val wn rfl (rv_assign rfl) ?_
            refine wl_nil ?_
            obtain rfl := Option.some.inj h26
            exact qe_mid' ⟨K4, rfl, hS7, (KLe.refl _)⟩ ⟨rfl, rfl, trivial⟩
      · rintro _ w17 ⟨K15, rfl, hS18, hl16⟩
        refine qe_seq ?_
        refine wc_cond rfl (fun hb27 => ?_) (fun hb27 => ?_)
        · have h28 := cond_t hb27 h14
          refine wc_seq ?_
          refine wc_region ?_
          refine wl_val wn rfl (rv_move rfl) ?_
          refine wl_val wn rfl (rv_assign rfl) ?_
          refine wl_nil ?_
          refine qe_seq ?_
          refine wc_ret ?_
          refine qe_block_ret ?_
          refine qe_then_ret ?_
          obtain rfl := Option.some.inj h28
          exact qe_ret (vs := [_]) Try.results125 ⟨rfl, trivial⟩ ⟨K15, rfl, hS18⟩
        · have h28 := cond_f hb27 h14
          refine wc_skip ?_
          refine qe_block ?_
          refine qe_seq ?_
          refine wc_seq ?_
          refine wc_region ?_
          refine wl_val wn rfl (rv_assign (v := iv8 0) rfl) ?_
          refine wl_nil ?_
          refine qe_seq ?_
          refine wc_ret ?_
          obtain rfl := Option.some.inj h28
          exact qe_ret (vs := [_]) Try.results125 ⟨rfl, trivial⟩ ⟨K15, rfl, hS18⟩

theorem ok_spec_l1WordOk (F : Nat) {w : World} {K : KMap} {p0_s : Str} {r : Bool} (hS : SH w K [] w K []) (hl1 : p0_s.length ≤ maxLen) (hm : M.spec_l1WordOk F p0_s = some r) :
    Calls Try.prog 96 #[sv p0_s] w fun e w' => ∃ (K' : KMap), e = .returned (.bool r) ∧ SH w K [] w' K' [] := by
  rw [M.spec_l1WordOk] at hm
  refine calls_in Try.func96 rfl Try.ntmps96 rfl ?_
  refine wc_seq ?_
  refine wc_region ?_
  refine wl_val wn rfl (rv_assign (v := .bool false) rfl) ?_
  refine wl_nil ?_
  refine qe_seq ?_
  refine wc_seq ?_
  refine wc_seq ?_
  refine wc_region ?_
  refine wl_val wn rfl (rv_assign (v := .int .i64 0) rfl) ?_
  refine wl_nil ?_
  refine qe_seq ?_
  obtain ⟨o2, h3, h4⟩ := Option.bind_eq_some_iff.1 hm
  refine wc_cutg (fun E' w' => ∃ (s5 : Unit) (K6 : KMap), o2 = .inl s5 ∧ E' = [(0, sv p0_s)] ∧ SH w K [] w' K6 [] ∧ KLe K K6) ?_ ?_
  · refine wc_block ?_
    obtain ⟨r11, h12, h13⟩ := Option.bind_eq_some_iff.1 h3
    refine wc_while' (fun (s10 : Int) E' w' => ∃ (K14 : KMap), E' = [(0, sv p0_s), (3, .int .i64 s10)] ∧ SH w K [] w' K14 [] ∧ KLe K K14 ∧ rng64 s10) h12 ⟨K, rfl, hS, (KLe.refl _), (by decide : rng64 0)⟩ ⟨rfl, rfl, trivial⟩ ?_
    rintro s10 _ w16 r19 h20 hx21 ⟨K14, rfl, hS17, hl15, hr18⟩
    refine wc_seq ?_
    refine wc_seq ?_
    refine wc_region ?_
    refine wl_val wn rfl (rv_move rfl) ?_
    refine wl_val wn rfl (rv_move rfl) ?_
    refine wl_val wn rfl (rv_slen Try.underlying9 rfl) ?_
    refine wl_val wn rfl (rv_lss rfl rfl) ?_
    refine wl_nil ?_
    refine qe_seq ?_
    refine wc_cond rfl (fun hb22 => ?_) (fun hb22 => ?_)
    · have h23 := cond_t hb22 h20
      refine wc_skip ?_
      refine qe_seq ?_
      refine wc_seq ?_
      refine wc_block ?_
      refine wc_seq ?_
      obtain ⟨o24, h25, h26⟩ := Option.bind_eq_some_iff.1 h23
      refine wc_cutg (fun E' w' => ∃ (K27 : KMap), E' = [(0, sv p0_s), (3, .int .i64 s10), (23, .bool o24)] ∧ SH w K [] w' K27 [] ∧ KLe K14 K27) ?_ ?_
      · refine wc_quiet mixed (by kernel_rfl) hS17 ?_
        refine wq_val wn rfl (fun _ _ => (rv_move rfl)) ?_
        refine wq_val wn rfl (fun _ _ => (rv_move rfl)) ?_
        obtain ⟨x31, hx32, h33⟩ := Option.bind_eq_some_iff.1 h25
        refine wq_val wn rfl (fun _ _ => (rv_sidx Try.underlying9 rfl rfl hx32)) ?_
        obtain ⟨r34, hx35, h36⟩ := Option.bind_eq_some_iff.1 h33
        refine wq_call (v := iv8 r34) wn rfl (fun _ => rt_call (vs := [iv8 x31]) co125 rfl) (fun w39 ⟨K37, hS38, hl40⟩ => ((ok_spec_l1Fold F) hS38.enter0  hx35).mono fun e w' ⟨K', he, hS'⟩ => ⟨he, K', hS38.call0 hS', hl40.trans hS'.le⟩) ?_
        refine wq_val wn rfl (fun _ _ => (rv_move rfl)) ?_
        refine wq_val wn rfl (fun _ _ => (rv_move rfl)) ?_
        obtain ⟨x41, hx42, h43⟩ := Option.bind_eq_some_iff.1 h36
        refine wq_val wn rfl (fun _ _ => (rv_sidx Try.underlying9 rfl rfl hx42)) ?_
        refine wq_val wn rfl (fun _ _ => (rv_bne rfl rfl)) ?_
        refine wq_val wn rfl (fun _ _ => (rv_move rfl)) ?_
        rcases bool_tf ((!(r34 == x41))) with hb44 | hb44
        · have h45 := cond_t hb44 h43
          refine wq_un (ug rfl rfl hb44) rfl ?_
          refine wq_un (ug rfl rfl hb44) rfl ?_
          refine wq_un (ug rfl rfl hb44) rfl ?_
          refine wq_un (ug rfl rfl hb44) rfl ?_
          refine wq_val wn rfl (fun _ _ => (rv_pick_t (v := .bool true) rfl hb44 rfl)) ?_
          refine wq_nil ?_
          rintro w47 ⟨K46, hS48, hl49⟩
          obtain rfl := Option.some.inj h45
          exact qe_mid' ⟨K46, rfl, hS48, hl49⟩ ⟨rfl, rfl, rfl, trivial⟩
        · have h45 := cond_f hb44 h43
          refine wq_val (wg rfl rfl hb44) rfl (fun _ _ => (rv_move rfl)) ?_
          refine wq_val (wg rfl rfl hb44) rfl (fun _ _ => (rv_move rfl)) ?_
          obtain ⟨x50, hx51, h52⟩ := Option.bind_eq_some_iff.1 h45
          refine wq_val (wg rfl rfl hb44) rfl (fun _ _ => (rv_sidx Try.underlying9 rfl rfl hx51)) ?_
          refine wq_val (wg rfl rfl hb44) rfl (fun _ _ => (rv_beq (b := (0 : UInt8)) rfl rfl)) ?_
          refine wq_val wn rfl (fun _ _ => (rv_pick_f rfl hb44 rfl)) ?_
          refine wq_nil ?_
          rintro w54 ⟨K53, hS55, hl56⟩
          obtain rfl := Option.some.inj h52
          exact qe_mid' ⟨K53, rfl, hS55, hl56⟩ ⟨rfl, rfl, rfl, trivial⟩
      · rintro _ w29 ⟨K27, rfl, hS30, hl28⟩
        refine qe_seq ?_
        refine wc_cond rfl (fun hb57 => ?_) (fun hb57 => ?_)
        · have h58 := cond_t hb57 h26
          refine wc_seq ?_
          refine wc_region ?_
          refine wl_val wn rfl (rv_assign (v := .bool false) rfl) ?_
          refine wl_nil ?_
          refine qe_seq ?_
          refine wc_ret ?_
          refine qe_block_ret ?_
          refine qe_then_ret ?_
          refine qe_then_ret ?_
          obtain rfl := Option.some.inj h58
          have e59 := hx21 _ rfl
          subst e59
          refine qe_block_ret ?_
          refine qe_then_ret ?_
          obtain rfl := Option.some.inj h13
          refine qe_then_ret ?_
          obtain rfl := Option.some.inj h4
          exact qe_ret (vs := [_]) Try.results96 ⟨rfl, trivial⟩ ⟨K27, rfl, hS30⟩
        · have h58 := cond_f hb57 h26
          refine wc_skip ?_
          refine qe_block ?_
          refine qe_seq ?_
          refine wc_region ?_
          refine wl_val wn rfl (rv_move rfl) ?_
          refine wl_val wn rfl (rv_add rfl rfl) ?_
          refine wl_val wn rfl (rv_assign rfl) ?_
          refine wl_nil ?_
          obtain rfl := Option.some.inj h58
          exact qe_mid' ⟨_, rfl, K27, rfl, hS30, (hl15.trans hl28), (w64_rng _)⟩ ⟨rfl, rfl, trivial⟩
    · have h23 := cond_f hb22 h20
      refine wc_exit ?_
      refine qe_then_exit ?_
      refine qe_then_exit ?_
      obtain rfl := Option.some.inj h23
      have e60 := hx21 _ rfl
      subst e60
      refine qe_block_eq ?_
      obtain rfl := Option.some.inj h13
      exact qe_mid' ⟨_, K14, rfl, rfl, hS17, hl15⟩ ⟨rfl, trivial⟩
  · rintro _ w8 ⟨s5, K6, rfl, rfl, hS9, hl7⟩
    refine qe_seq ?_
    refine wc_seq ?_
    refine wc_region ?_
    refine wl_val wn rfl (rv_move rfl) ?_
    refine wl_val wn rfl (rv_slen Try.underlying9 rfl) ?_
    obtain ⟨r63, hx64, h65⟩ := Option.bind_eq_some_iff.1 h4
    refine wl_call wn rfl (rt_call (vs := [.int .i64 (p0_s.length : Int), .int .i64 1, .int .i64 12]) co60 rfl) ((ok_spec_l1In F) hS9.enter0 (rng_nat hl1) (by decide : rng64 1) (by decide : rng64 12) hx64) ?_
    rintro e69 w67 ⟨K66, rfl, hS68⟩
    refine ⟨_, rfl, ?_⟩
    have hS70 : SH _ _ _ _ _ [] := SH.call0 hS9 hS68
    refine wl_val wn rfl (rv_assign rfl) ?_
    refine wl_nil ?_
    refine qe_seq ?_
    refine wc_ret ?_
    obtain rfl := Option.some.inj h65
    exact qe_ret (vs := [_]) Try.results96 ⟨rfl, trivial⟩ ⟨K66, rfl, hS70⟩

theorem ok_spec_l4Sorted (F : Nat) {w : World} {K : KMap} {a1 : Option Addr} {n2 c3 : Nat} {p0_list : List Str} {r : Bool} (hS : SH w K [] w K []) (hs4 : SliceAt tStr K a1 n2 c3 p0_list) (hm : M.spec_l4Sorted F p0_list = some r) :
    Calls Try.prog 67 #[.slice a1 n2 c3] w fun e w' => ∃ (K' : KMap), e = .returned (.bool r) ∧ SH w K [] w' K' [] := by
  rw [M.spec_l4Sorted] at hm
  refine calls_in Try.func67 rfl Try.ntmps67 rfl ?_
  refine wc_seq ?_
  refine wc_region ?_
  refine wl_val wn rfl (rv_assign (v := .bool false) rfl) ?_
  refine wl_nil ?_
  refine qe_seq ?_
  refine wc_seq ?_
  refine wc_seq ?_
  refine wc_region ?_
  refine wl_val wn rfl (rv_assign (v := .int .i64 0) rfl) ?_
  refine wl_nil ?_
  refine qe_seq ?_
  obtain ⟨o5, h6, h7⟩ := Option.bind_eq_some_iff.1 hm
  refine wc_cutg (fun E' w' => ∃ (s8 : Unit) (K9 : KMap), o5 = .inl s8 ∧ E' = [(0, .slice a1 n2 c3)] ∧ SH w K [] w' K9 [] ∧ KLe K K9) ?_ ?_
  · refine wc_block ?_
    obtain ⟨r14, h15, h16⟩ := Option.bind_eq_some_iff.1 h6
    refine wc_while' (fun (s13 : Int) E' w' => ∃ (K17 : KMap), E' = [(0, .slice a1 n2 c3), (3, .int .i64 s13)] ∧ SH w K [] w' K17 [] ∧ KLe K K17 ∧ rng64 s13) h15 ⟨K, rfl, hS, (KLe.refl _), (by decide : rng64 0)⟩ ⟨rfl, rfl, trivial⟩ ?_
    rintro s13 _ w19 r22 h23 hx24 ⟨K17, rfl, hS20, hl18, hr21⟩
    refine wc_seq ?_
    refine wc_seq ?_
    refine wc_region ?_
    refine wl_val wn rfl (rv_move rfl) ?_
    refine wl_val wn rfl (rv_move rfl) ?_
    refine wl_val wn rfl (rv_len (t := tStr) Try.underlying47 rfl (SliceAt.mono hl18 hs4)) ?_
    refine wl_val wn rfl (rv_lss rfl rfl) ?_
    refine wl_nil ?_
    refine qe_seq ?_
    refine wc_cond rfl (fun hb25 => ?_) (fun hb25 => ?_)
    · have h26 := cond_t hb25 h23
      refine wc_skip ?_
      refine qe_seq ?_
      refine wc_seq ?_
      refine wc_block ?_
      refine wc_seq ?_
      obtain ⟨o27, h28, h29⟩ := Option.bind_eq_some_iff.1 h26
      refine wc_cutg (fun E' w' => ∃ (K30 : KMap), E' = [(0, .slice a1 n2 c3), (3, .int .i64 s13), (31, .bool o27)] ∧ SH w K [] w' K30 [] ∧ KLe K17 K30) ?_ ?_
      · refine wc_quiet mixed (by kernel_rfl) hS20 ?_
        refine wq_val wn rfl (fun _ _ => (rv_move rfl)) ?_
        refine wq_val wn rfl (fun _ _ => (rv_move rfl)) ?_
        obtain ⟨x34, hx35, h36⟩ := Option.bind_eq_some_iff.1 h28
        refine wq_indexAddr (t := tStr) wn rfl Try.underlying47 tf9 rfl rfl (SliceAt.mono hl18 hs4) hx35 ?_
        intro b37 o38 u39 hu40 ha41
        obtain ⟨rfl, hl42⟩ := hu40
        have ha43 : AtK _ b37 o38 [sv x34] := ha41
        refine wq_val wn rfl (rq_load1 tf9 rfl (ha43 0 _ rfl)) ?_
        obtain ⟨r44, hx45, h46⟩ := Option.bind_eq_some_iff.1 h36
        refine wq_call (v := .bool r44) wn rfl (fun _ => rt_call (vs := [sv x34]) co96 rfl) (fun w49 ⟨K47, hS48, hl50⟩ => ((ok_spec_l1WordOk F) hS48.enter0 hl42 hx45).mono fun e w' ⟨K', he, hS'⟩ => ⟨he, K', hS48.call0 hS', hl50.trans hS'.le⟩) ?_
        refine wq_val wn rfl (fun _ _ => (rv_not rfl)) ?_
        refine wq_val wn rfl (fun _ _ => (rv_move rfl)) ?_
        rcases bool_tf ((!r44)) with hb51 | hb51
        · have h52 := cond_t hb51 h46
          refine wq_un (ug rfl rfl hb51) rfl ?_
          refine wq_un (ug rfl rfl hb51) rfl ?_
          refine wq_un (ug rfl rfl hb51) rfl ?_
          refine wq_un (uu rfl rfl) rfl ?_
          refine wq_un (uu rfl rfl) rfl ?_
          refine wq_un (uu rfl rfl) rfl ?_
          refine wq_un (uu rfl rfl) rfl ?_
          refine wq_un (uu rfl rfl) rfl ?_
          refine wq_un (uu rfl rfl) rfl ?_
          refine wq_un (uu rfl rfl) rfl ?_
          refine wq_un (uu rfl rfl) rfl ?_
          refine wq_un (uu rfl rfl) rfl ?_
          refine wq_un (uu rfl rfl) rfl ?_
          refine wq_un (ug rfl rfl hb51) rfl ?_
          refine wq_val wn rfl (fun _ _ => (rv_pick_t (v := .bool true) rfl hb51 rfl)) ?_
          refine wq_nil ?_
          rintro w54 ⟨K53, hS55, hl56⟩
          obtain rfl := Option.some.inj h52
          exact qe_mid' ⟨K53, rfl, hS55, hl56⟩ ⟨rfl, rfl, rfl, trivial⟩
        · have h52 := cond_f hb51 h46
          refine wq_val (wg rfl rfl hb51) rfl (fun _ _ => (rv_move rfl)) ?_
          refine wq_val (wg rfl rfl hb51) rfl (fun _ _ => (rv_gtr rfl rfl)) ?_
          refine wq_val (wg rfl rfl hb51) rfl (fun _ _ => (rv_move rfl)) ?_
          rcases bool_tf (decide ((0 : Int) < s13)) with hb57 | hb57
          · have h58 := cond_t hb57 h52
            refine wq_val (wg rfl rfl hb57) rfl (fun _ _ => (rv_move rfl)) ?_
            refine wq_val (wg rfl rfl hb57) rfl (fun _ _ => (rv_move rfl)) ?_
            obtain ⟨x59, hx60, h61⟩ := Option.bind_eq_some_iff.1 h58
            refine wq_indexAddr (t := tStr) (wg rfl rfl hb57) rfl Try.underlying47 tf9 rfl rfl (SliceAt.mono hl18 hs4) hx60 ?_
            intro b62 o63 u64 hu65 ha66
            obtain ⟨rfl, hl67⟩ := hu65
            have ha68 : AtK _ b62 o63 [sv x59] := ha66
            refine wq_val (wg rfl rfl hb57) rfl (rq_load1 tf9 rfl (ha68 0 _ rfl)) ?_
            refine wq_val (wg rfl rfl hb57) rfl (fun _ _ => (rv_move rfl)) ?_
            refine wq_val (wg rfl rfl hb57) rfl (fun _ _ => (rv_move rfl)) ?_
            refine wq_val (wg rfl rfl hb57) rfl (fun _ _ => (rv_sub rfl rfl)) ?_
            obtain ⟨x69, hx70, h71⟩ := Option.bind_eq_some_iff.1 h61
            refine wq_indexAddr (t := tStr) (wg rfl rfl hb57) rfl Try.underlying47 tf9 rfl rfl (SliceAt.mono hl18 hs4) hx70 ?_
            intro b72 o73 u74 hu75 ha76
            obtain ⟨rfl, hl77⟩ := hu75
            have ha78 : AtK _ b72 o73 [sv x69] := ha76
            refine wq_val (wg rfl rfl hb57) rfl (rq_load1 tf9 rfl (ha78 0 _ rfl)) ?_
            refine wq_val (wg rfl rfl hb57) rfl (fun _ _ => (rv_sleq rfl rfl)) ?_
            refine wq_val (wg rfl rfl hb51) rfl (fun _ _ => (rv_pick_t rfl hb57 rfl)) ?_
            refine wq_val wn rfl (fun _ _ => (rv_pick_f rfl hb51 rfl)) ?_
            refine wq_nil ?_
            rintro w80 ⟨K79, hS81, hl82⟩
            obtain rfl := Option.some.inj h71
            exact qe_mid' ⟨K79, rfl, hS81, hl82⟩ ⟨rfl, rfl, rfl, trivial⟩
          · have h58 := cond_f hb57 h52
            refine wq_un (ug rfl rfl hb57) rfl ?_
            refine wq_un (ug rfl rfl hb57) rfl ?_
            refine wq_un (ug rfl rfl hb57) rfl ?_
            refine wq_un (ug rfl rfl hb57) rfl ?_
            refine wq_un (ug rfl rfl hb57) rfl ?_
            refine wq_un (ug rfl rfl hb57) rfl ?_
            refine wq_un (ug rfl rfl hb57) rfl ?_
            refine wq_un (ug rfl rfl hb57) rfl ?_
            refine wq_un (ug rfl rfl hb57) rfl ?_
            refine wq_un (ug rfl rfl hb57) rfl ?_
            refine wq_val (wg rfl rfl hb51) rfl (fun _ _ => (rv_pick_f (v := .bool false) rfl hb57 rfl)) ?_
            refine wq_val wn rfl (fun _ _ => (rv_pick_f rfl hb51 rfl)) ?_
            refine wq_nil ?_
            rintro w84 ⟨K83, hS85, hl86⟩
            obtain rfl := Option.some.inj h58
            exact qe_mid' ⟨K83, rfl, hS85, hl86⟩ ⟨rfl, rfl, rfl, trivial⟩
      · rintro _ w32 ⟨K30, rfl, hS33, hl31⟩
        refine qe_seq ?_
        refine wc_cond rfl (fun hb87 => ?_) (fun hb87 => ?_)
        · have h88 := cond_t hb87 h29
          refine wc_seq ?_
          refine wc_region ?_
          refine wl_val wn rfl (rv_assign (v := .bool false) rfl) ?_
          refine wl_nil ?_
          refine qe_seq ?_
          refine wc_ret ?_
          refine qe_block_ret ?_
          refine qe_then_ret ?_
          refine qe_then_ret ?_
          obtain rfl := Option.some.inj h88
          have e89 := hx24 _ rfl
          subst e89
          refine qe_block_ret ?_
          refine qe_then_ret ?_
          obtain rfl := Option.some.inj h16
          refine qe_then_ret ?_
          obtain rfl := Option.some.inj h7
          exact qe_ret (vs := [_]) Try.results67 ⟨rfl, trivial⟩ ⟨K30, rfl, hS33⟩
        · have h88 := cond_f hb87 h29
          refine wc_skip ?_
          refine qe_block ?_
          refine qe_seq ?_
          refine wc_region ?_
          refine wl_val wn rfl (rv_move rfl) ?_
          refine wl_val wn rfl (rv_add rfl rfl) ?_
          refine wl_val wn rfl (rv_assign rfl) ?_
          refine wl_nil ?_
          obtain rfl := Option.some.inj h88
          exact qe_mid' ⟨_, rfl, K30, rfl, hS33, (hl18.trans hl31), (w64_rng _)⟩ ⟨rfl, rfl, trivial⟩
    · have h26 := cond_f hb25 h23
      refine wc_exit ?_
      refine qe_then_exit ?_
      refine qe_then_exit ?_
      obtain rfl := Option.some.inj h26
      have e90 := hx24 _ rfl
      subst e90
      refine qe_block_eq ?_
      obtain rfl := Option.some.inj h16
      exact qe_mid' ⟨_, K17, rfl, rfl, hS20, hl18⟩ ⟨rfl, trivial⟩
  · rintro _ w11 ⟨s8, K9, rfl, rfl, hS12, hl10⟩
    refine qe_seq ?_
    refine wc_seq ?_
    refine wc_region ?_
    refine wl_val wn rfl (rv_move rfl) ?_
    refine wl_val wn rfl (rv_len (t := tStr) Try.underlying47 rfl (SliceAt.mono hl10 hs4)) ?_
    refine wl_val wn rfl (rv_leq rfl rfl) ?_
    refine wl_val wn rfl (rv_assign rfl) ?_
    refine wl_nil ?_
    refine qe_seq ?_
    refine wc_ret ?_
    obtain rfl := Option.some.inj h7
    exact qe_ret (vs := [_]) Try.results67 ⟨rfl, trivial⟩ ⟨K9, rfl, hS12⟩

theorem ok_spec_l5GlobOk (F : Nat) {w : World} {K : KMap} {p0_p : Str} {r : Bool} (hS : SH w K [] w K []) (hl1 : p0_p.length ≤ maxLen) (hm : M.spec_l5GlobOk F p0_p = some r) :
    Calls Try.prog 68 #[sv p0_p] w fun e w' => ∃ (K' : KMap), e = .returned (.bool r) ∧ SH w K [] w' K' [] := by
  rw [M.spec_l5GlobOk] at hm
  refine calls_in Try.func68 rfl Try.ntmps68 rfl ?_
  refine wc_seq ?_
  refine wc_region ?_
  refine wl_val wn rfl (rv_assign (v := .bool false) rfl) ?_
  refine wl_nil ?_
  refine qe_seq ?_
  refine wc_seq ?_
  refine wc_seq ?_
  refine wc_region ?_
  refine wl_val wn rfl (rv_assign (v := .int .i64 0) rfl) ?_
  refine wl_nil ?_
  refine qe_seq ?_
  obtain ⟨o2, h3, h4⟩ := Option.bind_eq_some_iff.1 hm
  refine wc_cutg (fun E' w' => ∃ (s5 : Unit) (K6 : KMap), o2 = .inl s5 ∧ E' = [(0, sv p0_p)] ∧ SH w K [] w' K6 [] ∧ KLe K K6) ?_ ?_
  · refine wc_block ?_
    obtain ⟨r11, h12, h13⟩ := Option.bind_eq_some_iff.1 h3
    refine wc_while' (fun (s10 : Int) E' w' => ∃ (K14 : KMap), E' = [(0, sv p0_p), (3, .int .i64 s10)] ∧ SH w K [] w' K14 [] ∧ KLe K K14 ∧ rng64 s10) h12 ⟨K, rfl, hS, (KLe.refl _), (by decide : rng64 0)⟩ ⟨rfl, rfl, trivial⟩ ?_
    rintro s10 _ w16 r19 h20 hx21 ⟨K14, rfl, hS17, hl15, hr18⟩
    refine wc_seq ?_
    refine wc_seq ?_
    refine wc_region ?_
    refine wl_val wn rfl (rv_move rfl) ?_
    refine wl_val wn rfl (rv_move rfl) ?_
    refine wl_val wn rfl (rv_slen Try.underlying9 rfl) ?_
    refine wl_val wn rfl (rv_lss rfl rfl) ?_
    refine wl_nil ?_
    refine qe_seq ?_
    refine wc_cond rfl (fun hb22 => ?_) (fun hb22 => ?_)
    · have h23 := cond_t hb22 h20
      refine wc_skip ?_
      refine qe_seq ?_
      refine wc_seq ?_
      refine wc_block ?_
      refine wc_seq ?_
      obtain ⟨o24, h25, h26⟩ := Option.bind_eq_some_iff.1 h23
      refine wc_cutg (fun E' w' => ∃ (K27 : KMap), E' = [(0, sv p0_p), (3, .int .i64 s10), (28, .bool o24)] ∧ SH w K [] w' K27 [] ∧ KLe K14 K27) ?_ ?_
      · refine wc_region ?_
        refine wl_val wn rfl (rv_move rfl) ?_
        refine wl_val wn rfl (rv_move rfl) ?_
        obtain ⟨x31, hx32, h33⟩ := Option.bind_eq_some_iff.1 h25
        refine wl_val wn rfl (rv_sidx Try.underlying9 rfl rfl hx32) ?_
        refine wl_val wn rfl (rv_bne (b := (42 : UInt8)) rfl rfl) ?_
        refine wl_val wn rfl (rv_move rfl) ?_
        rcases bool_tf ((!(x31 == (42 : UInt8)))) with hb34 | hb34
        · have h35 := cond_t hb34 h33
          refine wl_val (wg rfl rfl hb34) rfl (rv_move rfl) ?_
          refine wl_val (wg rfl rfl hb34) rfl (rv_move rfl) ?_
          obtain ⟨x36, hx37, h38⟩ := Option.bind_eq_some_iff.1 h35
          refine wl_val (wg rfl rfl hb34) rfl (rv_sidx Try.underlying9 rfl rfl hx37) ?_
          refine wl_val (wg rfl rfl hb34) rfl (rv_bne (b := (63 : UInt8)) rfl rfl) ?_
          refine wl_val wn rfl (rv_pick_t rfl hb34 rfl) ?_
          refine wl_val wn rfl (rv_move rfl) ?_
          rcases bool_tf ((!(x36 == (63 : UInt8)))) with hb39 | hb39
          · have h40 := cond_t hb39 h38
            refine wl_val (wg rfl rfl hb39) rfl (rv_move rfl) ?_
            refine wl_val (wg rfl rfl hb39) rfl (rv_move rfl) ?_
            refine wl_val (wg rfl rfl hb39) rfl (rv_move rfl) ?_
            refine wl_val (wg rfl rfl hb39) rfl (rv_add rfl rfl) ?_
            obtain ⟨x41, hx42, h43⟩ := Option.bind_eq_some_iff.1 h40
            refine wl_val (wg rfl rfl hb39) rfl (rv_ssl_lh Try.underlying9 rfl rfl rfl hx42) ?_
            obtain ⟨r44, hx45, h46⟩ := Option.bind_eq_some_iff.1 h43
            refine wl_call (wg rfl rfl hb39) rfl (rt_call (vs := [sv x41]) co96 rfl) ((ok_spec_l1WordOk F) hS17.enter0 (len_sub hl1 hx42) hx45) ?_
            rintro e50 w48 ⟨K47, rfl, hS49⟩
            refine ⟨_, rfl, ?_⟩
            have hS51 : SH _ _ _ _ _ [] := SH.call0 hS17 hS49
            refine wl_val (wg rfl rfl hb39) rfl (rv_not rfl) ?_
            refine wl_val wn rfl (rv_pick_t rfl hb39 rfl) ?_
            refine wl_nil ?_
            obtain rfl := Option.some.inj h46
            exact qe_mid' ⟨K47, rfl, hS51, hS49.le⟩ ⟨rfl, rfl, rfl, trivial⟩
          · have h40 := cond_f hb39 h38
            refine wl_un (ug rfl rfl hb39) rfl ?_
            refine wl_un (ug rfl rfl hb39) rfl ?_
            refine wl_un (ug rfl rfl hb39) rfl ?_
            refine wl_un (ug rfl rfl hb39) rfl ?_
            refine wl_un (ug rfl rfl hb39) rfl ?_
            refine wl_un (ug rfl rfl hb39) rfl ?_
            refine wl_un (ug rfl rfl hb39) rfl ?_
            refine wl_val wn rfl (rv_pick_f (v := .bool false) rfl hb39 rfl) ?_
            refine wl_nil ?_
            obtain rfl := Option.some.inj h40
            exact qe_mid' ⟨K14, rfl, hS17, (KLe.refl _)⟩ ⟨rfl, rfl, rfl, trivial⟩
        · have h35 := cond_f hb34 h33
          refine wl_un (ug rfl rfl hb34) rfl ?_
          refine wl_un (ug rfl rfl hb34) rfl ?_
          refine wl_un (ug rfl rfl hb34) rfl ?_
          refine wl_un (ug rfl rfl hb34) rfl ?_
          refine wl_val wn rfl (rv_pick_f (v := .bool false) rfl hb34 rfl) ?_
          refine wl_val wn rfl (rv_move rfl) ?_
          refine wl_un (ug rfl rfl rfl) rfl ?_
          refine wl_un (ug rfl rfl rfl) rfl ?_
          refine wl_un (ug rfl rfl rfl) rfl ?_
          refine wl_un (ug rfl rfl rfl) rfl ?_
          refine wl_un (ug rfl rfl rfl) rfl ?_
          refine wl_un (ug rfl rfl rfl) rfl ?_
          refine wl_un (ug rfl rfl rfl) rfl ?_
          refine wl_val wn rfl (rv_pick_f (v := .bool false) rfl rfl rfl) ?_
          refine wl_nil ?_
          obtain rfl := Option.some.inj h35
          exact qe_mid' ⟨K14, rfl, hS17, (KLe.refl _)⟩ ⟨rfl, rfl, rfl, trivial⟩
      · rintro _ w29 ⟨K27, rfl, hS30, hl28⟩
        refine qe_seq ?_
        refine wc_cond rfl (fun hb52 => ?_) (fun hb52 => ?_)
        · have h53 := cond_t hb52 h26
          refine wc_seq ?_
          refine wc_region ?_
          refine wl_val wn rfl (rv_assign (v := .bool false) rfl) ?_
          refine wl_nil ?_
          refine qe_seq ?_
          refine wc_ret ?_
          refine qe_block_ret ?_
          refine qe_then_ret ?_
          refine qe_then_ret ?_
          obtain rfl := Option.some.inj h53
          have e54 := hx21 _ rfl
          subst e54
          refine qe_block_ret ?_
          refine qe_then_ret ?_
          obtain rfl := Option.some.inj h13
          refine qe_then_ret ?_
          obtain rfl := Option.some.inj h4
          exact qe_ret (vs := [_]) Try.results68 ⟨rfl, trivial⟩ ⟨K27, rfl, hS30⟩
        · have h53 := cond_f hb52 h26
          refine wc_skip ?_
          refine qe_block ?_
          refine qe_seq ?_
          refine wc_region ?_
          refine wl_val wn rfl (rv_move rfl) ?_
          refine wl_val wn rfl (rv_add rfl rfl) ?_
          refine wl_val wn rfl (rv_assign rfl) ?_
          refine wl_nil ?_
          obtain rfl := Option.some.inj h53
          exact qe_mid' ⟨_, rfl, K27, rfl, hS30, (hl15.trans hl28), (w64_rng _)⟩ ⟨rfl, rfl, trivial⟩
    · have h23 := cond_f hb22 h20
      refine wc_exit ?_
      refine qe_then_exit ?_
      refine qe_then_exit ?_
      obtain rfl := Option.some.inj h23
      have e55 := hx21 _ rfl
      subst e55
      refine qe_block_eq ?_
      obtain rfl := Option.some.inj h13
      exact qe_mid' ⟨_, K14, rfl, rfl, hS17, hl15⟩ ⟨rfl, trivial⟩
  · rintro _ w8 ⟨s5, K6, rfl, rfl, hS9, hl7⟩
    refine qe_seq ?_
    refine wc_seq ?_
    refine wc_region ?_
    refine wl_val wn rfl (rv_move rfl) ?_
    refine wl_val wn rfl (rv_slen Try.underlying9 rfl) ?_
    obtain ⟨r58, hx59, h60⟩ := Option.bind_eq_some_iff.1 h4
    refine wl_call wn rfl (rt_call (vs := [.int .i64 (p0_p.length : Int), .int .i64 1, .int .i64 12]) co60 rfl) ((ok_spec_l1In F) hS9.enter0 (rng_nat hl1) (by decide : rng64 1) (by decide : rng64 12) hx59) ?_
    rintro e64 w62 ⟨K61, rfl, hS63⟩
    refine ⟨_, rfl, ?_⟩
    have hS65 : SH _ _ _ _ _ [] := SH.call0 hS9 hS63
    refine wl_val wn rfl (rv_assign rfl) ?_
    refine wl_nil ?_
    refine qe_seq ?_
    refine wc_ret ?_
    obtain rfl := Option.some.inj h60
    exact qe_ret (vs := [_]) Try.results68 ⟨rfl, trivial⟩ ⟨K61, rfl, hS65⟩
end Go.Proofs.Ytajfhpaokbgmeaa
